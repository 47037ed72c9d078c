import Derived.Test.YtkaedhooccpniaaHandM1
import Derived.Laws.MakeOwn
import Derived.Laws.CopyOwn
import Derived.Deep.RegionLaw
import Derived.Deep.RegionHeld3
import Derived.Deep.QuietTactic
import Derived.BigQuiet
import Derived.Maps.RangeWalk
import Derived.Carry
/- A table of booleans, rows behind rows: what holds of it in the walks by hand. -/
namespace Go.Proofs.Ytkaedhooccpniaa.Hand
open Go.RowKit Go.Proofs.YtkaedhooccpniaaW.PrintWords Go.Proofs.YtkaedhooccpniaaW.PrintLast Go.Proofs.YtkaedhooccpniaaW.PrintMore Go.Proofs.Ytkaedhooccpniaa.PA
set_option linter.unusedVariables false
set_option linter.unusedSimpArgs false
theorem info29 : (Try.prog.info? 29).map (fun i => (i.zero, i.size, i.bytes)) = some (some (.slice none 0 0), 1, 24) := by kernel_rfl
theorem mk_gen {t e : TypeId} {z : Value} {by_ : Nat} (ht : Try.prog.underlying t = some (.slice e)) (hi : (Try.prog.info? e).map (fun i => (i.zero, i.size, i.bytes)) = some (some z, 1, by_)) (hz : z.cells = #[z]) (hb : by_ ≤ 100) (n : Nat) (hn : n ≤ 1000000000) (w : World) :
    (Instr.makeSlice t (.int .i64 n) (.int .i64 n)).run Try.prog w = .ok (.slice (some ⟨w.heap.size, 0, none⟩) n n) (w.alloc (.cells (List.replicate n z).toArray e)) := by
  obtain ⟨i0, hi, hzz⟩ := Option.map_eq_some_iff.1 hi
  simp only [Prod.mk.injEq] at hzz
  obtain ⟨hz0, hz1, hz2⟩ := hzz
  have hmul : n * by_ ≤ 1000000000 * 100 := Nat.mul_le_mul hn hb
  have h := run_make (P := Try.prog) w t e i0 z ht hi hz0 .i64 .i64 n n (by omega) (by omega) (by
    rw [hz2, Int.mul_comm]
    have : ((n * by_ : Nat) : Int) ≤ ((1000000000 * 100 : Nat) : Int) := Int.ofNat_le.2 hmul
    rw [Int.natCast_mul] at this
    omega) (by omega)
  rw [h]
  simp only [Int.toNat_natCast, hz1, Nat.mul_one, hz]
  congr 2
  rw [← toList_madeCells_one z n]
theorem mkB (n : Nat) (hn : n ≤ 1000000000) (w : World) : (Instr.makeSlice 29 (.int .i64 n) (.int .i64 n)).run Try.prog w = .ok (.slice (some ⟨w.heap.size, 0, none⟩) n n) (w.alloc (.cells (List.replicate n (Value.bool false)).toArray 4)) :=
  mk_gen Try.underlying29 info4 rfl (by decide) n hn w
theorem mkR (n : Nat) (hn : n ≤ 1000000000) (w : World) : (Instr.makeSlice 51 (.int .i64 n) (.int .i64 n)).run Try.prog w = .ok (.slice (some ⟨w.heap.size, 0, none⟩) n n) (w.alloc (.cells (List.replicate n (Value.slice none 0 0)).toArray 29)) :=
  mk_gen Try.underlying51 info29 rfl (by decide) n hn w
theorem blk_old {w : World} {o x : Obj} {b : Nat} (h : w.heap[b]? = some x) : (w.alloc o).heap[b]? = some x := blk_Kp (S := fun _ => False) h (Kp.of_below (below_alloc (Below.refl _ _) _)) (fun h => h)
theorem blk_below' {w w' : World} {x : Obj} {b : Nat} (h : w.heap[b]? = some x) (hb : Below w.heap.size w w') : w'.heap[b]? = some x := blk_Kp (S := fun _ => False) h (Kp.of_below hb) (fun h => h)
/-- The table, as a value. -/
def getT (T : List (List Bool)) (i j : Nat) : Bool := (T.getD i []).getD j false
def setT (T : List (List Bool)) (i j : Nat) (v : Bool) : List (List Bool) := T.set i ((T.getD i []).set j v)
def rowV (n r : Nat) : Value := .slice (some ⟨r, 0, none⟩) n n
structure TabI (ob n : Nat) (rb : List Nat) (T : List (List Bool)) (W : World) : Prop where
  o : W.heap[ob]? = some (.cells (rb.map (rowV n)).toArray 29 (0, 0))
  rl : rb.length = n
  tl : T.length = n
  tr : ∀ i, i < n → (T.getD i []).length = n
  row : ∀ i (h : i < rb.length), W.heap[rb[i]]? = some (.cells ((T.getD i []).map Value.bool).toArray 4 (0, 0))
  nd : rb.Nodup
  no : ob ∉ rb
section
variable {ob n : Nat} {rb : List Nat} {T : List (List Bool)} {W W' : World}
theorem TabI.below (h : TabI ob n rb T W) (hb : Below W.heap.size W W') : TabI ob n rb T W' :=
  ⟨blk_below' h.o hb, h.rl, h.tl, h.tr, fun i hi => blk_below' (h.row i hi) hb, h.nd, h.no⟩
theorem TabI.outer (h : TabI ob n rb T W) (i : Nat) (hi : i < rb.length) : W.cell? ⟨ob, i, none⟩ = some (rowV n rb[i]) := cell_of_block h.o i _ (by simp [hi])
theorem TabI.cell (h : TabI ob n rb T W) (i j : Nat) (hi : i < rb.length) (hj : j < n) : W.cell? ⟨rb[i], j, none⟩ = some (.bool (getT T i j)) := by
  have hl := h.tr i (by rw [← h.rl]; exact hi)
  refine cell_of_block (h.row i hi) j _ ?_
  simp only [List.getElem?_toArray, List.getElem?_map, getT]
  rw [List.getElem?_eq_getElem (by omega), List.getD_eq_getElem?_getD (l := T.getD i []), List.getElem?_eq_getElem (by omega)]
  rfl
theorem TabI.frozen (h : TabI ob n rb T W) (i j : Nat) (hi : i < rb.length) : W.frozen? ⟨rb[i], j, none⟩ = false := blk_frozen (h.row i hi) j
theorem TabI.set (h : TabI ob n rb T W) (i j : Nat) (v : Bool) (hi : i < rb.length) (hj : j < n) : TabI ob n rb (setT T i j v) (W.setCell ⟨rb[i], j, none⟩ (.bool v)) := by
  have hin : i < n := by rw [← h.rl]; exact hi
  refine ⟨?_, h.rl, by simp [setT, h.tl], fun k hk => ?_, fun k hk => ?_, h.nd, h.no⟩
  · have : ob ≠ rb[i] := fun e => h.no (e ▸ List.getElem_mem hi)
    exact (Below.heap_setCell W ⟨rb[i], j, none⟩ _ ob this).trans h.o
  · rw [setT, List.getD_eq_getElem?_getD, List.getElem?_set]
    by_cases e : i = k
    · subst e
      rw [if_pos rfl, if_pos (by rw [h.tl]; exact hin)]
      simp only [Option.getD_some, List.length_set]
      exact h.tr i hin
    · rw [if_neg e, ← List.getD_eq_getElem?_getD]
      exact h.tr k hk
  · rw [setT, List.getD_eq_getElem?_getD, List.getElem?_set]
    by_cases e : i = k
    · subst e
      rw [if_pos rfl, if_pos (by rw [h.tl]; exact hin)]
      simp only [Option.getD_some, List.map_set]
      have := blk_set (h.row i hi) j (.bool v)
      simpa using this
    · have hne : rb[k] ≠ rb[i] := fun e2 => e ((List.getElem_inj h.nd).1 e2).symm
      rw [if_neg e, ← List.getD_eq_getElem?_getD]
      exact (Below.heap_setCell W ⟨rb[i], j, none⟩ _ rb[k] hne).trans (h.row k hk)
end
end Go.Proofs.Ytkaedhooccpniaa.Hand
/- Appends in regions that draw their order, where the old memory is kept. -/
namespace Go.Proofs.Ytkaedhooccpniaa.Hand
open Go.RowKit Go.Proofs.YtkaedhooccpniaaW.PrintWords Go.Proofs.YtkaedhooccpniaaW.PrintLast Go.Proofs.YtkaedhooccpniaaW.PrintMore Go.Proofs.Ytkaedhooccpniaa.PA
set_option linter.unusedVariables false
set_option linter.unusedSimpArgs false
/-- A slice value that reads as xs. -/
def Rd {α : Type} (d : Kd α) (w : World) (v : Value) (xs : List α) : Prop := ∃ A c, v = .slice A xs.length c ∧ xs.length ≤ c ∧ Kd.C d w A xs.length xs
theorem Rd.below {α : Type} {d : Kd α} {w w' : World} {v : Value} {xs : List α} (h : Rd d w v xs) (hb : Below w.heap.size w w') : Rd d w' v xs := by
  obtain ⟨A, c, e, hl, hc⟩ := h
  exact ⟨A, c, e, hl, Kd.C_below hc hb⟩
theorem Rd.nil {α : Type} (d : Kd α) (w : World) : Rd d w (.slice none 0 0) [] := ⟨none, 0, rfl, Nat.le_refl _, Kd.C_nil d w⟩

theorem nameW {P : Program} {c : Code} {Q : Exit → Act → World → Prop} {a : Act} {w : World} (h : ∀ w2, w2 = w → Code.wp P c Q a w2) : Code.wp P c Q a w := h w rfl
theorem R_none {α : Type} (d : Kd α) (e base : Nat) {W0 W : World} (hb : base ≤ W.heap.size) : Kd.R (Kd.fixed d W0) e (W.alloc (.cells #[] e)) base (fun _ => True) (.slice (some ⟨W.heap.size, 0, none⟩) 0 0) [] :=
  ⟨fun _ _ => trivial, [], ⟨by simp, .inr ⟨W.heap.size, 0, #[], rfl, hb, blk_new rfl, Nat.le_refl _, by simp [maxLen], by simp, by simp⟩⟩, by simp, fun j p hj => by simp at hj⟩
theorem app_gen {α : Type} (d : Kd α) {W0 wb W : World} {ops : Array Oper} {oo : Oper} {a : Act} {Q : Exit → Act → World → Prop} {Kc : Act → World → Prop} (t e : TypeId) (z : Value) (bytes : Nat) (ht : Try.prog.underlying t = some (.slice e)) (hi : (Try.prog.info? e).map (fun i => (i.zero, i.size, i.bytes)) = some (some z, d.sz, bytes)) (hz : z.cells.size = d.sz) (hsz : 0 < d.sz) (hby : 0 < bytes) (hby2 : bytes ≤ 1000)
    (hw : Region.wanted oo (yielded ops a.tmps) = true) (s x : Operand) (ho : oo.op = .call { callee := .builtin .append, args := #[s, x], argTypes := #[t, t] }) (v : Value) (xs ys : List α) (A : Option Addr) (m c : Nat) (hs : a.eval s = v) (hx : a.eval x = .slice A m c)
    (HO : Kd.R (Kd.fixed d W0) e W wb.heap.size (fun _ => True) v xs) (HR : (Kd.fixed d W0).C wb A m ys) (hB : Below wb.heap.size wb W) (hl : xs.length + m ≤ 1000)
    (h : ∀ v1 w1, Kd.R (Kd.fixed d W0) e w1 wb.heap.size (fun _ => True) v1 (xs ++ ys) → Below wb.heap.size wb w1 → Kc (a.put oo.dst v1) w1) :
    if Region.wanted oo (yielded ops a.tmps) = true then Oper.wp Try.prog oo a W Kc Q else Kc (a.put oo.dst undef) W := by
  refine Kd.R_append_rows_step (Kd.fixed d W0) (Rr := d.K W0) (w0 := W) wb.heap.size hw s x t e z bytes ho ht hi hz hsz hby v xs ys A m c (fun _ => True) (fun _ => False) hs hx HO (Kd.C_below HR hB) (fun _ _ h => h) (fun _ h => h.elim) (fun _ _ => trivial) (Below.refl _ _) hB.size (Nat.le_trans (Nat.mul_le_mul hl hby2) (by decide)) ?_
  intro v1 w1 h1 h2 _ _
  exact h v1 w1 h1 (hB.trans h2)
/-- A row of elements that share old memory, read as one's own. -/
theorem Rd_fixed {α : Type} {d : Kd α} {e base : Nat} {W W' : World} {ok : Nat → Prop} {v : Value} {xs : List α} (h : Kd.R (Kd.fixed d W) e W' base ok v xs) (hb : Below W.heap.size W W') : Rd d W' v xs := by
  obtain ⟨A, c, e, hl, hC⟩ := Kd.R_reads h
  refine ⟨A, c, e, hl, hC.1, hC.2.1, fun hp => ?_⟩
  obtain ⟨ad, e2, h3⟩ := hC.2.2 hp
  exact ⟨ad, e2, fun j p hj => by
    obtain ⟨cs, h4, h5, h6⟩ := h3 j p hj
    exact ⟨cs, h4, d.K_below hb h5, h6⟩⟩
theorem rdK {α : Type} {d : Kd α} {w : World} {v : Value} {xs : List α} {n : Nat} (h : Rd d w v xs) (e : xs.length = n) : ∃ A c, v = .slice A n c ∧ (Kd.C d w A n xs ∧ n ≤ c) := by
  obtain ⟨A, c, rfl, hl, hC⟩ := h
  subst e
  exact ⟨A, c, rfl, hC, hl⟩
end Go.Proofs.Ytkaedhooccpniaa.Hand
/- analysis.Cyclic: what it computes, and the words of its walk. -/
namespace Go.Proofs.Ytkaedhooccpniaa.Hand
open Go.RowKit Go.Proofs.YtkaedhooccpniaaW.PrintWords Go.Proofs.YtkaedhooccpniaaW.PrintLast Go.Proofs.YtkaedhooccpniaaW.PrintMore Go.Proofs.Ytkaedhooccpniaa.PA
set_option linter.unusedVariables false
set_option linter.unusedSimpArgs false
def nullSym (null : List Bool) (y : Int) : Bool := decide (y < 0) && rdOf false null (-1 - y)
def restOf (b : List Int) (i : Nat) : List Int := b.take i ++ b.drop (i + 1)
def cycAt (null : List Bool) (r : S41) (T : List (List Bool)) (i : Nat) : List (List Bool) := if decide (r.f1.getD i 0 < 0) && (restOf r.f1 i).all (nullSym null) then setT T r.f0.toNat (-1 - r.f1.getD i 0).toNat true else T
def cycRule (null : List Bool) (T : List (List Bool)) (r : S41) : List (List Bool) := (List.range r.f1.length).foldl (cycAt null r) T
def warJ (k i : Nat) (T : List (List Bool)) (j : Nat) : List (List Bool) := setT T i j (getT T i j || (getT T i k && getT T k j))
def warI (n k : Nat) (T : List (List Bool)) (i : Nat) : List (List Bool) := (List.range n).foldl (warJ k i) T
def warK (n : Nat) (T : List (List Bool)) (k : Nat) : List (List Bool) := (List.range n).foldl (warI n k) T
def warS (n : Nat) (T : List (List Bool)) : List (List Bool) := (List.range n).foldl (warK n) T
def cycOut (n : Nat) (T : List (List Bool)) : List Bool := (List.range n).map (fun i => getT T i i)
def cyc0 (n : Nat) : List (List Bool) := List.replicate n (List.replicate n false)
def cycF (null : List Bool) (n : Nat) (rules : List S41) : List Bool := cycOut n (warS n (rules.foldl (cycRule null) (cyc0 n)))
theorem range_foldl {α : Type} (f : α → Nat → α) (a : α) (k : Nat) : (List.range (k + 1)).foldl f a = f ((List.range k).foldl f a) k := by rw [List.range_succ, List.foldl_append]; rfl
theorem take_foldl {α β : Type} (f : α → β → α) (a : α) (l : List β) (k : Nat) (hk : k < l.length) : (l.take (k + 1)).foldl f a = f ((l.take k).foldl f a) l[k] := by
  rw [List.take_succ_eq_append_getElem hk, List.foldl_append]; rfl
/-- The rows, while they are made. -/
structure PartI (ob n ii : Nat) (rb : List Nat) (W : World) : Prop where
  o : W.heap[ob]? = some (.cells (rb.map (rowV n) ++ List.replicate (n - ii) (Value.slice none 0 0)).toArray 29 (0, 0))
  rl : rb.length = ii
  row : ∀ i (h : i < rb.length), W.heap[rb[i]]? = some (.cells (List.replicate n (Value.bool false)).toArray 4 (0, 0))
  nd : rb.Nodup
  no : ob ∉ rb
theorem PartI.zero {ob n : Nat} {W : World} (h : W.heap[ob]? = some (.cells (List.replicate n (Value.slice none 0 0)).toArray 29 (0, 0))) : PartI ob n 0 [] W :=
  ⟨by simpa using h, rfl, fun i h => absurd h (Nat.not_lt_zero _), List.nodup_nil, by simp⟩
theorem PartI.below {ob n ii : Nat} {rb : List Nat} {W W' : World} (h : PartI ob n ii rb W) (hb : Below W.heap.size W W') : PartI ob n ii rb W' :=
  ⟨blk_below' h.o hb, h.rl, fun i hi => blk_below' (h.row i hi) hb, h.nd, h.no⟩
theorem PartI.step {ob n ii : Nat} {rb : List Nat} {W : World} (h : PartI ob n ii rb W) (hi : ii < n) :
    PartI ob n (ii + 1) (rb ++ [W.heap.size]) ((W.alloc (.cells (List.replicate n (Value.bool false)).toArray 4)).setCell ⟨ob, ii, none⟩ (rowV n W.heap.size)) := by
  have hlt : ∀ r ∈ rb, r < W.heap.size := fun r hr => by
    obtain ⟨i, hi, rfl⟩ := List.getElem_of_mem hr
    exact (Array.getElem?_eq_some_iff.1 (h.row i hi)).1
  have hol : ob < W.heap.size := (Array.getElem?_eq_some_iff.1 h.o).1
  refine ⟨?_, by simp [h.rl], fun i hi' => ?_, ?_, ?_⟩
  · have := blk_set (blk_old (o := .cells (List.replicate n (Value.bool false)).toArray 4) h.o) ii (rowV n W.heap.size)
    refine this.trans ?_
    congr 2
    rw [List.setIfInBounds_toArray]
    congr 1
    have e1 : (rb.map (rowV n)).length = ii := by simp [h.rl]
    rw [List.set_append_right _ _ (by omega), e1, Nat.sub_self, List.map_append, List.append_assoc]
    congr 1
    rw [show n - ii = (n - (ii + 1)) + 1 by omega, List.replicate_succ, List.set_cons_zero]
    rfl
  · have hne : (rb ++ [W.heap.size])[i] ≠ ob := by
      rw [List.getElem_append]
      split
      · exact fun e => h.no (e ▸ List.getElem_mem _)
      · simp; omega
    refine (Below.heap_setCell _ ⟨ob, ii, none⟩ _ _ hne).trans ?_
    rw [List.getElem_append]
    split
    · rename_i h1
      exact blk_old (h.row i h1)
    · simp only [List.getElem_singleton]
      exact blk_new rfl
  · rw [List.nodup_append]
    refine ⟨h.nd, by simp, fun a ha b hb => ?_⟩
    have := hlt a ha
    simp at hb
    omega
  · intro hm
    rcases List.mem_append.1 hm with hm | hm
    · exact h.no hm
    · simp at hm; omega
theorem PartI.done {ob n : Nat} {rb : List Nat} {W : World} (h : PartI ob n n rb W) : TabI ob n rb (cyc0 n) W := by
  refine ⟨by simpa using h.o, h.rl, by simp [cyc0], fun i hi => by simp [cyc0, List.getD_eq_getElem?_getD, hi], fun i hi => ?_, h.nd, h.no⟩
  have : i < n := by rw [← h.rl]; exact hi
  refine (h.row i hi).trans ?_
  simp [cyc0, List.getD_eq_getElem?_getD, this]
set_option maxHeartbeats 1000000 in
theorem predC_calls (x : Int) (tb : Nat) (bs : List Bool) (An : Option Addr) (cn : Nat) (W : World) (hlo : -9223372036854775808 ≤ x) (hhi : x ≤ 9223372036854775807) (hx : x < 0 → -1 - x < bs.length)
    (ho : W.cell? ⟨tb, 0, none⟩ = some (.slice An bs.length cn)) (hR : Kd.C Kd.bool W An bs.length bs) :
    Calls Try.prog 39 #[.int .i64 x, .pointer (some ⟨tb, 0, none⟩)] W fun e w' => e = .returned (.bool (nullSym bs x)) ∧ W = w' := by
  by_cases h0 : x < 0
  · have h1 : decide (x < 0) = true := decide_eq_true h0
    have hr : nullSym bs x = rdOf false bs (-1 - x) := by simp [nullSym, h0]
    have hxx := hx h0
    obtain ⟨ad, e, c0⟩ := Kd.at_bool hR (-1 - x) (by omega) hxx
    subst e
    rw [hr]
    have hw : IntKind.i64.wrap (-1 - x) = -1 - x := IntWalk.i64_in _ (by omega)
    clear hR hr hx
    have h3 : (0 : Int) ≤ -1 - x := by omega
    generalize rdOf false bs (-1 - x) = bv at c0 ⊢
    go_enter Try.func39, Try.ntmps39
    go_wp2
    go_ret
    exact ⟨rfl, rfl⟩
  · have h1 : decide (x < 0) = false := decide_eq_false h0
    have hr : nullSym bs x = false := by simp [nullSym, h0]
    rw [hr]
    clear hR ho hr
    go_enter Try.func39, Try.ntmps39
    go_wp2
    go_ret
    exact ⟨rfl, rfl⟩
end Go.Proofs.Ytkaedhooccpniaa.Hand
/- Sets of terminals as maps: what a block holds, and what the operations do. -/
namespace Go.Proofs.Ytkaedhooccpniaa.Hand
open Go.RowKit Go.Proofs.YtkaedhooccpniaaW.PrintWords Go.Proofs.YtkaedhooccpniaaW.PrintLast Go.Proofs.YtkaedhooccpniaaW.PrintMore Go.Proofs.Ytkaedhooccpniaa.PA
open Go.WideElems (Fit rd rg pl rd_val rd_key rg_of)
open Go.ChangeMaps Go.MapKept
set_option linter.unusedVariables false
set_option linter.unusedSimpArgs false
def trueR (v : Value) : Option (DataW Unit × List MemPlace) := match v with | .bool true => some (.lit (.bool true), []) | _ => none
theorem trueR_inv {v : Value} {y : DataW Unit × List MemPlace} (h : trueR v = some y) : v = .bool true ∧ y = (.lit (.bool true), []) := by
  unfold trueR at h
  split at h
  · cases h; exact ⟨rfl, rfl⟩
  · cases h
def inRow (row : List Bool) (t : Int) : Bool := decide (-1 ≤ t) && row.getD (t + 1).toNat false
theorem K3 : Maps.Keyed Try.prog 3 := Maps.int_keyed Try.underlying3
def Wf (t : Int) : Prop := -9223372036854775808 ≤ t ∧ t ≤ 9223372036854775807
instance wfDec (t : Int) : Decidable (Wf t) := by unfold Wf; infer_instance
theorem Wf.lit {t : Int} (h : Wf t) : (Lit.int .i64 t).wf = true := by
  have e0 : IntKind.i64.min = -9223372036854775808 := by decide
  have e1 : IntKind.i64.max = 9223372036854775807 := by decide
  simp [Lit.wf, e0, e1]
  exact h
theorem Wf.of {t : Int} (h : (Lit.int .i64 t).wf = true) : Wf t := by
  have e0 : IntKind.i64.min = -9223372036854775808 := by decide
  have e1 : IntKind.i64.max = 9223372036854775807 := by decide
  simp [Lit.wf, e0, e1] at h
  exact h
theorem keyW {t : Int} (h : Wf t) : keyOf Try.prog 3 (.int .i64 t) = some (.int .i64 t) := Maps.keyOf_int_mk Try.underlying3 h.lit
theorem zeroB (w : World) : (zeroValue 4).run Try.prog w = .ok (.bool false) w := by kernel_rfl
theorem shrink {b n : Nat} {D : DataW Unit} {w : World} (h : w.ownsMap Try.prog 3 trueR b n D) : w.ownsMap Try.prog 3 trueR b (Maps.size D) D := by
  obtain ⟨es, clock, hb, F, hs, rfl⟩ := h
  exact ⟨es, clock, hb, F, by simp [Maps.size, length_sorted], rfl⟩
/-- What a map of a set is good for. -/
def MapS (W : World) (b : Nat) (row : List Bool) : Prop :=
  ∃ D : DataW Unit, W.ownsMap Try.prog 3 trueR b (Maps.size D) D ∧ Maps.size D = row.count true ∧ ∀ t, Wf t → Maps.has D (.int .i64 t) = inRow row t
section
variable {W W' : World} {b : Nat} {row : List Bool}
theorem MapS.lt (h : MapS W b row) : b < W.heap.size := by obtain ⟨D, h1, _⟩ := h; exact h1.lt
theorem MapS.heap (h : MapS W b row) (he : W'.heap[b]? = W.heap[b]?) : MapS W' b row := by
  obtain ⟨D, ⟨es, clock, hb, F, hs, hD⟩, h2, h3⟩ := h
  exact ⟨D, ⟨es, clock, he.trans hb, F, hs, hD⟩, h2, h3⟩
theorem MapS.below (h : MapS W b row) (hb : Below W.heap.size W W') : MapS W' b row := h.heap (hb.block b h.lt)
theorem MapS.kp {S : Nat → Prop} (h : MapS W b row) (hk : Kp S W W') (hs : ¬ S b) : MapS W' b row := h.heap (hk.block b h.lt hs)
theorem MapS.made (W : World) (wd : Nat) : MapS (W.alloc (.map #[] 0)) W.heap.size (List.replicate wd false) := by
  refine ⟨.map [], World.ownsMap_made _ _ _ _, ?_, fun t ht => ?_⟩
  · simp [Maps.size, List.count_replicate]
  · have : inRow (List.replicate wd false) t = false := by
      unfold inRow
      rw [List.getD_eq_getElem?_getD, List.getElem?_replicate]
      split <;> simp
    rw [this]
    rfl
theorem MapS.len (h : MapS W b row) (ty : TypeId) : (Builtin.len_ #[61] ty #[.map (some b)]).run Try.prog W = .ok (.int .i64 (row.count true : Nat)) W := by
  obtain ⟨D, h1, h2, h3⟩ := h
  rw [h1.len Try.underlying61 ty, h2]
theorem MapS.look (h : MapS W b row) {t : Int} (ht : Wf t) : (Instr.lookup 61 (.map (some b)) (.int .i64 t) false).run Try.prog W = .ok (.bool (inRow row t)) W := by
  obtain ⟨D, ⟨es, clock, hb, F, hs, rfl⟩, h2, h3⟩ := h
  rcases Maps.fit_look false K3 Try.underlying61 (zeroB W) hb F (keyW ht) with ⟨hrun, _, hat⟩ | ⟨e0, y, _, _, hrun, hRv, hat, _⟩
  · rw [← h3 t ht, Maps.has_false_of_atKey hat, hrun]
    rfl
  · obtain ⟨hv, rfl⟩ := trueR_inv hRv
    rw [← h3 t ht, Maps.has_true_of_atKey hat, hrun, hv]
    rfl
theorem setBlock_same {w : World} {b : Nat} {o : Obj} (h : w.heap[b]? = some o) : setBlock w b o = w := by
  obtain ⟨hlt, he⟩ := Array.getElem?_eq_some_iff.1 h
  unfold setBlock
  have : w.heap.setIfInBounds b o = w.heap := by
    apply Array.ext_getElem?
    intro i
    rw [Array.getElem?_setIfInBounds]
    split
    · rename_i e
      subst e
      exact h.symm
    · rfl
  rw [this]
/-- A store at a key that is there changes nothing. -/
theorem MapS.upd_in (h : MapS W b row) {t : Int} (ht : Wf t) (hin : inRow row t = true) : (Instr.mapUpdate 61 (.map (some b)) (.int .i64 t) (.bool true)).run Try.prog W = .ok () W := by
  obtain ⟨D, ⟨es, clock, hb, F, hs, rfl⟩, h2, h3⟩ := h
  have hkey := keyW ht
  rcases K3.find W hkey es.toList F.keys with ⟨h4, h5⟩ | ⟨j, e0, h4, h5, h6⟩
  · exfalso
    rcases Maps.fit_look false K3 Try.underlying61 (zeroB W) hb F hkey with ⟨_, _, hat⟩ | ⟨e0, y, hm, hk, _⟩
    · have := h3 t ht
      rw [Maps.has_false_of_atKey hat, hin] at this
      cases this
    · exact h5 e0 hm hk
  · have hj : es[j]? = some e0 := by simpa using h5
    obtain ⟨y, hy⟩ := F.reads e0 (List.mem_of_getElem? h5)
    obtain ⟨z, hz, _⟩ := rd_val hy
    have hv := (trueR_inv hz).1
    have hmod : es.modify j (fun e' => { key := .int .i64 t, val := .bool true, born := e'.born }) = es := by
      apply Array.ext_getElem?
      intro i
      rw [Array.getElem?_modify]
      split
      · rename_i e
        subst e
        rw [hj]
        obtain ⟨k0, v0, b0⟩ := e0
        simp only at hv h6
        subst hv h6
        rfl
      · rfl
    have hrun : (Instr.mapUpdate 61 (.map (some b)) (.int .i64 t) (.bool true)).run Try.prog W = .ok () (setBlock W b (.map (es.modify j (fun e' => { key := .int .i64 t, val := .bool true, born := e'.born })) clock)) := by
      simp [Instr.mapUpdate, run_underlying Try.underlying61, MapKept.run_getObj_map hb, K3.check W false hkey, h4, hj, h6, K3.stays W hkey, MapKept.run_setObj_map _ hb, Result.andThen, setBlock]
    rw [hrun, hmod, setBlock_same hb]
theorem count_set {row : List Bool} {i : Nat} (hi : i < row.length) (h : row.getD i false = false) : (row.set i true).count true = row.count true + 1 := by
  rw [List.getD_eq_getElem?_getD, List.getElem?_eq_getElem hi] at h
  simp only [Option.getD_some] at h
  rw [List.count_set hi, h]
  simp
theorem getD_set_b (row : List Bool) (i j : Nat) (hi : i < row.length) : (row.set i true).getD j false = (decide (i = j) || row.getD j false) := by
  rw [List.getD_eq_getElem?_getD, List.getElem?_set]
  by_cases e : i = j
  · subst e
    simp [hi]
  · rw [if_neg e, List.getD_eq_getElem?_getD]
    simp [e]
theorem set_same_b {row : List Bool} {i : Nat} (h : row.getD i false = true) : row.set i true = row := by
  by_cases hi : i < row.length
  · rw [List.getD_eq_getElem?_getD, List.getElem?_eq_getElem hi] at h
    simp only [Option.getD_some] at h
    apply List.ext_getElem (by simp)
    intro k h1 h2
    rw [List.getElem_set]
    split
    · rename_i e
      subst e
      exact h.symm
    · rfl
  · rw [List.set_eq_of_length_le (by omega)]
/-- A store, whatever was there. -/
theorem MapS.upd (h : MapS W b row) {t : Int} (h1 : -1 ≤ t) (h2 : (t + 1).toNat < row.length) (h3 : row.length ≤ 1000000) :
    ∃ W', (Instr.mapUpdate 61 (.map (some b)) (.int .i64 t) (.bool true)).run Try.prog W = .ok () W' ∧ MapS W' b (row.set (t + 1).toNat true) ∧ Kp (fun k => k = b) W W' := by
  have ht : Wf t := ⟨by omega, by omega⟩
  cases hin : inRow row t with
  | true =>
    have hg : row.getD (t + 1).toNat false = true := by simpa [inRow, h1] using hin
    refine ⟨W, h.upd_in ht hin, ?_, Kp.refl _ _⟩
    rw [set_same_b hg]
    exact h
  | false =>
    have hg : row.getD (t + 1).toNat false = false := by simpa [inRow, h1] using hin
    obtain ⟨D, k1, k2, k3⟩ := h
    have hcnt : row.count true ≤ row.length := List.count_le_length
    obtain ⟨W', hrun, hown, hgr⟩ := k1.update (val := .bool true) (d := .lit (.bool true)) (ps := []) K3 Try.underlying61 (by unfold maxLen; omega) (keyW ht) rfl
    have htidy := k1.tidy K3
    have hmap := k1.isMap
    have hkl : WideAt.IsKeyLit (.int .i64 t) := K3.key (keyW ht)
    refine ⟨W', hrun, ⟨_, shrink hown, ?_, fun s hs => ?_⟩, ⟨hgr.os, hgr.tape, hgr.output, hgr.size, fun i hi hn => hgr.block i hi (fun e => hn (Option.some.inj e))⟩⟩
    · rw [Maps.size_put htidy, k3 t ht, hin, if_neg (by simp), k2, count_set h2 hg]
    · by_cases e : s = t
      · subst e
        rw [Maps.has_put_same hmap hkl]
        unfold inRow
        rw [getD_set_b _ _ _ h2, decide_eq_true h1]
        simp
      · rw [Maps.has_put_other (by simpa using e), k3 s hs]
        unfold inRow
        by_cases hs1 : -1 ≤ s
        · rw [getD_set_b _ _ _ h2, decide_eq_false (show ¬ (t + 1).toNat = (s + 1).toNat by omega), Bool.false_or]
        · simp [hs1]
/-- A range over a set under way: what is still to come. -/
def MapR (W : World) (b r : Nat) (row : List Bool) (left : Int → Bool) (cnt : Nat) : Prop :=
  ∃ (D : DataW Unit) (lf : Lit → Bool), W.ranges Try.prog 3 trueR b r (Maps.size D) D lf cnt ∧ Maps.size D = row.count true ∧ (∀ t, Wf t → Maps.has D (.int .i64 t) = inRow row t) ∧ (∀ t, lf (.int .i64 t) = left t) ∧ (∀ t, left t = true → Wf t ∧ inRow row t = true)
theorem MapR.set {r : Nat} {left : Int → Bool} {cnt : Nat} (h : MapR W b r row left cnt) : MapS W b row := by
  obtain ⟨D, lf, h1, h2, h3, _⟩ := h
  exact ⟨D, h1.owns, h2, h3⟩
theorem MapR.lt {r : Nat} {left : Int → Bool} {cnt : Nat} (h : MapR W b r row left cnt) : r < W.heap.size := by
  obtain ⟨D, lf, h1, _⟩ := h
  exact h1.lt
theorem MapR.kp {S : Nat → Prop} {r : Nat} {left : Int → Bool} {cnt : Nat} (h : MapR W b r row left cnt) (hk : Kp S W W') (hb : ¬ S b) (hr : ¬ S r) : MapR W' b r row left cnt := by
  have l1 := h.set.lt
  have l2 := h.lt
  obtain ⟨D, lf, ⟨es, clock, since, seen, c0, a1, F, hs, hD, a2, rest⟩, h2⟩ := h
  exact ⟨D, lf, ⟨es, clock, since, seen, c0, (hk.block b l1 hb).trans a1, F, hs, hD, (hk.block r l2 hr).trans a2, rest⟩, h2⟩
/-- 'range m'. -/
theorem MapS.range (h : MapS W b row) : ∃ W', (Instr.range 61 (.map (some b))).run Try.prog W = .ok (.pointer (some ⟨W.heap.size, 0, none⟩)) W' ∧ MapR W' b W.heap.size row (fun t => decide (Wf t) && inRow row t) (row.count true) ∧ Below W.heap.size W W' := by
  obtain ⟨D, h1, h2, h3⟩ := h
  obtain ⟨W', hrun, hr, hg, hsz⟩ := h1.range K3 Try.underlying61
  refine ⟨W', hrun, ⟨D, Maps.has D, by rw [← h2]; exact hr, h2, h3, fun t => ?_, fun t ht => ?_⟩, ⟨hg.os, hg.tape, hg.output, hg.size, fun i hi => hg.block i hi (by simp)⟩⟩
  · by_cases hw : Wf t
    · rw [h3 t hw]; simp [hw]
    · show _ = (decide (Wf t) && inRow row t)
      rw [decide_eq_false hw, Bool.false_and]
      cases hh : Maps.has D (.int .i64 t) with
      | false => rfl
      | true =>
        exfalso
        obtain ⟨es, hes, _, hk⟩ := h1.entries K3
        subst hes
        obtain ⟨p, hp, hpk⟩ := List.any_eq_true.1 hh
        have e1 := WideAt.sameKey_eq hpk
        obtain ⟨es0, clock, hb0, F, hs0, hD0⟩ := h1
        have hD0' := DataW.map.inj hD0
        rw [hD0'] at hp
        obtain ⟨x, hx, rfl⟩ := List.mem_map.1 (mem_sorted.1 hp)
        obtain ⟨y, hy⟩ := F.reads x hx
        have hkk := rd_key hy
        rw [rg_of hy] at e1
        rw [e1] at hkk
        obtain ⟨z, _, hz2, hz3⟩ := Maps.keyOf_int_inv Try.underlying3 hkk
        injection hz2 with _ hz4
        subst hz4
        exact hw (Wf.of hz3)
  · simp only [Bool.and_eq_true, decide_eq_true_eq] at ht
    exact ht
/-- The step of a range. -/
theorem MapR.next {r : Nat} {left : Int → Bool} {cnt : Nat} (h : MapR W b r row left cnt) (ty : TypeId) :
    (cnt = 0 ∧ (∀ t, Wf t → left t = false) ∧ (Instr.next (.pointer (some ⟨r, 0, none⟩)) false ty).run Try.prog W = .ok (.tuple #[.bool false]) W) ∨
    ∃ t W' cnt', Wf t ∧ left t = true ∧ inRow row t = true ∧ (Instr.next (.pointer (some ⟨r, 0, none⟩)) false ty).run Try.prog W = .ok (.tuple #[.bool true, .int .i64 t, .bool true]) W' ∧ MapR W' b r row (fun s => left s && !decide (s = t)) cnt' ∧ cnt' < cnt ∧ Kp (fun k => k = r) W W' ∧
      (Instr.entry (.pointer (some ⟨r, 0, none⟩))).run Try.prog W' = .ok (.tuple #[.int .i64 t, .bool true]) W' := by
  obtain ⟨D, lf, h1, h2, h3, h4, h5⟩ := h
  rcases h1.next K3 ty with ⟨h0, hl, hrun⟩ | ⟨key, v, kl, y, W', cnt', hkey, hlk, hv, hat, hrun, hrg, hlt, hgr, hsz, hen⟩
  · exact .inl ⟨h0, fun t ht => by rw [← h4]; exact hl _, hrun⟩
  · obtain ⟨t, rfl, rfl, hwf⟩ := Maps.keyOf_int_inv Try.underlying3 hkey
    obtain ⟨rfl, _⟩ := trueR_inv hv
    rw [h4] at hlk
    refine .inr ⟨t, W', cnt', Wf.of hwf, hlk, (h5 t hlk).2, hrun, ⟨D, _, hrg, h2, h3, fun s => ?_, fun s hs => ?_⟩, hlt, ⟨hgr.os, hgr.tape, hgr.output, hgr.size, fun i hi hn => hgr.block i hi (fun e => hn (Option.some.inj e))⟩, hen⟩
    · rw [h4]
      congr 1
      simp [Lit.sameKey]
    · simp only [Bool.and_eq_true] at hs
      exact h5 s hs.1
end
end Go.Proofs.Ytkaedhooccpniaa.Hand
/- Rows of sets: newSets and add, by hand. -/
namespace Go.Proofs.Ytkaedhooccpniaa.Hand
open Go.RowKit Go.Proofs.YtkaedhooccpniaaW.PrintWords Go.Proofs.YtkaedhooccpniaaW.PrintLast Go.Proofs.YtkaedhooccpniaaW.PrintMore Go.Proofs.Ytkaedhooccpniaa.PA
set_option linter.unusedVariables false
set_option linter.unusedSimpArgs false
theorem info61 : (Try.prog.info? 61).map (fun i => (i.zero, i.size, i.bytes)) = some (some (.map none), 1, 8) := by kernel_rfl
theorem mkM (n : Nat) (hn : n ≤ 1000000000) (w : World) : (Instr.makeSlice 56 (.int .i64 n) (.int .i64 n)).run Try.prog w = .ok (.slice (some ⟨w.heap.size, 0, none⟩) n n) (w.alloc (.cells (List.replicate n (Value.map none)).toArray 61)) :=
  mk_gen Try.underlying56 info61 rfl (by decide) n hn w
def mapV (b : Nat) : Value := .map (some b)
structure SetsI (sb n : Nat) (mb : List Nat) (tab : List (List Bool)) (wd : Nat) (W : World) : Prop where
  o : W.heap[sb]? = some (.cells (mb.map mapV).toArray 61 (0, 0))
  ml : mb.length = n
  tl : tab.length = n
  tr : ∀ i, i < n → (tab.getD i []).length = wd
  row : ∀ i (h : i < mb.length), MapS W mb[i] (tab.getD i [])
  nd : mb.Nodup
  no : sb ∉ mb
section
variable {sb n wd : Nat} {mb : List Nat} {tab : List (List Bool)} {W W' : World}
theorem SetsI.kp {S : Nat → Prop} (h : SetsI sb n mb tab wd W) (hk : Kp S W W') (h1 : ¬ S sb) (h2 : ∀ b ∈ mb, ¬ S b) : SetsI sb n mb tab wd W' :=
  ⟨blk_Kp h.o hk h1, h.ml, h.tl, h.tr, fun i hi => (h.row i hi).kp hk (h2 _ (List.getElem_mem hi)), h.nd, h.no⟩
theorem SetsI.below (h : SetsI sb n mb tab wd W) (hb : Below W.heap.size W W') : SetsI sb n mb tab wd W' := h.kp (S := fun _ => False) (Kp.of_below hb) (fun h => h) (fun _ _ h => h)
theorem SetsI.outer (h : SetsI sb n mb tab wd W) (i : Nat) (hi : i < mb.length) : W.cell? ⟨sb, i, none⟩ = some (.map (some mb[i])) := cell_of_block h.o i _ (by simp [hi, mapV])
theorem SetsI.put (h : SetsI sb n mb tab wd W) (i : Nat) (hi : i < mb.length) (hk : Kp (fun k => k = mb[i]) W W') {row : List Bool} (hr : MapS W' mb[i] row) (hl : row.length = wd) : SetsI sb n mb (tab.set i row) wd W' := by
  have hin : i < n := by rw [← h.ml]; exact hi
  refine ⟨blk_Kp h.o hk (fun e => h.no (e ▸ List.getElem_mem hi)), h.ml, by simp [h.tl], fun k hkn => ?_, fun k hkl => ?_, h.nd, h.no⟩
  · rw [List.getD_eq_getElem?_getD, List.getElem?_set]
    by_cases e : i = k
    · subst e
      rw [if_pos rfl, if_pos (by rw [h.tl]; exact hin)]
      exact hl
    · rw [if_neg e, ← List.getD_eq_getElem?_getD]
      exact h.tr k hkn
  · rw [List.getD_eq_getElem?_getD, List.getElem?_set]
    by_cases e : i = k
    · subst e
      rw [if_pos rfl, if_pos (by rw [h.tl]; exact hin)]
      exact hr
    · rw [if_neg e, ← List.getD_eq_getElem?_getD]
      exact (h.row k hkl).kp hk (fun e2 => e ((List.getElem_inj h.nd).1 e2).symm)
end
structure PartM (ob n ii wd : Nat) (mb : List Nat) (W : World) : Prop where
  o : W.heap[ob]? = some (.cells (mb.map mapV ++ List.replicate (n - ii) (Value.map none)).toArray 61 (0, 0))
  rl : mb.length = ii
  row : ∀ i (h : i < mb.length), MapS W mb[i] (List.replicate wd false)
  nd : mb.Nodup
  no : ob ∉ mb
theorem PartM.zero {ob n wd : Nat} {W : World} (h : W.heap[ob]? = some (.cells (List.replicate n (Value.map none)).toArray 61 (0, 0))) : PartM ob n 0 wd [] W :=
  ⟨by simpa using h, rfl, fun i h => absurd h (Nat.not_lt_zero _), List.nodup_nil, by simp⟩
theorem PartM.step {ob n ii wd : Nat} {mb : List Nat} {W : World} (h : PartM ob n ii wd mb W) (hi : ii < n) :
    PartM ob n (ii + 1) wd (mb ++ [W.heap.size]) ((W.alloc (.map #[] 0)).setCell ⟨ob, ii, none⟩ (mapV W.heap.size)) := by
  have hlt : ∀ r ∈ mb, r < W.heap.size := fun r hr => by
    obtain ⟨i, hi, rfl⟩ := List.getElem_of_mem hr
    exact (h.row i hi).lt
  have hol : ob < W.heap.size := (Array.getElem?_eq_some_iff.1 h.o).1
  have hk : Kp (fun k => k = ob) (W.alloc (.map #[] 0)) ((W.alloc (.map #[] 0)).setCell ⟨ob, ii, none⟩ (mapV W.heap.size)) := Kp.set (S := fun k => k = ob) (p := ⟨ob, ii, none⟩) rfl _
  refine ⟨?_, by simp [h.rl], fun i hi' => ?_, ?_, ?_⟩
  · have := blk_set (blk_old (o := .map #[] 0) h.o) ii (mapV W.heap.size)
    refine this.trans ?_
    congr 2
    rw [List.setIfInBounds_toArray]
    congr 1
    have e1 : (mb.map mapV).length = ii := by simp [h.rl]
    rw [List.set_append_right _ _ (by omega), e1, Nat.sub_self, List.map_append, List.append_assoc]
    congr 1
    rw [show n - ii = (n - (ii + 1)) + 1 by omega, List.replicate_succ, List.set_cons_zero]
    rfl
  · have hne : (mb ++ [W.heap.size])[i] ≠ ob := by
      rw [List.getElem_append]
      split
      · exact fun e => h.no (e ▸ List.getElem_mem _)
      · simp; omega
    refine MapS.kp (W := W.alloc (.map #[] 0)) ?_ hk hne
    rw [List.getElem_append]
    split
    · rename_i h1
      exact (h.row i h1).below (below_alloc (Below.refl _ _) _)
    · simp only [List.getElem_singleton]
      exact MapS.made W wd
  · rw [List.nodup_append]
    refine ⟨h.nd, by simp, fun a ha b hb => ?_⟩
    have := hlt a ha
    simp at hb
    omega
  · intro hm
    rcases List.mem_append.1 hm with hm | hm
    · exact h.no hm
    · simp at hm; omega
def noSets (n wd : Nat) : List (List Bool) := List.replicate n (List.replicate wd false)
theorem PartM.done {ob n wd : Nat} {mb : List Nat} {W : World} (h : PartM ob n n wd mb W) : SetsI ob n mb (noSets n wd) wd W := by
  refine ⟨by simpa using h.o, h.rl, by simp [noSets], fun i hi => by simp [noSets, List.getD_eq_getElem?_getD, hi], fun i hi => ?_, h.nd, h.no⟩
  have : i < n := by rw [← h.rl]; exact hi
  have e : (noSets n wd).getD i [] = List.replicate wd false := by simp [noSets, List.getD_eq_getElem?_getD, this]
  rw [e]
  exact h.row i hi
set_option maxHeartbeats 4000000 in
set_option maxRecDepth 100000 in
theorem newSets_calls (n wd : Nat) (w : World) (hn : n ≤ 1000000000) :
    Calls Try.prog 45 #[.int .i64 n] w fun e w' => ∃ sb mb, e = .returned (.slice (some ⟨sb, 0, none⟩) n n) ∧ SetsI sb n mb (noSets n wd) wd w' ∧ w.heap.size ≤ sb ∧ (∀ b ∈ mb, w.heap.size ≤ b) ∧ Below w.heap.size w w' := by
  have hmM := mkM n hn
  have hmm := @run_makeMap Try.prog
  have z1 : 0 ≤ (n : Int) := by omega
  go_enter Try.func45, Try.ntmps45
  go_upto_region 2 with fail
  obtain ⟨w4, hw4⟩ : ∃ w4 : World, w4 = w.alloc (Obj.cells (Array.replicate n (Value.map none)) 61) := ⟨_, rfl⟩
  obtain ⟨ob, hob⟩ : ∃ ob, ob = w.heap.size := ⟨_, rfl⟩
  rw [← hw4, ← hob]
  have HP0 := Aside0.mk (PartM.zero (n := n) (wd := wd) (show w4.heap[ob]? = some (.cells (List.replicate n (Value.map none)).toArray 61 (0, 0)) by rw [hw4, List.toArray_replicate]; exact blk_new hob))
  have HB34 := Aside0.mk (show Below w.heap.size w w4 by rw [hw4]; exact below_alloc (Below.refl _ _) _)
  have HOB := Aside0.mk (show w.heap.size ≤ ob by omega)
  clear hw4 hob hmM
  go_wp2_with fail
  go_loopg [9] n (fun gg s9 wr => ∃ (ii : Nat) (mb : List Nat), ii ≤ n ∧ n - ii ≤ gg ∧ s9 = .int .i64 ii ∧ Aside0 (PartM ob n ii wd mb wr) ∧ Aside0 (Below w.heap.size w wr) ∧ Aside0 (∀ b ∈ mb, w.heap.size ≤ b))
  case atStart => exact ⟨0, [], Nat.zero_le _, by omega, rfl, HP0, HB34, ⟨by simp⟩⟩
  case round =>
    obtain ⟨ii, mb, hii, hgg, rfl, HPx, HBx, HRN⟩ := hrel
    clear HP0 HB34
    by_cases hlt : ii < n
    · have hltz : (ii : Int) < (n : Int) := by omega
      have hltn : (0 : Int) ≤ (ii : Int) := by omega
      have hob' := blk_old (o := Obj.map #[] 0) HPx.out.o
      have c0 := cell_of_block hob' ii (Value.map none) (by
        have e1 : (mb.map mapV).length = ii := by simp [HPx.out.rl]
        rw [List.getElem?_toArray, List.getElem?_append_right (by omega), e1, Nat.sub_self, List.getElem?_replicate, if_pos (by omega)])
      have f0 := blk_frozen hob' ii
      have HS := Aside0.mk (HPx.out.step hlt)
      clear hob'
      go_wp2_with fail
      go_roundg (n - (ii + 1))
      case rel => exact ⟨ii + 1, mb ++ [wr.heap.size], by omega, by omega, by go_num, HS, ⟨(below_alloc HBx.out _).trans ((Kp.set (S := fun k => k = ob) (p := ⟨ob, ii, none⟩) rfl _).below (below_alloc HBx.out _).size (fun k hk => by subst hk; exact HOB.out))⟩, ⟨fun r hr => by
        rcases List.mem_append.1 hr with h | h
        · exact HRN.out r h
        · simp at h; subst h; exact HBx.out.size⟩⟩
      case measure => omega
    · obtain rfl : n = ii := by omega
      have HT0 := Aside0.mk HPx.out.done
      have t3 : decide (n < n) = false := decide_eq_false (by omega)
      clear HPx hlt hmm
      go_wp2_with fail
      go_ret
      exact ⟨ob, mb, rfl, HT0.out, HOB.out, HRN.out, HBx.out⟩
end Go.Proofs.Ytkaedhooccpniaa.Hand
/- sets.add, by hand. -/
namespace Go.Proofs.Ytkaedhooccpniaa.Hand
open Go.RowKit Go.Proofs.YtkaedhooccpniaaW.PrintWords Go.Proofs.YtkaedhooccpniaaW.PrintLast Go.Proofs.YtkaedhooccpniaaW.PrintMore Go.Proofs.Ytkaedhooccpniaa.PA
set_option linter.unusedVariables false
set_option linter.unusedSimpArgs false
def orRow (a b : List Bool) : List Bool := List.zipWith (fun x y => x || y) a b
theorem orRow_length (a b : List Bool) (h : a.length = b.length) : (orRow a b).length = a.length := by simp [orRow, h]
theorem orRow_get (a b : List Bool) (h : a.length = b.length) (j : Nat) : (orRow a b).getD j false = (a.getD j false || b.getD j false) := by
  simp only [orRow, List.getD_eq_getElem?_getD, List.getElem?_zipWith]
  by_cases hj : j < a.length
  · rw [List.getElem?_eq_getElem hj, List.getElem?_eq_getElem (by omega)]
    rfl
  · rw [List.getElem?_eq_none (by omega), List.getElem?_eq_none (by omega)]
    rfl
theorem row_ext {a b : List Bool} (h : a.length = b.length) (hg : ∀ j, j < a.length → a.getD j false = b.getD j false) : a = b := by
  apply List.ext_getElem h
  intro j h1 h2
  have := hg j h1
  rw [List.getD_eq_getElem?_getD, List.getD_eq_getElem?_getD, List.getElem?_eq_getElem h1, List.getElem?_eq_getElem h2] at this
  exact this
theorem inRow_bound {row : List Bool} {t : Int} (h : inRow row t = true) : -1 ≤ t ∧ (t + 1).toNat < row.length := by
  simp only [inRow, Bool.and_eq_true, decide_eq_true_eq] at h
  refine ⟨h.1, ?_⟩
  rcases Nat.lt_or_ge (t + 1).toNat row.length with h1 | h1
  · exact h1
  · have := h.2
    rw [List.getD_eq_getElem?_getD, List.getElem?_eq_none h1] at this
    cases this
/-- What a set holds when all but what is left of another has been added. -/
def Added (row frow cur : List Bool) (left : Int → Bool) : Prop := cur.length = row.length ∧ ∀ j, j < row.length → cur.getD j false = (row.getD j false || (frow.getD j false && !left ((j : Int) - 1)))
theorem Kp.past {S S' : Nat → Prop} {w W1 W2 : World} (h : Kp S w W1) (k : Kp S' W1 W2) (hs : ∀ i, S' i → S i ∨ w.heap.size ≤ i) : Kp S w W2 :=
  ⟨k.os.trans h.os, k.tape.trans h.tape, k.output.trans h.output, Nat.le_trans h.size k.size, fun i hi hn => (k.block i (Nat.lt_of_lt_of_le hi h.size) (fun e => by rcases hs i e with h1 | h1; exact hn h1; omega)).trans (h.block i hi hn)⟩
theorem Added.start {row frow : List Bool} (hl : frow.length = row.length) (hb : row.length ≤ 1000000) : Added row frow row (fun t => decide (Wf t) && inRow frow t) := by
  refine ⟨rfl, fun j hj => ?_⟩
  have hw : Wf ((j : Int) - 1) := ⟨by omega, by omega⟩
  have e : inRow frow ((j : Int) - 1) = frow.getD j false := by
    unfold inRow
    rw [decide_eq_true (show -1 ≤ (j : Int) - 1 by omega), show ((j : Int) - 1 + 1).toNat = j by omega, Bool.true_and]
  simp only [decide_eq_true hw, e, Bool.true_and]
  cases frow.getD j false <;> simp
theorem Added.step {row frow cur : List Bool} {left : Int → Bool} (h : Added row frow cur left) (hl : frow.length = row.length) {t : Int} (ht : inRow frow t = true) (hlt : left t = true) : Added row frow (cur.set (t + 1).toNat true) (fun s => left s && !decide (s = t)) := by
  obtain ⟨b1, b2⟩ := inRow_bound ht
  refine ⟨by simp [h.1], fun j hj => ?_⟩
  rw [getD_set_b _ _ _ (by rw [h.1]; omega), h.2 j hj]
  by_cases e : (t + 1).toNat = j
  · subst e
    have hf : frow.getD (t + 1).toNat false = true := by
      simp only [inRow, Bool.and_eq_true] at ht
      exact ht.2
    have e2 : (((t + 1).toNat : Nat) : Int) - 1 = t := by omega
    rw [e2, hf]
    simp
  · have : ¬ ((j : Int) - 1 = t) := by omega
    simp [e, this]
theorem Added.done {row frow cur : List Bool} {left : Int → Bool} (h : Added row frow cur left) (hl : frow.length = row.length) (hb : row.length ≤ 1000000) (h0 : ∀ t, Wf t → left t = false) : cur = orRow row frow := by
  refine row_ext (by rw [h.1, orRow_length _ _ hl.symm]) fun j hj => ?_
  rw [h.1] at hj
  rw [h.2 j hj, orRow_get _ _ hl.symm, h0 _ ⟨by omega, by omega⟩]
  simp
/-- The store in a range's round: of another map, or of the very map. -/
theorem round_upd {W : World} {bf bo r : Nat} {frow cur : List Bool} {left : Int → Bool} {cnt : Nat} {t : Int} (hR : MapR W bf r frow left cnt) (hS : MapS W bo cur) (hal : bf ≠ bo ∨ frow = cur) (hne : r ≠ bo) (hin : inRow frow t = true) (hl : frow.length = cur.length) (hb : cur.length ≤ 1000000) :
    ∃ W', (Instr.mapUpdate 61 (.map (some bo)) (.int .i64 t) (.bool true)).run Try.prog W = .ok () W' ∧ MapS W' bo (cur.set (t + 1).toNat true) ∧ MapR W' bf r frow left cnt ∧ Kp (fun k => k = bo) W W' ∧ (frow = cur → frow = cur.set (t + 1).toNat true) := by
  obtain ⟨b1, b2⟩ := inRow_bound hin
  have hsame : frow = cur → frow = cur.set (t + 1).toNat true := fun e => by
    subst e
    refine (set_same_b ?_).symm
    simp only [inRow, Bool.and_eq_true] at hin
    exact hin.2
  by_cases e : bf = bo
  · subst e
    have hfc : frow = cur := by rcases hal with h | h; exact absurd rfl h; exact h
    have hwf : Wf t := ⟨by omega, by omega⟩
    refine ⟨W, hS.upd_in hwf (by rw [← hfc]; exact hin), ?_, hR, Kp.refl _ _, hsame⟩
    rw [← hsame hfc, hfc]
    exact hS
  · obtain ⟨W', hrun, hS', hk⟩ := hS.upd b1 (by omega) hb
    exact ⟨W', hrun, hS', hR.kp hk e hne, hk, hsame⟩
set_option maxHeartbeats 4000000 in
set_option maxRecDepth 100000 in
theorem add_calls (sb n wd : Nat) (mb : List Nat) (tab : List (List Bool)) (i : Nat) (bf : Nat) (frow : List Bool) (w : World) (hn : n ≤ 1000000000) (hwd : wd ≤ 1000000) (hS : SetsI sb n mb tab wd w) (hi : i < n) (hf : MapS w bf frow) (hfl : frow.length = wd) (him : i < mb.length) (hal : bf ≠ mb[i] ∨ frow = tab.getD i []) :
    Calls Try.prog 48 #[.slice (some ⟨sb, 0, none⟩) n n, .int .i64 i, .map (some bf)] w fun e w' =>
      e = .returned (.bool (decide ((tab.getD i []).count true < (orRow (tab.getD i []) frow).count true))) ∧ SetsI sb n mb (tab.set i (orRow (tab.getD i []) frow)) wd w' ∧ Kp (fun k => k = mb[i]) w w' := by
  have hrl := hS.tr i hi
  have hrow := hS.row i him
  have o0 := hS.outer i him
  have HSI := Aside0.mk hS
  have hsb : sb ≠ mb[i] := fun e => hS.no (e ▸ List.getElem_mem him)
  have hsl : sb < w.heap.size := (Array.getElem?_eq_some_iff.1 hS.o).1
  have HPUT := Aside0.mk (show ∀ W' row, Kp (fun k => k = mb[i]) w W' → MapS W' mb[i] row → row.length = wd → SetsI sb n mb (tab.set i row) wd W' from fun W' row h1 h2 h3 => hS.put i him h1 h2 h3)
  generalize tab.getD i [] = row at hrl hrow hal HPUT ⊢
  generalize hbo : mb[i] = bo at hrow o0 hal HPUT hsb ⊢
  have hln := hrow.len 3
  have hiz : (i : Int) < (n : Int) := by omega
  have hin : (0 : Int) ≤ (i : Int) := by omega
  obtain ⟨w1, hrg, hR1, hb1⟩ := hf.range
  have HROW := Aside0.mk hrow
  have HR1 := Aside0.mk hR1
  have HB1 := Aside0.mk hb1
  have HAL := Aside0.mk hal
  have HNE := Aside0.mk (show w.heap.size ≠ bo ∧ bo < w.heap.size ∧ sb ≠ bo ∧ sb < w.heap.size from ⟨by have := hrow.lt; omega, hrow.lt, hsb, hsl⟩)
  have HLN := Aside0.mk (And.intro hrl hfl)
  obtain ⟨r0, hr0⟩ : ∃ r0, r0 = w.heap.size := ⟨_, rfl⟩
  rw [← hr0] at hrg HR1
  have HR0 := Aside0.mk hr0
  have HO := Aside0.mk o0
  clear hS hf hrow hal hR1 hb1 hsb hsl hr0 hbo
  go_enter Try.func48, Try.ntmps48
  go_upto_block 0 with fail
  have HA0 := Aside0.mk (Added.start (row := row) (frow := frow) (by rw [hfl, hrl]) (by omega))
  have HS1 := Aside0.mk (HROW.out.below HB1.out)
  have HK0 := Aside0.mk (show Kp (fun k => k = bo) w w1 from Kp.of_below HB1.out)
  clear hrg hln o0
  go_wp2_with fail
  go_loopg [16] (frow.count true) (fun gg s16 wr => ∃ (left : Int → Bool) (cnt : Nat) (cur : List Bool), cnt ≤ gg ∧ Aside0 (MapR wr bf r0 frow left cnt) ∧ Aside0 (MapS wr bo cur) ∧ Aside0 (Added row frow cur left) ∧ Aside0 (bf ≠ bo ∨ frow = cur) ∧ Aside0 (Kp (fun k => k = bo) w wr))
  case atStart => exact ⟨_, _, row, Nat.le_refl _, HR1, HS1, HA0, HAL, HK0⟩
  case round =>
    obtain ⟨left, cnt, cur, hcg, HRx, HSx, HAx, HALx, HKx⟩ := hrel
    clear HR1 HS1 HA0 HAL HK0
    rcases HRx.out.next 0 with ⟨h0, hl, hrun⟩ | ⟨t, W', cnt', hwt, hlt, hinr, hrun, hR', hclt, hk', hen⟩
    · have he := HAx.out.done (by rw [hfl, hrl]) (by omega) hl
      subst he
      have o0 : wr.cell? ⟨sb, i, none⟩ = some (.map (some bo)) := (HKx.out.cell HNE.out.2.2.2 HNE.out.2.2.1).trans HO.out
      have hln := HSx.out.len 3
      have HF := Aside0.mk (HPUT.out wr _ HKx.out HSx.out (by rw [orRow_length _ _ (by rw [hfl, hrl])]; exact hrl))
      have HKF := Aside0.mk HKx.out
      clear h0 hl HRx HSx HAx HALx HKx
      go_wp2_with fail
      go_ret
      exact ⟨by simp, HF.out, HKF.out⟩
    · have hS' := HSx.out.kp hk' (show ¬ bo = r0 from fun e => HNE.out.1 (by rw [← HR0.out, e]))
      have hcl : cur.length = wd := by rw [HAx.out.1, hrl]
      obtain ⟨W2, hup, hS2, hR2, hk2, hsame⟩ := round_upd hR' hS' HALx.out (by rw [HR0.out]; exact HNE.out.1) hinr (by rw [hfl, hcl]) (by omega)
      have HR2 := Aside0.mk hR2
      have HS2 := Aside0.mk hS2
      have HA2 := Aside0.mk (HAx.out.step (by rw [hfl, hrl]) hinr hlt)
      have HAL2 := Aside0.mk (show bf ≠ bo ∨ frow = cur.set (t + 1).toNat true from HALx.out.elim .inl (fun h => .inr (hsame h)))
      have hkW : Kp (fun k => k = bo) w W' := Kp.past HKx.out hk' (fun k hk => .inr (by rw [hk, HR0.out]; exact Nat.le_refl _))
      have HK2 := Aside0.mk (hkW.trans hk2)
      have o0 : W'.cell? ⟨sb, i, none⟩ = some (.map (some bo)) := (hkW.cell HNE.out.2.2.2 HNE.out.2.2.1).trans HO.out
      clear hS' hcl hS2 hR2 hk2 hsame hkW hR' hk' HRx HSx HAx HALx HKx
      go_wp2_with fail
      go_roundg cnt'
      case rel => exact ⟨_, cnt', _, Nat.le_refl _, HR2, HS2, HA2, HAL2, HK2⟩
      case measure => omega
end Go.Proofs.Ytkaedhooccpniaa.Hand
/- analysis.begin, by hand. -/
namespace Go.Proofs.Ytkaedhooccpniaa.Hand
open Go.RowKit Go.Proofs.YtkaedhooccpniaaW.PrintWords Go.Proofs.YtkaedhooccpniaaW.PrintLast Go.Proofs.YtkaedhooccpniaaW.PrintMore Go.Proofs.Ytkaedhooccpniaa.PA
set_option linter.unusedVariables false
set_option linter.unusedSimpArgs false
def beg (tab : List (List Bool)) (null : List Bool) : List Int → List Bool → List Bool × Bool
  | [], acc => (acc, true)
  | x :: l, acc => if 0 ≤ x then (acc.set (x + 1).toNat true, false) else if rdOf false null (-1 - x) = true then beg tab null l (orRow acc (tab.getD (-1 - x).toNat [])) else (orRow acc (tab.getD (-1 - x).toNat []), false)
set_option maxHeartbeats 8000000 in
set_option maxRecDepth 100000 in
theorem begin_calls (A : Option Addr) (c : Nat) (body : List Int) (sb n wd : Nat) (mb : List Nat) (tab : List (List Bool)) (An : Option Addr) (cn : Nat) (null : List Bool) (w : World) (hn : n ≤ 1000000000) (hwd : wd ≤ 1000000)
    (hr : Kd.C (Kd.int .i64) w A body.length body) (hc : body.length ≤ c) (hL : body.length ≤ 1000000000) (hS : SetsI sb n mb tab wd w) (hN : Kd.C Kd.bool w An n null) (hnl : null.length = n)
    (hx : ∀ x ∈ body, (-9223372036854775808 ≤ x ∧ x ≤ 9223372036854775807) ∧ (x < 0 → -1 - x < n) ∧ (0 ≤ x → (x + 1).toNat < wd)) :
    Calls Try.prog 47 #[.slice A body.length c, .slice (some ⟨sb, 0, none⟩) n n, .slice An n cn] w fun e w' =>
      ∃ g, e = .returned (.tuple #[.map (some g), .bool (beg tab null body (List.replicate wd false)).2]) ∧ MapS w' g (beg tab null body (List.replicate wd false)).1 ∧ w.heap.size ≤ g ∧ Below w.heap.size w w' := by
  obtain ⟨L, hLL⟩ : ∃ L, L = body.length := ⟨_, rfl⟩
  obtain ⟨w1, hw1⟩ : ∃ w1 : World, w1 = w.alloc (.map #[] 0) := ⟨_, rfl⟩
  obtain ⟨g, hg⟩ : ∃ g, g = w.heap.size := ⟨_, rfl⟩
  have hmm : (Instr.makeMap 61 none).run Try.prog w = .ok (.map (some g)) w1 := by rw [hw1, hg]; exact run_makeMap 61 w
  have HM1 := Aside0.mk (show MapS w1 g (List.replicate wd false) by rw [hw1, hg]; exact MapS.made w wd)
  have HB1 := Aside0.mk (show Below w.heap.size w w1 by rw [hw1]; exact below_alloc (Below.refl _ _) _)
  have HG := Aside0.mk (show w.heap.size ≤ g ∧ (sb < w.heap.size ∧ ∀ b ∈ mb, b < w.heap.size) from ⟨by omega, (Array.getElem?_eq_some_iff.1 hS.o).1, fun b hb => by
    obtain ⟨i, hi, rfl⟩ := List.getElem_of_mem hb
    exact (hS.row i hi).lt⟩)
  have HR := Aside0.mk hr
  have HS := Aside0.mk hS
  have HN := Aside0.mk hN
  have HX := Aside0.mk hx
  have HLL := Aside0.mk hLL
  have HNL := Aside0.mk hnl
  obtain ⟨res, hres⟩ : ∃ res, res = beg tab null body (List.replicate wd false) := ⟨_, rfl⟩
  have HE0 := Aside0.mk (show res = beg tab null (body.drop 0) (List.replicate wd false) by rw [List.drop_zero]; exact hres)
  rw [← hLL] at hL ⊢
  rw [← hres]
  clear hw1 hg hr hc hS hN hx hLL hnl hres
  go_enter Try.func47, Try.ntmps47
  go_wp2_with fail
  clear hmm
  go_loopg [15] L (fun gg s15 wr => ∃ (jj : Nat) (cur : List Bool), jj ≤ L ∧ L - jj ≤ gg ∧ s15 = .int .i64 jj ∧ cur.length = wd ∧ Aside0 (MapS wr g cur) ∧ Aside0 (res = beg tab null (body.drop jj) cur) ∧ Aside0 (Below w.heap.size w wr))
  case atStart => exact ⟨0, _, Nat.zero_le _, by omega, rfl, by simp, HM1, HE0, HB1⟩
  case round =>
    obtain ⟨jj, cur, hjj, hgg, rfl, hcl, HMx, HEx, HBx⟩ := hrel
    clear HM1 HE0 HB1
    by_cases hlt : jj < L
    · have hltz : (jj : Int) < (L : Int) := by omega
      have hltn : (0 : Int) ≤ (jj : Int) := by omega
      have hjb : jj < body.length := by rw [← HLL.out]; exact hlt
      obtain ⟨ad, e, v0⟩ := Kd.at_int (Kd.C_below HR.out HBx.out) (jj : Int) hltn (by rw [← HLL.out]; exact hltz)
      subst e
      rw [getD_rd body jj hjb, Int.toNat_natCast] at v0
      have HXj := Aside0.mk (HX.out _ (List.getElem_mem hjb))
      have HEj := Aside0.mk (show res = beg tab null (body[jj] :: body.drop (jj + 1)) cur by rw [← List.drop_eq_getElem_cons hjb]; exact HEx.out)
      clear HEx
      generalize body[jj] = x at v0 HXj HEj
      by_cases hx0 : 0 ≤ x
      · have t1 : decide (0 ≤ x) = true := decide_eq_true hx0
        have hxw := HXj.out.2.2 hx0
        obtain ⟨W2, hup, hS2, hk2⟩ := HMx.out.upd (t := x) (by omega) (by rw [hcl]; exact hxw) (by omega)
        have HQ := Aside0.mk (show res = (cur.set (x + 1).toNat true, false) by rw [HEj.out, beg, if_pos hx0])
        have HS2 := Aside0.mk hS2
        have HB2 := Aside0.mk (show Below w.heap.size w W2 from HBx.out.trans (hk2.below HBx.out.size (fun k hk => by subst hk; exact HG.out.1)))
        clear hS2 hk2 HMx HBx
        go_wp2_with fail
        (try rw [Exit.noGoto_ret])
        exact bodyPost_ret (v := .tuple #[.map (some g), .bool false]) (by simp [results, Try.results47, go_sem]) rfl ⟨g, by rw [HQ.out], by rw [HQ.out]; exact HS2.out, HG.out.1, HB2.out⟩
      · have t1 : decide (0 ≤ x) = false := decide_eq_false hx0
        have hxn := HXj.out.2.1 (by omega)
        have hw1 : IntKind.i64.wrap (-1 - x) = -1 - x := by have := HXj.out.1; exact IntWalk.i64_in _ (by omega)
        have hz1 : (0 : Int) ≤ -1 - x := by omega
        obtain ⟨kx, hkx⟩ : ∃ kx, kx = (-1 - x).toNat := ⟨_, rfl⟩
        have hki : kx < mb.length := by rw [HS.out.ml]; omega
        have hSx := HS.out.below HBx.out
        obtain ⟨bf, hbf⟩ : ∃ bf, bf = mb[kx] := ⟨_, rfl⟩
        have o0 : wr.cell? ⟨sb, (-1 - x).toNat, none⟩ = some (.map (some bf)) := by
          have h := hSx.outer kx hki
          rw [← hbf] at h
          rwa [hkx] at h
        have hf := hSx.row kx hki
        have hfl := hSx.tr kx (by omega)
        have hmg : mb[kx] ≠ g := fun e => by have := HG.out.2.2 _ (List.getElem_mem hki); have := HG.out.1; omega
        rw [← hbf] at hf hmg
        have HNR := Aside0.mk (Kd.C_below HN.out HBx.out)
        have HEx := Aside0.mk (show res = if rdOf false null (-1 - x) = true then beg tab null (body.drop (jj + 1)) (orRow cur (tab.getD kx [])) else (orRow cur (tab.getD kx []), false) by rw [HEj.out, beg, if_neg hx0, hkx])
        obtain ⟨w2, hrg, hR1, hb1⟩ := hf.range
        generalize hfr : tab.getD kx [] = frow at hf hfl hR1 HEx
        have HFL := Aside0.mk hfl
        have HMG := Aside0.mk hmg
        have hHM := HMx.out.below hb1
        obtain ⟨r0, hr0⟩ : ∃ r0, r0 = wr.heap.size := ⟨_, rfl⟩
        rw [← hr0] at hrg hR1
        have HR1 := Aside0.mk hR1
        have HM2 := Aside0.mk hHM
        have HA0 := Aside0.mk (Added.start (row := cur) (frow := frow) (by rw [hfl, hcl]) (by omega))
        have HB2 := Aside0.mk (below_step HBx.out hb1)
        have HR0 := Aside0.mk (show w.heap.size ≤ r0 ∧ r0 ≠ g from ⟨by rw [hr0]; exact HBx.out.size, by have := HMx.out.lt; omega⟩)
        obtain ⟨nb, hnb⟩ : ∃ nb, nb = rdOf false null (-1 - x) := ⟨_, rfl⟩
        rw [← hnb] at HEx
        have HNB := Aside0.mk hnb
        clear hnb
        clear hSx hf hfl hR1 hb1 hHM hr0 hfr hbf HMx HEj hki hmg
        go_upto_block 2 with fail
        clear hrg o0 v0
        go_wp2_with fail
        go_loopg [30] (frow.count true) (fun gg s30 wx => ∃ (left : Int → Bool) (cnt : Nat) (cu : List Bool), cnt ≤ gg ∧ Aside0 (MapR wx bf r0 frow left cnt) ∧ Aside0 (MapS wx g cu) ∧ Aside0 (Added cur frow cu left) ∧ Aside0 (Below w.heap.size w wx))
        case atStart => exact ⟨_, _, cur, Nat.le_refl _, HR1, HM2, HA0, HB2⟩
        case round =>
          obtain ⟨left, cnt, cu, hcg, HRx, HSx, HAx, HBy⟩ := hrel
          clear HR1 HM2 HA0 HB2
          rcases HRx.out.next 0 with ⟨h0, hl, hrun⟩ | ⟨t, W', cnt', hwt, hlt', hinr, hrun, hR', hclt, hk', hen⟩
          · have he := HAx.out.done (by rw [HFL.out, hcl]) (by omega) hl
            subst he
            obtain ⟨Bn', en', vn'⟩ := Kd.at_bool (Kd.C_below HN.out HBy.out) (-1 - x) hz1 hxn
            subst en'
            have hor : (orRow cur frow).length = wd := by rw [orRow_length _ _ (by rw [HFL.out, hcl]), hcl]
            have HM3 := Aside0.mk HSx.out
            have vnb : wr.cell? (Bn'.add (-1 - x).toNat) = some (.bool nb) := by rw [vn']; rw [HNB.out]
            have HBz := Aside0.mk HBy.out
            clear h0 hl HRx HSx HAx HBy vn'
            cases nb
            · have HQ := Aside0.mk (show res = (orRow cur frow, false) by rw [HEx.out]; rfl)
              go_wp2_with fail
              (try rw [Exit.noGoto_ret])
              exact bodyPost_ret (v := .tuple #[.map (some g), .bool false]) (by simp [results, Try.results47, go_sem]) rfl ⟨g, by rw [HQ.out], by rw [HQ.out]; exact HM3.out, HG.out.1, HBz.out⟩
            · have HQ := Aside0.mk (show res = beg tab null (body.drop (jj + 1)) (orRow cur frow) by rw [HEx.out]; rfl)
              go_wp2_with fail
              go_roundg (L - (jj + 1))
              case rel => exact ⟨jj + 1, _, by omega, by omega, by go_num, hor, HM3, HQ, HBz⟩
              case measure => omega
          · have hS' := HSx.out.kp hk' (show ¬ g = r0 from fun e => HR0.out.2 e.symm)
            have hcul : cu.length = wd := by rw [HAx.out.1, hcl]
            obtain ⟨W2, hup, hS2, hR2, hk2, _⟩ := round_upd hR' hS' (.inl HMG.out) HR0.out.2 hinr (by rw [HFL.out, hcul]) (by omega)
            have HR2 := Aside0.mk hR2
            have HS2 := Aside0.mk hS2
            have HA2 := Aside0.mk (HAx.out.step (by rw [HFL.out, hcl]) hinr hlt')
            have hbW : Below w.heap.size w W' := HBy.out.trans (hk'.below HBy.out.size (fun k hk => by rw [hk]; exact HR0.out.1))
            have HB3 := Aside0.mk (show Below w.heap.size w W2 from hbW.trans (hk2.below hbW.size (fun k hk => by rw [hk]; exact HG.out.1)))
            clear hS' hcul hS2 hR2 hk2 hbW hR' hk' HRx HSx HAx HBy
            go_wp2_with fail
            go_roundg cnt'
            case rel => exact ⟨_, cnt', _, Nat.le_refl _, HR2, HS2, HA2, HB3⟩
            case measure => omega
    · obtain rfl : L = jj := by omega
      have t3 : decide (L < L) = false := decide_eq_false (by omega)
      have HQ := Aside0.mk (show res = (cur, true) by rw [HEx.out, List.drop_eq_nil_of_le (by rw [← HLL.out]; omega)]; rfl)
      clear hlt HEx
      go_wp2_with fail
      (try rw [Exit.noGoto_ret])
      exact bodyPost_ret (v := .tuple #[.map (some g), .bool true]) (by simp [results, Try.results47, go_sem]) rfl ⟨g, by rw [HQ.out], by rw [HQ.out]; exact HMx.out, HG.out.1, HBx.out⟩
end Go.Proofs.Ytkaedhooccpniaa.Hand
/- analysis.firsts, by hand. -/
namespace Go.Proofs.Ytkaedhooccpniaa.Hand
open Go.RowKit Go.Proofs.YtkaedhooccpniaaW.PrintWords Go.Proofs.YtkaedhooccpniaaW.PrintLast Go.Proofs.YtkaedhooccpniaaW.PrintMore Go.Proofs.Ytkaedhooccpniaa.PA
set_option linter.unusedVariables false
set_option linter.unusedSimpArgs false
theorem beg_length {tab : List (List Bool)} {null : List Bool} {wd n : Nat} (ht : ∀ i, i < n → (tab.getD i []).length = wd) : ∀ (l : List Int) (acc : List Bool), (∀ x ∈ l, x < 0 → -1 - x < n) → acc.length = wd → (beg tab null l acc).1.length = wd
  | [], acc, _, h => h
  | x :: l, acc, hx, h => by
    rw [beg]
    split
    · simp [h]
    · rename_i h0
      have hk := hx x (by simp) (by omega)
      have hl : (orRow acc (tab.getD (-1 - x).toNat [])).length = wd := by rw [orRow_length _ _ (by rw [h, ht _ (by omega)]), h]
      split
      · exact beg_length ht l _ (fun y hy => hx y (by simp [hy])) hl
      · exact hl
def firstStep (wd : Nat) (null : List Bool) (tab : List (List Bool)) (r : S41) : List (List Bool) × Bool :=
  (tab.set r.f0.toNat (orRow (tab.getD r.f0.toNat []) (beg tab null r.f1 (List.replicate wd false)).1), decide ((tab.getD r.f0.toNat []).count true < (orRow (tab.getD r.f0.toNat []) (beg tab null r.f1 (List.replicate wd false)).1).count true))
/-- The rules speak of wd - 1 terminals and have short bodies. -/
def TOK (wd : Nat) (rules : List S41) : Prop := ∀ r ∈ rules, r.f1.length ≤ 1000 ∧ ∀ x ∈ r.f1, 0 ≤ x → (x + 1).toNat < wd
/-- What lies where, in firsts. -/
def FirI (s5 nb sb n wd cn : Nat) (mb : List Nat) (An : Option Addr) (tab : List (List Bool)) (W : World) : Prop :=
  SetsI sb n mb tab wd W ∧ W.cell? ⟨s5, 0, none⟩ = some (.slice (some ⟨sb, 0, none⟩) n n) ∧ W.cell? ⟨nb, 0, none⟩ = some (.slice An n cn)
set_option maxHeartbeats 4000000 in
set_option maxRecDepth 100000 in
theorem first1_calls (s5 nb sb n wd cn : Nat) (mb : List Nat) (An : Option Addr) (null : List Bool) (tab : List (List Bool)) (r : S41) (A : Option Addr) (c : Nat) (W : World) (hn : n ≤ 1000000000) (hwd : wd ≤ 1000000) (hnl : null.length = n) (hI : FirI s5 nb sb n wd cn mb An tab W) (hmb : s5 ∉ mb ∧ nb ∉ mb)
    (hN : Kd.C Kd.bool W An n null)
    (hr : (0 ≤ r.f0 ∧ r.f0 < n) ∧ ∀ x ∈ r.f1, (-9223372036854775808 ≤ x ∧ x ≤ 9223372036854775807) ∧ (x < 0 → -1 - x < n)) (ht : r.f1.length ≤ 1000 ∧ ∀ x ∈ r.f1, 0 ≤ x → (x + 1).toNat < wd) (hc : r.f1.length ≤ c) (hC : Kd.C (Kd.int .i64) W A r.f1.length r.f1) :
    Calls Try.prog 52 #[.agg #[.int .i64 r.f0, .slice A r.f1.length c, .int .i64 r.f2], .pointer (some ⟨s5, 0, none⟩), .pointer (some ⟨nb, 0, none⟩)] W fun e w' =>
      e = .returned (.bool (firstStep wd null tab r).2) ∧ FirI s5 nb sb n wd cn mb An (firstStep wd null tab r).1 w' ∧ Kp (fun k => k ∈ mb) W w' := by
  obtain ⟨x0, body, x2⟩ := r
  have hu41 := Try.underlying41
  obtain ⟨hS, hs5, hnb⟩ := hI
  obtain ⟨⟨h0, h1⟩, hbody⟩ := hr
  simp only at h0 h1 hbody hc hC ht ⊢
  obtain ⟨wa, hwa⟩ : ∃ wa : World, wa = W.alloc (Obj.cells #[Value.int IntKind.i64 x0, Value.slice A body.length c, Value.int IntKind.i64 x2] 41) := ⟨_, rfl⟩
  obtain ⟨gb, hgb⟩ : ∃ gb, gb = W.heap.size := ⟨_, rfl⟩
  have hba : Below W.heap.size W wa := by rw [hwa]; exact below_alloc (Below.refl _ _) _
  have BG : wa.heap[gb]? = some (Obj.cells #[Value.int IntKind.i64 x0, Value.slice A body.length c, Value.int IntKind.i64 x2] 41 (0, 0)) := by rw [hwa]; exact blk_new hgb
  have g1 := cell_of_block BG 1 _ rfl
  have s0 : wa.cell? ⟨s5, 0, none⟩ = some (.slice (some ⟨sb, 0, none⟩) n n) := (hba.cell (World.block_lt_of_cell? W _ hs5)).trans hs5
  have n0 : wa.cell? ⟨nb, 0, none⟩ = some (.slice An n cn) := (hba.cell (World.block_lt_of_cell? W _ hnb)).trans hnb
  have hSa := hS.below hba
  have hcall := begin_calls A c body sb n wd mb tab An cn null wa hn hwd (Kd.C_below hC hba) hc (by omega) hSa (Kd.C_below hN hba) hnl (fun x hx => ⟨(hbody x hx).1, (hbody x hx).2, ht.2 x hx⟩)
  have hbl := beg_length (null := null) hS.tr body (List.replicate wd false) (fun x hx => (hbody x hx).2) (by simp)
  have him : x0.toNat < mb.length := by rw [hS.ml]; omega
  have HFS := Aside0.mk (show firstStep wd null tab ⟨x0, body, x2⟩ = (tab.set x0.toNat (orRow (tab.getD x0.toNat []) (beg tab null body (List.replicate wd false)).1), decide ((tab.getD x0.toNat []).count true < (orRow (tab.getD x0.toNat []) (beg tab null body (List.replicate wd false)).1).count true)) from rfl)
  have HSa := Aside0.mk hSa
  have HBG := Aside0.mk BG
  have HBA := Aside0.mk hba
  have HMB := Aside0.mk (show ∀ b ∈ mb, b < wa.heap.size from fun b hb => by
    obtain ⟨i, hi, rfl⟩ := List.getElem_of_mem hb
    exact (hSa.row i hi).lt)
  have HS5 := Aside0.mk (And.intro hs5 hnb)
  generalize beg tab null body (List.replicate wd false) = bg at hcall hbl HFS
  obtain ⟨brow, bem⟩ := bg
  dsimp only at hcall hbl HFS
  obtain ⟨L, hL⟩ : ∃ L, L = body.length := ⟨_, rfl⟩
  rw [← hL] at hcall g1 hwa
  have hLw := Aside0.mk hL
  rw [← hL]
  clear hS hnb hN hC hc hSa BG hba hbody ht hL hs5
  go_enter Try.func52, Try.ntmps52
  go_upto_region 1 with fail
  rw [← hwa, ← hgb]
  clear hwa hgb
  go_wp2_with fail
  (with_reducible refine hcall.mono ?_)
  rintro e w2 ⟨g, rfl, hMg, hgw, hd⟩
  have hS2 := HSa.out.below hd
  have s0 : w2.cell? ⟨s5, 0, none⟩ = some (.slice (some ⟨sb, 0, none⟩) n n) := (hd.cell (World.block_lt_of_cell? wa _ s0)).trans s0
  have g0 := cell_of_block (blk_below' HBG.out hd) 0 _ rfl
  have hadd := add_calls sb n wd mb tab x0.toNat g brow w2 hn hwd hS2 (by omega) hMg hbl him (.inl (fun e => by have := HMB.out _ (List.getElem_mem him); omega))
  rw [show ((x0.toNat : Nat) : Int) = x0 by omega] at hadd
  have HB2 := Aside0.mk (below_step HBA.out hd)
  clear hcall hd hS2 hMg n0 g1
  dsimp only
  go_wp2_with fail
  (with_reducible refine hadd.mono ?_)
  rintro e w3 ⟨rfl, hS3, hk3⟩
  have hk : Kp (fun k => k ∈ mb) W w3 := (Kp.of_below HB2.out).trans (hk3.mono (fun k _ h => h ▸ List.getElem_mem him))
  have HF := Aside0.mk (And.intro hS3 hk)
  clear hadd hS3 hk3 hk s0 g0
  dsimp only
  go_wp2_with fail
  go_ret
  refine ⟨by rw [HFS.out]; rfl, ⟨by rw [HFS.out]; exact HF.out.1, ?_, ?_⟩, HF.out.2⟩
  · exact (HF.out.2.cell (World.block_lt_of_cell? W _ HS5.out.1) hmb.1).trans HS5.out.1
  · exact (HF.out.2.cell (World.block_lt_of_cell? W _ HS5.out.2) hmb.2).trans HS5.out.2
theorem FirI.keep {s5 nb sb n wd cn B : Nat} {mb : List Nat} {An : Option Addr} {tab : List (List Bool)} {W W' : World} (h : FirI s5 nb sb n wd cn mb An tab W) (hb : Below B W W') (h1 : s5 < B) (h2 : nb < B) (h3 : sb < B) (h4 : ∀ b ∈ mb, b < B) : FirI s5 nb sb n wd cn mb An tab W' := by
  have hk : Kp (fun k => B ≤ k) W W' := ⟨hb.os, hb.tape, hb.output, hb.size, fun i hi hn => hb.block i (by omega)⟩
  exact ⟨h.1.kp hk (by omega) (fun b hb => by have := h4 b hb; omega), (hb.cell (p := ⟨s5, 0, none⟩) h1).trans h.2.1, (hb.cell (p := ⟨nb, 0, none⟩) h2).trans h.2.2⟩
set_option maxHeartbeats 4000000 in
set_option maxRecDepth 100000 in
theorem firsts_calls (A0 : Option Addr) (m0 c0 : Nat) (A1 : Option Addr) (n c1 : Nat) (st : Int) (A3 : Option Addr) (c3 : Nat) (rules : List S41) (An : Option Addr) (cn wd : Nat) (null : List Bool) (k : Nat) (ftab : List (List Bool)) (w : World) (hn : n ≤ 1000000000) (hwd : wd ≤ 1000000) (hnl : null.length = n) (hN : Kd.C Kd.bool w An n null)
    (hG : GOK n rules) (hT : TOK wd rules) (hC : Kd.C k41 w A3 rules.length rules) (hc3 : rules.length ≤ c3) (hrun : run (firstStep wd null) rules k (noSets n wd) = some ftab) :
    Calls Try.prog 41 #[.agg #[.slice A0 m0 c0, .slice A1 n c1, .int .i64 st, .slice A3 rules.length c3], .slice An n cn] w fun e w' => ∃ sb mb, e = .returned (.slice (some ⟨sb, 0, none⟩) n n) ∧ SetsI sb n mb ftab wd w' ∧ w.heap.size ≤ sb ∧ (∀ b ∈ mb, w.heap.size ≤ b) ∧ Below w.heap.size w w' := by
  have hu25 := Try.underlying25
  have hu29 := Try.underlying29
  obtain ⟨mr, hmr⟩ : ∃ mr, mr = rules.length := ⟨_, rfl⟩
  obtain ⟨wa, hwa⟩ : ∃ wa : World, wa = (w.alloc (Obj.cells #[.slice A0 m0 c0, .slice A1 n c1, .int .i64 st, .slice A3 mr c3] 25)).alloc (Obj.cells #[.slice An n cn] 29) := ⟨_, rfl⟩
  obtain ⟨gb, hgb⟩ : ∃ gb, gb = w.heap.size := ⟨_, rfl⟩
  have hb : Below w.heap.size w wa := by rw [hwa]; exact below_alloc (below_alloc (Below.refl _ _) _) _
  have BG : wa.heap[gb]? = some (Obj.cells #[.slice A0 m0 c0, .slice A1 n c1, .int .i64 st, .slice A3 mr c3] 25 (0, 0)) := by rw [hwa]; exact blk_old (blk_new hgb)
  have BN : wa.heap[gb + 1]? = some (Obj.cells #[.slice An n cn] 29 (0, 0)) := by rw [hwa]; exact blk_new (by rw [hgb]; simp)
  have p1 := cell_of_block BG 1 _ rfl
  have hcall := newSets_calls n wd wa hn
  have HB := Aside0.mk hb
  have HBG := Aside0.mk BG
  have HBN := Aside0.mk BN
  have HN := Aside0.mk hN
  have HG := Aside0.mk hG
  have HT := Aside0.mk hT
  have HC := Aside0.mk hC
  have HC3 := Aside0.mk hc3
  have HRUN := Aside0.mk hrun
  have HMR := Aside0.mk hmr
  rw [← hmr]
  clear hb BG BN hN hG hT hC hc3 hrun hmr
  go_enter Try.func41, Try.ntmps41
  go_upto_region 1 with fail
  rw [← hwa, ← hgb]
  clear hwa hgb
  go_wp2_with fail
  (with_reducible refine hcall.mono ?_)
  rintro e w2 ⟨sb, mb, rfl, hS, hsw, hmw, hd⟩
  have HB2 := Aside0.mk (below_step HB.out hd)
  have HBG2 := Aside0.mk (blk_below' HBG.out hd)
  have HBN2 := Aside0.mk (blk_below' HBN.out hd)
  have HSM := Aside0.mk (And.intro hsw hmw)
  have HS := Aside0.mk hS
  have HGL := Aside0.mk (show gb + 1 < wa.heap.size from (Array.getElem?_eq_some_iff.1 HBN.out).1)
  clear hcall hd p1 hS hsw hmw HBG HBN
  dsimp only
  go_upto_region 2 with fail
  obtain ⟨w3, hw3⟩ : ∃ w3 : World, w3 = w2.alloc (Obj.cells #[.slice (some ⟨sb, 0, none⟩) n n] 56) := ⟨_, rfl⟩
  obtain ⟨s5, hs5⟩ : ∃ s5, s5 = w2.heap.size := ⟨_, rfl⟩
  rw [← hw3, ← hs5]
  have hd : Below w2.heap.size w2 w3 := by rw [hw3]; exact below_alloc (Below.refl _ _) _
  have B5 : w3.heap[s5]? = some (Obj.cells #[.slice (some ⟨sb, 0, none⟩) n n] 56 (0, 0)) := by rw [hw3]; exact blk_new hs5
  have hG3 := blk_below' HBG2.out hd
  have hN3 := blk_below' HBN2.out hd
  have hS3 := HS.out.below hd
  have hwa2 : wa.heap.size ≤ w2.heap.size := by have := (Array.getElem?_eq_some_iff.1 HS.out.o).1; have := HSM.out.1; omega
  have hs5l : s5 < w3.heap.size := (Array.getElem?_eq_some_iff.1 B5).1
  have hmbl : ∀ b ∈ mb, b < s5 := fun b hb => by
    obtain ⟨i, hi, rfl⟩ := List.getElem_of_mem hb
    have := (HS.out.row i hi).lt
    omega
  have hsbl : sb < s5 := by have := (Array.getElem?_eq_some_iff.1 HS.out.o).1; omega
  have hI0 : FirI s5 (gb + 1) sb n wd cn mb An (noSets n wd) w3 := ⟨hS3, cell_of_block B5 0 _ rfl, cell_of_block hN3 0 _ rfl⟩
  have hb3 := below_step HB2.out hd
  have hnm : s5 ∉ mb ∧ gb + 1 ∉ mb := ⟨fun h => by have := hmbl _ h; omega, fun h => by have := HSM.out.2 _ h; have := HGL.out; omega⟩
  have happ : Applies (FirI s5 (gb + 1) sb n wd cn mb An) (fun k => k ∈ mb) (firstStep wd null) 52 #[.pointer (some ⟨s5, 0, none⟩), .pointer (some ⟨gb + 1, 0, none⟩)] rules w w3 := by
    intro s W r A c hr hs hk hbW hc hC
    exact first1_calls s5 (gb + 1) sb n wd cn mb An null s r A c W hn hwd hnl hs hnm (Kd.C_below HN.out hbW) (HG.out r hr) (HT.out r hr) hc (Kd.C_below hC hbW)
  have hfix := fixpoint_calls (FirI s5 (gb + 1) sb n wd cn mb An) (fun k => k ∈ mb) (firstStep wd null) 52 #[.pointer (some ⟨s5, 0, none⟩), .pointer (some ⟨gb + 1, 0, none⟩)] (Go.Proofs.enters_of (P := Try.prog) Try.func52 (by kernel_rfl) rfl) (.slice A0 m0 c0) (.slice A1 n c1) st A3 c3 rules w w3 hb3
    (fun k hk => ⟨by have := HSM.out.2 k hk; have := HB.out.size; omega, by have := hmbl k hk; omega⟩)
    (fun s W W' hs hk hb => hs.keep hb hs5l (by have := HGL.out; omega) (by omega) (fun b hb => by have := hmbl b hb; omega)) happ HC.out HC3.out k (noSets n wd) ftab hI0 HRUN.out
  rw [← HMR.out] at hfix
  have g0 := cell_of_block hG3 0 _ rfl
  have g1 := cell_of_block hG3 1 _ rfl
  have g2 := cell_of_block hG3 2 _ rfl
  have g3 := cell_of_block hG3 3 _ rfl
  have HB3 := Aside0.mk hb3
  have HFI := Aside0.mk (show (∀ k, k ∈ mb → w.heap.size ≤ k) ∧ w.heap.size ≤ sb from ⟨fun k hk => by have := HSM.out.2 k hk; have := HB.out.size; omega, by have := HSM.out.1; have := HB.out.size; omega⟩)
  clear hw3 hs5 hd B5 hG3 hN3 hS3 hwa2 hs5l hmbl hsbl hI0 hb3 hnm happ HS HSM HBG2 HBN2 HC HC3 HRUN HG HT HN HGL
  go_wp2_with fail
  (with_reducible refine hfix.mono ?_)
  rintro e w4 ⟨rfl, hI, hk⟩
  have s0 := hI.2.1
  have HFIN := Aside0.mk (And.intro hI.1 (HB3.out.trans (hk.below HB3.out.size (fun k hk => HFI.out.1 k hk))))
  clear hfix hI hk g0 g1 g2 g3
  dsimp only
  go_wp2_with fail
  go_ret
  exact ⟨sb, mb, rfl, HFIN.out.1, HFI.out.2, HFI.out.1, HFIN.out.2⟩
end Go.Proofs.Ytkaedhooccpniaa.Hand
/- sets.lists, by hand. -/
namespace Go.Proofs.Ytkaedhooccpniaa.Hand
open Go.RowKit Go.Proofs.YtkaedhooccpniaaW.PrintWords Go.Proofs.YtkaedhooccpniaaW.PrintLast Go.Proofs.YtkaedhooccpniaaW.PrintMore Go.Proofs.Ytkaedhooccpniaa.PA
set_option linter.unusedVariables false
set_option linter.unusedSimpArgs false
/-- The members of a set from least on, j numbers. -/
def rowPart (row : List Bool) (least : Int) (j : Nat) : List Int := ((List.range j).map (fun (i : Nat) => least + (i : Int))).filter (fun t => inRow row t)
def rowList (row : List Bool) (least top : Int) : List Int := rowPart row least (top - least).toNat
theorem rowPart_succ (row : List Bool) (least : Int) (j : Nat) : rowPart row least (j + 1) = if inRow row (least + j) = true then rowPart row least j ++ [least + (j : Int)] else rowPart row least j := by
  unfold rowPart
  rw [List.range_succ, List.map_append, List.filter_append]
  by_cases h : inRow row (least + j) = true
  · simp [h]
  · simp [h]
theorem rowPart_len (row : List Bool) (least : Int) (j : Nat) : (rowPart row least j).length ≤ j := by
  unfold rowPart
  refine Nat.le_trans (List.length_filter_le _ _) (by simp)
def listsOf (tab : List (List Bool)) (n : Nat) (least top : Int) : List (List Int) := (List.range n).map (fun i => rowList (tab.getD i []) least top)
theorem mkL (n : Nat) (hn : n ≤ 1000000000) (w : World) : (Instr.makeSlice 32 (.int .i64 n) (.int .i64 n)).run Try.prog w = .ok (.slice (some ⟨w.heap.size, 0, none⟩) n n) (w.alloc (.cells (List.replicate n (Value.slice none 0 0)).toArray 39)) :=
  mk_gen Try.underlying32 info39 rfl (by decide) n hn w
theorem R_slice {W : World} {base : Nat} {ok : Nat → Prop} {v : Value} {l : List Int} (h : Kd.R (Kd.int .i64) 3 W base ok v l) : ∃ N A c, v = .slice A N c := by
  obtain ⟨A, c, e, _⟩ := Kd.R_reads h
  exact ⟨_, A, c, e⟩
/-- The lists so far. -/
structure LstI (ob n ii base : Nat) (vs : List Value) (ls : List (List Int)) (W : World) : Prop where
  o : W.heap[ob]? = some (.cells (vs ++ List.replicate (n - ii) (Value.slice none 0 0)).toArray 39 (0, 0))
  vl : vs.length = ii
  ll : ls.length = ii
  row : ∀ i (h : i < vs.length), Kd.R (Kd.int .i64) 3 W base (fun k => k < W.heap.size) vs[i] (ls.getD i [])
theorem R_kp {S : Nat → Prop} {W W' : World} {base : Nat} {v : Value} {l : List Int} {ok : Nat → Prop} (h : Kd.R (Kd.int .i64) 3 W base ok v l) (hk : Kp S W W') (hs : ∀ k, ok k → ¬ S k ∧ k < W.heap.size) : Kd.R (Kd.int .i64) 3 W' base ok v l :=
  Kd.R_step h (fun k ho _ => hk.block k (hs k ho).2 (hs k ho).1)
theorem LstI.kp {ob n ii base : Nat} {vs : List Value} {ls : List (List Int)} {W W' : World} (h : LstI ob n ii base vs ls W) (hk : Kp (fun k => k = ob) W W') (hob : ob < base) {cs : List Value} (ho : W'.heap[ob]? = some (.cells (cs ++ List.replicate (n - (ii + 1)) (Value.slice none 0 0)).toArray 39 (0, 0))) {v : Value} {l : List Int} (hcs : cs = vs ++ [v]) (hv : Kd.R (Kd.int .i64) 3 W' base (fun k => k < W'.heap.size) v l) : LstI ob n (ii + 1) base (vs ++ [v]) (ls ++ [l]) W' := by
  subst hcs
  refine ⟨ho, by simp [h.vl], by simp [h.ll], fun i hi => ?_⟩
  rw [List.getElem_append]
  split
  · rename_i h1
    have e : (ls ++ [l]).getD i [] = ls.getD i [] := by
      rw [List.getD_eq_getElem?_getD, List.getElem?_append_left (by rw [h.ll, ← h.vl]; exact h1), List.getD_eq_getElem?_getD]
    rw [e]
    have hb := Kd.R_bound (h.row i h1)
    exact Kd.R_mono (R_kp hb hk (fun k hk2 => ⟨by have := hk2.2.1; omega, hk2.1⟩)) (fun k hk2 => Nat.lt_of_lt_of_le hk2.1 hk.size)
  · rename_i h1
    simp only [List.getElem_singleton]
    have e2 : i = ls.length := by simp at hi; have := h.vl; have := h.ll; omega
    have e : (ls ++ [l]).getD i [] = l := by
      rw [List.getD_eq_getElem?_getD, e2, List.getElem?_append_right (Nat.le_refl _), Nat.sub_self]
      rfl
    rw [e]
    exact hv
theorem LstI.done {ob n base : Nat} {vs : List Value} {ls : List (List Int)} {W : World} (h : LstI ob n n base vs ls W) (hn : n ≤ 1000000000) : Rd (Kd.slice 3 (Kd.int .i64)) W (.slice (some ⟨ob, 0, none⟩) n n) ls := by
  have hl := h.ll
  refine ⟨some ⟨ob, 0, none⟩, n, by rw [hl], by omega, by omega, by omega, fun _ => ⟨_, rfl, fun j p hj => ?_⟩⟩
  have hj1 : j < ls.length := (List.getElem?_eq_some_iff.1 hj).1
  have hjv : j < vs.length := by rw [h.vl, ← hl]; exact hj1
  have hR := h.row j hjv
  have e : ls.getD j [] = p := by rw [List.getD_eq_getElem?_getD, hj]; rfl
  rw [e] at hR
  obtain ⟨A, c, ev, hlc, hC⟩ := Kd.R_reads hR
  refine ⟨[.slice A p.length c], rfl, ⟨A, c, rfl, hlc, hC⟩, fun i u hu => ?_⟩
  match i, hu with
  | 0, hu =>
    obtain rfl : Value.slice A p.length c = u := by simpa using hu
    have := cell_of_block h.o j (.slice A p.length c) (by
      rw [List.getElem?_toArray, List.getElem?_append_left hjv, List.getElem?_eq_getElem hjv, ev])
    have ea : Addr.add ⟨ob, 0, none⟩ (j * (Kd.slice 3 (Kd.int .i64)).sz + 0) = ⟨ob, j, none⟩ := by
      simp [Addr.add, Kd.slice]
      intro h; exact h.symm
    rw [ea]
    exact this
set_option maxHeartbeats 8000000 in
set_option maxRecDepth 100000 in
theorem lists_calls (sb n wd : Nat) (mb : List Nat) (tab : List (List Bool)) (least top : Int) (w : World) (hn : n ≤ 1000000000) (hS : SetsI sb n mb tab wd w) (hl0 : -1 ≤ least) (hl1 : least ≤ 0) (ht0 : 0 ≤ top) (ht1 : top ≤ 1000000) :
    Calls Try.prog 42 #[.slice (some ⟨sb, 0, none⟩) n n, .int .i64 least, .int .i64 top] w fun e w' => ∃ v, e = .returned v ∧ Rd (Kd.slice 3 (Kd.int .i64)) w' v (listsOf tab n least top) ∧ Below w.heap.size w w' := by
  have hmL := mkL n hn
  have z1 : 0 ≤ (n : Int) := by omega
  have HS := Aside0.mk hS
  have hu39 := Try.underlying39
  obtain ⟨J, hJ⟩ : ∃ J, J = (top - least).toNat := ⟨_, rfl⟩
  have hJ2 : (J : Int) = top - least := by omega
  have HJ := Aside0.mk hJ
  clear hS hJ
  go_enter Try.func42, Try.ntmps42
  go_upto_region 2 with fail
  obtain ⟨w4, hw4⟩ : ∃ w4 : World, w4 = w.alloc (Obj.cells (Array.replicate n (Value.slice none 0 0)) 39) := ⟨_, rfl⟩
  obtain ⟨ob, hob⟩ : ∃ ob, ob = w.heap.size := ⟨_, rfl⟩
  rw [← hw4, ← hob]
  have HL0 := Aside0.mk (show LstI ob n 0 (ob + 1) [] [] w4 from ⟨by rw [hw4]; refine (blk_new hob).trans ?_; simp, rfl, rfl, fun i h => absurd h (Nat.not_lt_zero _)⟩)
  have HB4 := Aside0.mk (show Below w.heap.size w w4 by rw [hw4]; exact below_alloc (Below.refl _ _) _)
  have HOB := Aside0.mk (show w.heap.size ≤ ob ∧ ob + 1 ≤ w4.heap.size from ⟨by omega, by rw [hw4]; simp [hob]⟩)
  have HLS0 : Aside0 (([] : List (List Int)) = (List.range 0).map (fun i => rowList (tab.getD i []) least top)) := ⟨rfl⟩
  clear hw4 hob hmL
  go_wp2_with fail
  go_loopg [15] n (fun gg s15 wr => ∃ (ii : Nat) (vs : List Value), ii ≤ n ∧ n - ii ≤ gg ∧ s15 = .int .i64 ii ∧ Aside0 (LstI ob n ii (ob + 1) vs ((List.range ii).map (fun i => rowList (tab.getD i []) least top)) wr) ∧ Aside0 (Below w.heap.size w wr) ∧ Aside0 (w4.heap.size ≤ wr.heap.size))
  case atStart => exact ⟨0, [], Nat.zero_le _, by omega, rfl, HL0, HB4, ⟨Nat.le_refl _⟩⟩
  case round =>
    obtain ⟨ii, vs, hii, hgg, rfl, HLx, HBx, HZx⟩ := hrel
    clear HL0 HB4 HLS0
    by_cases hlt : ii < n
    · have hltz : (ii : Int) < (n : Int) := by omega
      have hltn : (0 : Int) ≤ (ii : Int) := by omega
      obtain ⟨wB, hwB⟩ : ∃ wB, wB = wr := ⟨_, rfl⟩
      have HLB := Aside0.mk (show LstI ob n ii (ob + 1) vs ((List.range ii).map (fun i => rowList (tab.getD i []) least top)) wB by rw [hwB]; exact HLx.out)
      have HWB := Aside0.mk (show w4.heap.size ≤ wB.heap.size by rw [hwB]; exact HZx.out)
      have HH0 := Aside0.mk (show wr.heap[ob]? = some (.cells (vs ++ Value.slice none 0 0 :: List.replicate (n - (ii + 1)) (Value.slice none 0 0)).toArray 39 (0, 0)) by
        refine HLx.out.o.trans ?_
        rw [show n - ii = (n - (ii + 1)) + 1 by omega, List.replicate_succ])
      have HK0 := Aside0.mk (show Kp (fun k => k = ob) wB wr by rw [hwB]; exact Kp.refl _ _)
      have HR0 := Aside0.mk (Kd.R_nil (Kd.int .i64) 3 wr wB.heap.size (fun k => k < wr.heap.size))
      have hvl := HLx.out.vl
      clear hwB HLx
      go_wp2_with fail
      go_loopg [9] J (fun gg s9 wx => ∃ (jj : Nat) (v : Value), jj ≤ J ∧ J - jj ≤ gg ∧ s9 = .int .i64 (least + jj) ∧ Aside0 (wx.heap[ob]? = some (.cells (vs ++ v :: List.replicate (n - (ii + 1)) (Value.slice none 0 0)).toArray 39 (0, 0))) ∧ Aside0 (Kd.R (Kd.int .i64) 3 wx wB.heap.size (fun k => k < wx.heap.size) v (rowPart (tab.getD ii []) least jj)) ∧ Aside0 (Kp (fun k => k = ob) wB wx) ∧ Aside0 (Below w.heap.size w wx))
      case atStart => exact ⟨0, _, Nat.zero_le _, by omega, by simp, HH0, HR0, HK0, HBx⟩
      case round =>
        obtain ⟨jj, v, hjj, hgj, rfl, HHy, HRy, HKy, HBy⟩ := hrel
        clear HH0 HR0 HK0 HBx
        by_cases hjl : jj < J
        · have hcmp : decide (least + (jj : Int) < top) = true := decide_eq_true (by omega)
          have hwt : Wf (least + (jj : Int)) := ⟨by omega, by omega⟩
          have e1 : IntKind.i64.wrap (least + (jj : Int) + 1) = least + (jj : Int) + 1 := IntWalk.i64_in _ (by omega)
          have hSx := HS.out.below HBy.out
          have him : ii < mb.length := by rw [hSx.ml]; exact hlt
          have o0 := hSx.outer ii him
          have hlk := (hSx.row ii him).look hwt
          have hps := rowPart_succ (tab.getD ii []) least jj
          generalize mb[ii] = bi at o0 hlk
          cases hin : inRow (tab.getD ii []) (least + (jj : Int)) with
          | false =>
            rw [hin] at hlk hps
            rw [if_neg (by simp)] at hps
            have HR2 := Aside0.mk (show Kd.R (Kd.int .i64) 3 wr wB.heap.size (fun k => k < wr.heap.size) v (rowPart (tab.getD ii []) least (jj + 1)) by rw [hps]; exact HRy.out)
            clear hin hps hSx him
            go_wp2_with fail
            go_roundg (J - (jj + 1))
            case rel => exact ⟨jj + 1, v, by omega, by omega, by congr 1; omega, HHy, HR2, HKy, HBy⟩
            case measure => omega
          | true =>
            rw [hin] at hlk hps
            rw [if_pos rfl] at hps
            have c0 := cell_of_block HHy.out ii v (by rw [List.getElem?_toArray, List.getElem?_append_right (by omega), hvl, Nat.sub_self]; rfl)
            have HPL := Aside0.mk (rowPart_len (tab.getD ii []) least jj)
            have HPS := Aside0.mk hps
            have hobw : ob < wB.heap.size := by have := HWB.out; have := HOB.out.2; omega
            have HOW := Aside0.mk hobw
            have HC1 := Aside0.mk (show ∀ W', Below wB.heap.size wr W' → W'.heap[ob]? = some (.cells (vs ++ v :: List.replicate (n - (ii + 1)) (Value.slice none 0 0)).toArray 39 (0, 0)) from fun W' h => (h.block ob hobw).trans HHy.out)
            have HCV := Aside0.mk (show ∀ W' : World, W'.heap[ob]? = some (.cells (vs ++ v :: List.replicate (n - (ii + 1)) (Value.slice none 0 0)).toArray 39 (0, 0)) → W'.cell? ⟨ob, ii, none⟩ = some v from fun W' h => cell_of_block h ii v (by rw [List.getElem?_toArray, List.getElem?_append_right (by omega), hvl, Nat.sub_self]; rfl))
            clear hin hps hSx him hobw
            go_wp2_with ((with_reducible refine gate_builtin (b := .append) (xs := #[.tmp 35, .tmp 37]) rfl ?_); at_builtin; refine Kd.R_append (Kd.int .i64) (w0 := wr) wB.heap.size rfl (.tmp 35) (.tmp 37) 39 3 (.int .i64 0) 8 rfl Try.underlying39 info3 rfl (by decide) (by omega) v (rowPart (tab.getD ii []) least jj) (least + (jj : Int)) [.int .i64 (least + (jj : Int))] (fun _ => True) (fun _ => False) rfl rfl ?aP (fun _ hk => hk.elim) ?aF ?aO ?aB ?aS ?aL ?_; (case aP => exact rfl); (case aB => exact Below.refl _ _); (case aF => exact (fun _ _ => trivial)); (case aO => exact Kd.R_mono HRy.out (fun _ _ => trivial)); (case aS => exact HKy.out.size); (case aL => have := HPL.out; omega); intro v2 w12 ho hb hg hat; (obtain ⟨N6, A6, c6, rfl⟩ := R_slice ho); have c2 := HCV.out w12 (HC1.out w12 hb); have f2 := blk_frozen (HC1.out w12 hb) ii; have HO2 := Aside0.mk ho; have HB2 := Aside0.mk hb; clear ho hb hg hat)
            have hbk : Kp (fun k => k = ob) wB w12 := ⟨HB2.out.os.trans HKy.out.os, HB2.out.tape.trans HKy.out.tape, HB2.out.output.trans HKy.out.output, Nat.le_trans HKy.out.size HB2.out.size, fun i hi hn => (HB2.out.block i hi).trans (HKy.out.block i hi hn)⟩
            have hks : Kp (fun k => k = ob) w12 (w12.setCell ⟨ob, ii, none⟩ (.slice A6 N6 c6)) := Kp.set (S := fun k => k = ob) (p := ⟨ob, ii, none⟩) rfl _
            have HK2 := Aside0.mk (hbk.trans hks)
            have hbw : Below w.heap.size w w12 := HBy.out.trans (HB2.out.mono (by have := HWB.out; have := HOB.out; omega))
            have HBW2 := Aside0.mk (hbw.trans (hks.below hbw.size (fun k hk => by rw [hk]; exact HOB.out.1)))
            have HH2 := Aside0.mk (show (w12.setCell ⟨ob, ii, none⟩ (.slice A6 N6 c6)).heap[ob]? = some (.cells (vs ++ Value.slice A6 N6 c6 :: List.replicate (n - (ii + 1)) (Value.slice none 0 0)).toArray 39 (0, 0)) by
              refine (blk_set (HC1.out w12 HB2.out) ii (.slice A6 N6 c6)).trans ?_
              congr 2
              rw [List.setIfInBounds_toArray]
              congr 1
              rw [List.set_append_right _ _ (by omega), hvl, Nat.sub_self, List.set_cons_zero])
            have HR2 := Aside0.mk (show Kd.R (Kd.int .i64) 3 (w12.setCell ⟨ob, ii, none⟩ (.slice A6 N6 c6)) wB.heap.size (fun k => k < (w12.setCell ⟨ob, ii, none⟩ (.slice A6 N6 c6)).heap.size) (.slice A6 N6 c6) (rowPart (tab.getD ii []) least (jj + 1)) by
              rw [HPS.out]
              exact Kd.R_mono (Kd.R_far (Kd.R_bound HO2.out) (p := ⟨ob, ii, none⟩) (fun k hk => by have := hk.2.1; have := HOW.out; show k ≠ ob; omega) (.slice A6 N6 c6)) (fun k hk => Nat.lt_of_lt_of_le hk.2.2.1 hks.size))
            clear hbk hks hbw HCV HC1
            go_roundg (J - (jj + 1))
            case rel => exact ⟨jj + 1, _, by omega, by omega, by congr 1; omega, HH2, HR2, HK2, HBW2⟩
            case measure => omega
        · obtain rfl : J = jj := by omega
          have hcmp : decide (least + (J : Int) < top) = false := decide_eq_false (by omega)
          have HL2 := Aside0.mk (show LstI ob n (ii + 1) (ob + 1) (vs ++ [v]) ((List.range (ii + 1)).map (fun i => rowList (tab.getD i []) least top)) wr by
            have hsz := HWB.out
            have hso := HOB.out
            have := HLB.out.kp (cs := vs ++ [v]) (v := v) (l := rowList (tab.getD ii []) least top) HKy.out (by omega) (by rw [List.append_assoc]; exact HHy.out) rfl (by
              have h1 := HRy.out
              rw [HJ.out] at h1
              exact Kd.R_lower h1 (by omega))
            rw [List.range_succ, List.map_append]
            exact this)
          have HZ2 := Aside0.mk (show w4.heap.size ≤ wr.heap.size by have := HWB.out; have := HKy.out.size; omega)
          clear hjl HHy HRy HKy HLB
          go_wp2_with fail
          go_roundg (n - (ii + 1))
          case rel => exact ⟨ii + 1, _, by omega, by omega, by go_num, HL2, HBy, HZ2⟩
          case measure => omega
    · obtain rfl : n = ii := by omega
      have t3 : decide (n < n) = false := decide_eq_false (by omega)
      have HF := Aside0.mk (HLx.out.done hn)
      clear hlt HLx
      go_wp2_with fail
      go_ret
      exact ⟨_, rfl, HF.out, HBx.out⟩
end Go.Proofs.Ytkaedhooccpniaa.Hand
