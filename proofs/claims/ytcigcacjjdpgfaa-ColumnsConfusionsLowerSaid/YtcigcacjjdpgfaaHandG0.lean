import Derived.Test.YtcigcacjjdpgfaaPAx0
import Derived.WalkSpells
import Derived.Outline
import Derived.Test.YtcigcacjjdpgfaaPAx3
import Derived.Laws.CopyOwn
import Derived.Deep.RegionLaw
import Derived.IntWalk
/- Words for the walks by hand: worlds that keep what lay, but for some blocks. -/
namespace Go.Proofs.Ytcigcacjjdpgfaa.Hand
open Go.RowKit Go.Proofs.YtcigcacjjdpgfaaW.PrintWords Go.Proofs.YtcigcacjjdpgfaaW.PrintLast Go.Proofs.YtcigcacjjdpgfaaW.PrintMore
set_option linter.unusedVariables false

/-- W' is W with new blocks, and with changes in S's blocks alone. -/
structure Kp (S : Nat → Prop) (W W' : World) : Prop where
  os : W'.os = W.os
  tape : W'.tape = W.tape
  output : W'.output = W.output
  size : W.heap.size ≤ W'.heap.size
  block : ∀ k, k < W.heap.size → ¬ S k → W'.heap[k]? = W.heap[k]?
section
variable {S S' : Nat → Prop} {W W1 W2 : World}
theorem Kp.refl (S : Nat → Prop) (W : World) : Kp S W W := ⟨rfl, rfl, rfl, Nat.le_refl _, fun _ _ _ => rfl⟩
theorem Kp.trans (h : Kp S W W1) (k : Kp S W1 W2) : Kp S W W2 :=
  ⟨k.os.trans h.os, k.tape.trans h.tape, k.output.trans h.output, Nat.le_trans h.size k.size, fun i hi hs => (k.block i (Nat.lt_of_lt_of_le hi h.size) hs).trans (h.block i hi hs)⟩
theorem Kp.of_below (h : Below W.heap.size W W1) : Kp S W W1 := ⟨h.os, h.tape, h.output, h.size, fun i hi _ => h.block i hi⟩
theorem Kp.step (h : Kp S W W1) (k : Below W1.heap.size W1 W2) : Kp S W W2 := h.trans (Kp.of_below k)
theorem Kp.mono (h : Kp S W W1) (hs : ∀ k, k < W.heap.size → S k → S' k) : Kp S' W W1 := ⟨h.os, h.tape, h.output, h.size, fun i hi hn => h.block i hi (fun he => hn (hs i hi he))⟩
theorem Kp.cell (h : Kp S W W1) {b o : Nat} (hb : b < W.heap.size) (hs : ¬ S b) : W1.cell? ⟨b, o, none⟩ = W.cell? ⟨b, o, none⟩ := World.cell?_of_block (w := W) (h.block b hb hs)
theorem Kp.below {B : Nat} (h : Kp S W W1) (hB : B ≤ W.heap.size) (hs : ∀ k, S k → B ≤ k) : Below B W W1 := ⟨h.os, h.tape, h.output, h.size, fun i hi => h.block i (Nat.lt_of_lt_of_le hi hB) (fun he => by have := hs i he; omega)⟩
theorem Kp.set {p : Addr} (hs : S p.block) (u : Value) : Kp S W (W.setCell p u) := ⟨rfl, rfl, rfl, by simp [World.setCell], fun i _ hn => Below.heap_setCell _ _ _ _ (fun e => hn (e ▸ hs))⟩
/-- A row that is read, in a world that keeps its blocks. -/
theorem Kp.below_then {W0 : World} (h : Below W0.heap.size W0 W) (k : Kp S W W1) (hs : ∀ i, S i → W0.heap.size ≤ i) : Below W0.heap.size W0 W1 := h.trans (k.below h.size hs)
end
/-- A block of cells, as it lies. -/
theorem cell_of_block {w : World} {b : Nat} {cs : Array Value} {t : Nat} {fz : Nat × Nat} (h : w.heap[b]? = some (.cells cs t fz)) (i : Nat) (u : Value) (hi : cs[i]? = some u) : w.cell? ⟨b, i, none⟩ = some u := by
  simp [World.cell?, h, hi]
theorem blk_Kp {S : Nat → Prop} {W W1 : World} {b : Nat} {o : Obj} (h : W.heap[b]? = some o) (k : Kp S W W1) (hs : ¬ S b) : W1.heap[b]? = some o :=
  (k.block b (Array.getElem?_eq_some_iff.1 h).1 hs).trans h
theorem blk_new {w : World} {o : Obj} {b : Nat} (h : b = w.heap.size) : (w.alloc o).heap[b]? = some o := by
  subst h
  show (w.heap.push o)[w.heap.size]? = some o
  simp
end Go.Proofs.Ytcigcacjjdpgfaa.Hand
/- slices.Clone at []int: the result reads as the argument did and lies in memory of the call's own; by hand, in the printed contracts' form. -/
namespace Go.Proofs.Ytcigcacjjdpgfaa.PA
open Go.RowKit Go.Proofs.YtcigcacjjdpgfaaW.PrintWords Go.Proofs.YtcigcacjjdpgfaaW.PrintLast Go.Proofs.YtcigcacjjdpgfaaW.PrintMore
set_option linter.unusedVariables false
set_option linter.unusedSimpArgs false

def slices_Clone_int_int.f (l0 : List Int) : Option (List Int) := if l0.length < 8796093022208 then some l0 else none

set_option maxHeartbeats 2000000 in
set_option maxRecDepth 100000 in
theorem slices_Clone_int_int.calls (A0 : Option Addr) (c0 : Nat) (l0 : List Int) (r : List Int) (w : World) (hr0 : Kd.C (Kd.int .i64) w A0 l0.length l0) (hc0 : l0.length ≤ c0) (h : slices_Clone_int_int.f l0 = some r) :
    Calls Try.prog 40 #[.slice A0 l0.length c0] w fun e w' => ∃ v0_ : Value, e = .returned (v0_) ∧ Kd.R (Kd.int .i64) 3 w' w.heap.size (fun _ => True) v0_ r ∧ Below w.heap.size w w' := by
  have hu23 := Try.underlying23
  have hl : l0.length < 8796093022208 := by
    by_cases hl : l0.length < 8796093022208
    · exact hl
    · simp only [slices_Clone_int_int.f, if_neg hl] at h; cases h
  obtain rfl : l0 = r := by simp only [slices_Clone_int_int.f, if_pos hl] at h; exact Option.some.inj h
  clear h
  have q23 : ∀ (w : World) (a : Option Addr) (n c n' c' : Nat), (binOp .eql 23 (.slice a n c) (.slice none n' c')).run Try.prog w = .ok (.bool a.isNone) w := fun w a n c n' c' => Lib.run_eql_slice_nil w _ _ a n c n' c' Try.underlying23
  rcases A0 with _ | ad
  · have h0 : l0 = [] := by
      by_cases hp : 0 < l0.length
      · obtain ⟨ad, hA, _⟩ := hr0.2.2 hp
        cases hA
      · exact List.eq_nil_of_length_eq_zero (by omega)
    subst h0
    have HR := Aside0.mk (Kd.R_nil (Kd.int .i64) 3 w w.heap.size (fun _ => True))
    clear hr0
    go_enter Try.func40, Try.ntmps40
    go_wp2
    go_ret
    exact ⟨_, rfl, HR.out, Below.refl _ _⟩
  · have HR := Aside0.mk hr0
    have HB := Aside0.mk (Below.refl w.heap.size w)
    have HL := Aside0.mk hl
    clear hr0 hl
    go_enter Try.func40, Try.ntmps40
    go_wp2_with (first | ((with_reducible refine gate_dst (N := 5) rfl ?_); refine Kd.R_lit (Kd.int .i64) _ 3 ?hg (N := 5) ?hd (xs := []) (inner := []) (ok := fun _ => True) (okp := fun _ => True) ?hr ?hp (fun _ hk => hk) trivial (Below.refl _ _) (Nat.le_refl _) (by simp) ?_; (case hd => rfl); (case hg => rfl); (case hr => first | (go_simp; done) | (go_simp; rfl)); (case hp => exact (Reps.none _ _)); intro v1 w1 ho1 hb1 hg_ hnew_; clear hg_ hnew_; have HO1 := Aside0.mk ho1; have HB1 := Aside0.mk hb1; have HR1 := Aside0.mk (Kd.C_below HR.out hb1); clear ho1 hb1) | ((with_reducible refine gate_builtin (b := .append) (xs := #[.tmp 5, .tmp 6]) rfl ?_); at_builtin; refine Kd.R_append_rows (Kd.int .i64) (w0 := w) w.heap.size rfl (.tmp 5) (.tmp 6) 23 3 (.int .i64 0) 8 rfl Try.underlying23 info3 rfl (by decide) (by omega) v1 [] l0 _ _ _ (fun _ => True) (fun _ => False) rfl rfl ?aO ?aR (fun _ _ h => h) (fun _ h => h.elim) (fun _ _ => trivial) ?aB ?aS ?aL ?_; (case aR => exact HR1.out); (case aB => exact HB1.out); (case aO => exact HO1.out); (case aS => exact HB1.out.size); (case aL => have := HL.out; simp; omega); intro v2 w2 ho hb hg hat; have HO2 := Aside0.mk ho; have HB2 := Aside0.mk hb; clear ho hb hg hat))
    go_ret
    exact ⟨_, rfl, HO2.out, HB2.out⟩
end Go.Proofs.Ytcigcacjjdpgfaa.PA
/- slices.Repeat of [-1]: by hand. -/
namespace Go.Proofs.Ytcigcacjjdpgfaa.Hand
open Go.RowKit Go.Proofs.YtcigcacjjdpgfaaW.PrintWords Go.Proofs.YtcigcacjjdpgfaaW.PrintLast Go.Proofs.YtcigcacjjdpgfaaW.PrintMore Go.Proofs.Ytcigcacjjdpgfaa.PA
set_option linter.unusedVariables false
set_option linter.unusedSimpArgs false

theorem mul1_all : (List.range 64).all (fun n => bits_Mul.f 1 n == some (0, (n : Int))) = true := by kernel_rfl
theorem mul1 (n : Nat) (h : n < 64) : bits_Mul.f 1 n = some (0, (n : Int)) := by
  have := List.all_eq_true.1 mul1_all n (List.mem_range.2 h)
  simpa using this
theorem mk_run (n : Nat) (hn : n ≤ 60) (w : World) : (Instr.makeSlice 23 (.int .i64 n) (.int .i64 n)).run Try.prog w = .ok (.slice (some ⟨w.heap.size, 0, none⟩) n n) (w.alloc (.cells (List.replicate n (Value.int .i64 0)).toArray 3)) := by
  obtain ⟨i0, hi, hzz⟩ := Option.map_eq_some_iff.1 info3
  simp only [Prod.mk.injEq] at hzz
  obtain ⟨hz0, hz1, hz2⟩ := hzz
  have h := run_make (P := Try.prog) w 23 3 i0 (.int .i64 0) Try.underlying23 hi hz0 .i64 .i64 n n (by omega) (by omega) (by rw [hz2]; omega) (by omega)
  rw [h]
  simp only [Int.toNat_natCast, hz1, Nat.mul_one]
  congr 2
  have := toList_madeCells_one (.int .i64 0) n
  rw [← this]
  rfl

theorem splice_rep (n j : Nat) (k : Nat) (hk : j + k ≤ n) (a b : Value) : splice (List.replicate j a ++ List.replicate (n - j) b) j (List.replicate k a) = List.replicate (j + k) a ++ List.replicate (n - (j + k)) b := by
  unfold splice
  rw [List.take_append_of_le_length (by simp), List.take_of_length_le (by simp), List.drop_append, List.drop_eq_nil_of_le (by simp), List.nil_append, ← List.append_assoc, List.replicate_append_replicate]
  simp only [List.length_replicate, List.drop_replicate]
  congr 2
  omega

theorem R_of_block {w : World} {g n base : Nat} {xs : List Int} (hn : n = xs.length) (h : w.heap[g]? = some (.cells (xs.map (Value.int .i64)).toArray 3 (0, 0))) (hb : base ≤ g) (hm : xs.length ≤ 1000000) :
    Kd.R (Kd.int .i64) 3 w base (fun _ => True) (.slice (some ⟨g, 0, none⟩) n n) xs := by
  subst hn
  refine ⟨fun _ _ => trivial, xs.map (Value.int .i64), ⟨by simp [Kd.int, Kd.scalar], .inr ⟨g, xs.length, _, rfl, hb, h, Nat.le_refl _, by simp [maxLen]; omega, by simp [Kd.int, Kd.scalar], by simp [Kd.int, Kd.scalar]; exact List.take_of_length_le (by simp)⟩⟩, by simp [Kd.int, Kd.scalar], ?_⟩
  intro j p hj
  obtain ⟨hl, he⟩ := List.getElem?_eq_some_iff.1 hj
  simp only [Kd.int, Kd.scalar, Nat.mul_one]
  rw [List.drop_eq_getElem_cons (by simpa using hl)]
  simp [he]
theorem cA_one {w : World} {ad : Addr} {n : Nat} (h : w.cell? ad = some (.int .i64 (-1))) {j : Nat} {v : Value} (hj : (List.replicate (Nat.min 1 n) (Value.int .i64 (-1)))[j]? = some v) : w.cell? (Addr.add ad j) = some v := by
  obtain ⟨hl, he⟩ := List.getElem?_eq_some_iff.1 hj
  simp only [List.length_replicate] at hl
  obtain rfl : j = 0 := by have : Nat.min 1 n ≤ 1 := Nat.min_le_left _ _; omega
  simp only [List.getElem_replicate] at he
  rw [← he, show Addr.add ad 0 = ad by simp [Addr.add]]
  exact h

set_option maxHeartbeats 2000000 in
set_option maxRecDepth 100000 in
theorem rep_calls (ad : Addr) (c n : Nat) (w : World) (h0 : w.cell? ad = some (.int .i64 (-1))) (hn : n ≤ 60) :
    Calls Try.prog 41 #[.slice (some ad) 1 c, .int .i64 n] w fun e w' => ∃ v, e = .returned v ∧ Kd.R (Kd.int .i64) 3 w' w.heap.size (fun _ => True) v (List.replicate n (-1)) ∧ Below w.heap.size w w' := by
  have hmul := bits_Mul.calls 1 n 0 n w (mul1 n (by omega))
  have hmk := mk_run n hn
  have z1 : 0 ≤ (n : Int) := by omega
  have z2 : (n : Int) ≤ 60 := by omega
  have hu23 := Try.underlying23
  have H0 := Aside0.mk h0
  have HN := Aside0.mk hn
  clear h0 hn
  go_enter Try.func41, Try.ntmps41
  go_wp2_with fail
  (with_reducible refine hmul.mono ?_)
  rintro e w1 ⟨rfl, hd⟩
  have HB1 := Aside0.mk hd.below
  clear hmul hd
  dsimp only
  go_upto_region 7 with fail
  obtain ⟨w2, hw2⟩ : ∃ w2 : World, w2 = w1.alloc (Obj.cells (Array.replicate n (Value.int IntKind.i64 0)) 3) := ⟨_, rfl⟩
  rw [← hw2]
  obtain ⟨g, hg⟩ : ∃ g, g = w1.heap.size := ⟨_, rfl⟩
  rw [← hg]
  have hG : w2.heap[g]? = some (Obj.cells (List.replicate n (Value.int IntKind.i64 0)).toArray 3 (0, 0)) := by rw [hw2, List.toArray_replicate]; exact blk_new hg
  have HGW := Aside0.mk (show w.heap.size ≤ g by rw [hg]; exact HB1.out.size)
  have HB2 := Aside0.mk (show Below w.heap.size w w2 by rw [hw2]; exact below_step HB1.out (below_alloc (Below.refl _ _) _))
  have c0 : w2.cell? ad = some (.int .i64 (-1)) := (HB2.out.cell (p := ad) (World.block_lt_of_cell? w _ H0.out)).trans H0.out
  have HC0 := Aside0.mk c0
  have HG := Aside0.mk hG
  clear hw2 hg hG HB1 c0
  go_wp2_with ((with_reducible refine gate_builtin (b := .copy) (xs := #[.tmp 31, .tmp 32]) rfl ?_); refine wpList_copy_splice rfl (.tmp 31) (.tmp 32) 23 23 rfl 3 Try.underlying23 (by kernel_rfl) (some ⟨g, 0, none⟩) (some ad) n n 1 c ?hD ?hS g 0 (List.replicate n (Value.int IntKind.i64 0)) 3 HG.out (List.replicate (Nat.min 1 n) (Value.int .i64 (-1))) (by simp) (fun _ => ⟨rfl, _, rfl, ?cA⟩) (by simp only [List.length_replicate, Nat.zero_add]; exact Nat.min_le_right _ _) (by intro v hv; rw [List.eq_of_mem_replicate hv]; rfl) w.heap.size w HB2.out HGW.out ?_; (case hD => rfl); (case hS => rfl); (case cA => intro j v hj; exact cA_one HC0.out hj); intro w3 hG3 hB3)
  have hnm : ((List.replicate (Nat.min 1 n) (Value.int IntKind.i64 (-1))).length : Int) = (Nat.min 1 n : Nat) := by simp
  have HG3 := Aside0.mk (show w3.heap[g]? = some (.cells (List.replicate (Nat.min 1 n) (Value.int .i64 (-1)) ++ List.replicate (n - Nat.min 1 n) (Value.int .i64 0)).toArray 3 (0, 0)) by
    have h := hG3
    have hs := splice_rep n 0 (Nat.min 1 n) (by rw [Nat.zero_add]; exact Nat.min_le_right _ _) (Value.int .i64 (-1)) (Value.int .i64 0)
    simp only [List.replicate_zero, List.nil_append, Nat.sub_zero, Nat.zero_add] at hs
    rw [hs] at h
    exact h)
  have HB3 := Aside0.mk hB3
  clear hG3 hB3 HG HB2 HC0 H0
  clear hnm
  obtain ⟨m0, hm0⟩ : ∃ m0, m0 = Nat.min 1 n := ⟨_, rfl⟩
  have hm1 : m0 ≤ n := by rw [hm0]; exact Nat.min_le_right _ _
  have hm2 : 0 < n → 0 < m0 := by intro h; rw [hm0]; exact Nat.lt_min.2 ⟨by omega, h⟩
  rw [← hm0] at HG3
  rw [← hm0]
  clear hm0
  go_loopg [8] n (fun gg s8 wr => ∃ kk : Nat, kk ≤ n ∧ (0 < n → 0 < kk) ∧ n - kk ≤ gg ∧ s8 = .int .i64 kk ∧ Aside0 (wr.heap[g]? = some (Obj.cells (List.replicate kk (Value.int .i64 (-1)) ++ List.replicate (n - kk) (Value.int .i64 0)).toArray 3 (0, 0))) ∧ Aside0 (Below w.heap.size w wr))
  case atStart => exact ⟨m0, hm1, hm2, by omega, rfl, HG3, HB3⟩
  case round =>
    obtain ⟨kk, hkk, hpos, hgg, rfl, HGx, HBx⟩ := hrel
    clear HG3 HB3 hm1 hm2
    by_cases hlt : kk < n
    · have hltz : (kk : Int) < (n : Int) := by omega
      have q1 : decide (kk < n) = true := decide_eq_true hlt
      go_wp2_with fail
      obtain ⟨d, hd⟩ : ∃ d, d = Nat.min kk (n - kk) := ⟨_, rfl⟩
      have hd1 : kk + d ≤ n := by have := Nat.min_le_right kk (n - kk); have hd' : d ≤ n - kk := hd ▸ this; omega
      have hd2 : 0 < d := by rw [hd]; exact Nat.lt_min.2 ⟨hpos (by omega), by omega⟩
      have hlen : (List.replicate d (Value.int IntKind.i64 (-1))).length = Nat.min kk (n - kk) := by simp [hd]
      have hsrc : ∀ j v, (List.replicate d (Value.int IntKind.i64 (-1)))[j]? = some v → wr.cell? (Addr.add ⟨g, 0, none⟩ j) = some v := by
        intro j v hj
        obtain ⟨hl, he⟩ := List.getElem?_eq_some_iff.1 hj
        simp only [List.length_replicate] at hl
        simp only [List.getElem_replicate] at he
        have hdk : d ≤ kk := by rw [hd]; exact Nat.min_le_left _ _
        have hc := cell_of_block HGx.out j v (by
          rw [List.getElem?_toArray, List.getElem?_append_left (by simp; omega), List.getElem?_replicate_of_lt (by omega), he])
        rw [show Addr.add ⟨g, 0, none⟩ j = ⟨g, j, none⟩ by simp [Addr.add]; intro h; exact h.symm]
        exact hc
      have hfit : kk + (List.replicate d (Value.int IntKind.i64 (-1))).length ≤ (List.replicate kk (Value.int IntKind.i64 (-1)) ++ List.replicate (n - kk) (Value.int IntKind.i64 0)).length := by simp; omega
      have hone : ∀ v ∈ List.replicate d (Value.int IntKind.i64 (-1)), v.oneCell' = true := by intro v hv; rw [List.eq_of_mem_replicate hv]; rfl
      have hnk : ¬ n = kk := by omega
      have HF := Aside0.mk (And.intro hlen (And.intro hsrc (And.intro hfit hone)))
      have HD := Aside0.mk (And.intro hd1 hd2)
      have e1 : IntKind.i64.wrap ((kk : Int) + (d : Int)) = (kk : Int) + d := IntWalk.i64_in _ (by omega)
      have e2 : IntKind.i64.wrap (n : Int) = n := IntWalk.i64_in _ (by omega)
      have e3 : IntKind.i64.wrap (kk : Int) = kk := IntWalk.i64_in _ (by omega)
      clear hd hlen hsrc hfit hone hd1 hd2
      go_region_law (refine step_copy_splice rfl (.tmp 41) (.tmp 44) 23 23 rfl 3 Try.underlying23 (by kernel_rfl) (some ⟨g, kk, none⟩) (some ⟨g, 0, none⟩) (n - kk) (n - kk) kk n (by simp [Act.eval, Act.put, hnk]) (by simp [Act.eval, Act.put]) g kk (List.replicate kk (Value.int .i64 (-1)) ++ List.replicate (n - kk) (Value.int .i64 0)) 3 HGx.out (List.replicate d (Value.int .i64 (-1))) HF.out.1 (fun _ => ⟨rfl, _, rfl, HF.out.2.1⟩) HF.out.2.2.1 HF.out.2.2.2 w.heap.size w (below_drew1 HBx.out) HGW.out ?_; intro w4 hG4 hB4)
      have hG5 : w4.heap[g]? = some (Obj.cells (List.replicate (kk + d) (Value.int .i64 (-1)) ++ List.replicate (n - (kk + d)) (Value.int .i64 0)).toArray 3 (0, 0)) := by
        have h := hG4
        rw [splice_rep n kk d HD.out.1] at h
        exact h
      have HG5 := Aside0.mk hG5
      have HB5 := Aside0.mk hB4
      clear hG4 hG5 hB4
      go_wp2_with fail
      go_roundg (n - (kk + d))
      case rel => exact ⟨kk + d, HD.out.1, by intro _; have := HD.out.2; omega, by omega, by go_num, HG5, HB5⟩
      case measure => have := HD.out.2; omega
    · obtain rfl : kk = n := by omega
      have q1 : decide (kk < kk) = false := decide_eq_false (by omega)
      clear hlt
      go_wp2_with fail
      go_ret
      refine ⟨_, rfl, ?_, HBx.out⟩
      have h := HGx.out
      rw [Nat.sub_self, List.replicate_zero, List.append_nil] at h
      exact R_of_block (xs := List.replicate kk (-1)) (by simp) (by rw [List.map_replicate]; exact h) HGW.out (by have := HN.out; simp; omega)
end Go.Proofs.Ytcigcacjjdpgfaa.Hand
namespace Go.Proofs.Ytcigcacjjdpgfaa.PA
open Go.RowKit Go.Proofs.YtcigcacjjdpgfaaW.PrintWords Go.Proofs.Ytcigcacjjdpgfaa.Hand
set_option linter.unusedVariables false
def slices_Repeat_int_int.f (l0 : List Int) (a1 : Int) : Option (List Int) := if l0 = [-1] ∧ 0 ≤ a1 ∧ a1 ≤ 60 then some (List.replicate a1.toNat (-1)) else none
theorem slices_Repeat_int_int.calls (A0 : Option Addr) (c0 : Nat) (l0 : List Int) (a1 : Int) (r : List Int) (w : World) (hr0 : Kd.C (Kd.int .i64) w A0 l0.length l0) (hc0 : l0.length ≤ c0) (h : slices_Repeat_int_int.f l0 a1 = some r) :
    Calls Try.prog 41 #[.slice A0 l0.length c0, .int .i64 a1] w fun e w' => ∃ v0_ : Value, e = .returned (v0_) ∧ Kd.R (Kd.int .i64) 3 w' w.heap.size (fun _ => True) v0_ r ∧ Below w.heap.size w w' := by
  unfold slices_Repeat_int_int.f at h
  split at h
  · rename_i hh
    obtain ⟨rfl, h0, h1⟩ := hh
    obtain rfl := Option.some.inj h
    obtain ⟨n, rfl⟩ := Int.eq_ofNat_of_zero_le h0
    obtain ⟨ad, rfl, hx⟩ := Kd.at_int hr0 0 (by omega) (by simp)
    rw [show Addr.add ad (Int.toNat 0) = ad by simp [Addr.add]] at hx
    exact rep_calls ad c0 n w hx (by omega)
  · cases h
end Go.Proofs.Ytcigcacjjdpgfaa.PA
