import Derived.Test.YtkaedhooccpniaaPAx0
import Derived.WalkSpells
import Derived.Outline
import Derived.Shelf.Abstract
/- Words for the walks by hand: worlds that keep what lay, but for some blocks. -/
namespace Go.Proofs.Ytkaedhooccpniaa.Hand
open Go.RowKit Go.Proofs.YtkaedhooccpniaaW.PrintWords Go.Proofs.YtkaedhooccpniaaW.PrintLast Go.Proofs.YtkaedhooccpniaaW.PrintMore
set_option linter.unusedVariables false

/-- W' is W with new blocks, and with changes in S's blocks alone. -/
structure Kp (S : Nat → Prop) (W W' : World) : Prop where
  os : W'.os = W.os
  tape : W'.tape = W.tape
  output : W'.output = W.output
  size : W.heap.size ≤ W'.heap.size
  block : ∀ k, k < W.heap.size → ¬ S k → W'.heap[k]? = W.heap[k]?
section
variable {S S' : Nat → Prop} {W W1 W2 : World}
theorem Kp.refl (S : Nat → Prop) (W : World) : Kp S W W := ⟨rfl, rfl, rfl, Nat.le_refl _, fun _ _ _ => rfl⟩
theorem Kp.trans (h : Kp S W W1) (k : Kp S W1 W2) : Kp S W W2 :=
  ⟨k.os.trans h.os, k.tape.trans h.tape, k.output.trans h.output, Nat.le_trans h.size k.size, fun i hi hs => (k.block i (Nat.lt_of_lt_of_le hi h.size) hs).trans (h.block i hi hs)⟩
theorem Kp.of_below (h : Below W.heap.size W W1) : Kp S W W1 := ⟨h.os, h.tape, h.output, h.size, fun i hi _ => h.block i hi⟩
theorem Kp.step (h : Kp S W W1) (k : Below W1.heap.size W1 W2) : Kp S W W2 := h.trans (Kp.of_below k)
theorem Kp.mono (h : Kp S W W1) (hs : ∀ k, k < W.heap.size → S k → S' k) : Kp S' W W1 := ⟨h.os, h.tape, h.output, h.size, fun i hi hn => h.block i hi (fun he => hn (hs i hi he))⟩
theorem Kp.cell (h : Kp S W W1) {b o : Nat} (hb : b < W.heap.size) (hs : ¬ S b) : W1.cell? ⟨b, o, none⟩ = W.cell? ⟨b, o, none⟩ := World.cell?_of_block (w := W) (h.block b hb hs)
theorem Kp.frozen (h : Kp S W W1) {b o : Nat} (hb : b < W.heap.size) (hs : ¬ S b) : W1.frozen? ⟨b, o, none⟩ = W.frozen? ⟨b, o, none⟩ := World.frozen?_of_block (w := W) (h.block b hb hs)
theorem Kp.below {B : Nat} (h : Kp S W W1) (hB : B ≤ W.heap.size) (hs : ∀ k, S k → B ≤ k) : Below B W W1 := ⟨h.os, h.tape, h.output, h.size, fun i hi => h.block i (Nat.lt_of_lt_of_le hi hB) (fun he => by have := hs i he; omega)⟩
theorem Kp.set {p : Addr} (hs : S p.block) (u : Value) : Kp S W (W.setCell p u) := ⟨rfl, rfl, rfl, by simp [World.setCell], fun i _ hn => Below.heap_setCell _ _ _ _ (fun e => hn (e ▸ hs))⟩
/-- A row that is read, in a world that keeps its blocks. -/
theorem Kp.below_then {W0 : World} (h : Below W0.heap.size W0 W) (k : Kp S W W1) (hs : ∀ i, S i → W0.heap.size ≤ i) : Below W0.heap.size W0 W1 := h.trans (k.below h.size hs)
end
/-- A block of cells, as it lies. -/
theorem cell_of_block {w : World} {b : Nat} {cs : Array Value} {t : Nat} {fz : Nat × Nat} (h : w.heap[b]? = some (.cells cs t fz)) (i : Nat) (u : Value) (hi : cs[i]? = some u) : w.cell? ⟨b, i, none⟩ = some u := by
  simp [World.cell?, h, hi]
theorem blk_Kp {S : Nat → Prop} {W W1 : World} {b : Nat} {o : Obj} (h : W.heap[b]? = some o) (k : Kp S W W1) (hs : ¬ S b) : W1.heap[b]? = some o :=
  (k.block b (Array.getElem?_eq_some_iff.1 h).1 hs).trans h
theorem blk_new {w : World} {o : Obj} {b : Nat} (h : b = w.heap.size) : (w.alloc o).heap[b]? = some o := by
  subst h
  show (w.heap.push o)[w.heap.size]? = some o
  simp
end Go.Proofs.Ytkaedhooccpniaa.Hand
/- analysis.heads: its closures, all, fixpoint, by hand. -/
namespace Go.Proofs.Ytkaedhooccpniaa.Hand
open Go.RowKit Go.Proofs.YtkaedhooccpniaaW.PrintWords Go.Proofs.YtkaedhooccpniaaW.PrintLast Go.Proofs.YtkaedhooccpniaaW.PrintMore Go.Proofs.Ytkaedhooccpniaa.PA
set_option linter.unusedVariables false
set_option linter.unusedSimpArgs false

/-- What heads' inner predicate says of a symbol. -/
def okSym (tm : Bool) (bs : List Bool) (x : Int) : Bool := (decide (x ≥ 0) && tm) || (decide (x < 0) && rdOf false bs (-1 - x))

set_option maxHeartbeats 1000000 in
theorem pred_calls (x : Int) (tb ob : Nat) (tm : Bool) (bs : List Bool) (rb cap base : Nat) (ok : Nat → Prop) (W : World) (hlo : -9223372036854775808 ≤ x) (hhi : x ≤ 9223372036854775807) (hx : x < 0 → -1 - x < bs.length)
    (ht : W.cell? ⟨tb, 0, none⟩ = some (.bool tm)) (ho : W.cell? ⟨ob, 0, none⟩ = some (.slice (some ⟨rb, 0, none⟩) bs.length cap))
    (hR : Kd.R Kd.bool 4 W base ok (.slice (some ⟨rb, 0, none⟩) bs.length cap) bs) :
    Calls Try.prog 51 #[.int .i64 x, .pointer (some ⟨tb, 0, none⟩), .pointer (some ⟨ob, 0, none⟩)] W fun e w' => e = .returned (.bool (okSym tm bs x)) ∧ W = w' := by
  by_cases h0 : x ≥ 0
  · have h1 : decide (0 ≤ x) = true := decide_eq_true h0
    have h2 : decide (x < 0) = false := decide_eq_false (by omega)
    have hr : okSym tm bs x = tm := by simp [okSym, h0, h2]
    rw [hr]
    clear hR ho hr
    cases tm
    all_goals
      go_enter Try.func51, Try.ntmps51
      go_wp2
      go_ret
      exact ⟨rfl, rfl⟩
  · have h1 : decide (0 ≤ x) = false := decide_eq_false h0
    have h2 : decide (x < 0) = true := decide_eq_true (by omega)
    have hr : okSym tm bs x = rdOf false bs (-1 - x) := by simp [okSym, h0, h2]
    have hxx := hx (by omega)
    obtain ⟨c0, _⟩ := Kd.R_cell false hR (-1 - x) (by omega) hxx
    rw [hr]
    have hw : IntKind.i64.wrap (-1 - x) = -1 - x := IntWalk.i64_in _ (by omega)
    clear hR hr hx
    have h3 : (0 : Int) ≤ -1 - x := by omega
    generalize rdOf false bs (-1 - x) = bv at c0 ⊢
    go_enter Try.func51, Try.ntmps51
    go_wp2
    go_ret
    exact ⟨rfl, rfl⟩

theorem getD_rd (l : List Int) (k : Nat) (hk : k < l.length) : rd l (k : Int) = l[k] := by
  simp [rd, List.getD_eq_getElem?_getD, List.getElem?_eq_getElem hk]
theorem all_hit {p : Int → Bool} {l : List Int} {k : Nat} (hk : k < l.length) (h : p l[k] = false) : l.all p = false := by
  rw [List.all_eq_false]
  exact ⟨l[k], List.getElem_mem hk, by simp [h]⟩
theorem all_miss {p : Int → Bool} {l : List Int} (h : ∀ j (hj : j < l.length), p l[j] = true) : l.all p = true := by
  rw [List.all_eq_true]
  intro x hx
  obtain ⟨j, hj, rfl⟩ := List.mem_iff_getElem.1 hx
  exact h j hj

set_option maxHeartbeats 2000000 in
/-- all, whatever the predicate that lays blocks of its own. -/
theorem all_calls (A : Option Addr) (c : Nat) (l : List Int) (g : Nat) (lb : Array Value) (eg : ∀ args w, (callFunc g args).run Try.prog w = .ok (.enter g args) w) (p : Int → Bool) (W : World) (hr : Kd.C (Kd.int .i64) W A l.length l) (hc : l.length ≤ c)
    (hp : ∀ x ∈ l, ∀ W', Below W.heap.size W W' → Calls Try.prog g (#[.int .i64 x] ++ lb) W' fun e w' => e = .returned (.bool (p x)) ∧ Below W.heap.size W w') :
    Calls Try.prog 38 #[.slice A l.length c, .func (.func g) #[] lb] W fun e w' => e = .returned (.bool (l.all p)) ∧ Below W.heap.size W w' := by
  have hbig : l.length ≤ 9223372036854775807 := hr.2.1
  obtain ⟨n, hn⟩ : ∃ n, n = l.length := ⟨_, rfl⟩
  have HR := Aside0.mk hr
  have HP := Aside0.mk hp
  clear hr hp
  rw [← hn] at hbig ⊢
  have HN := Aside0.mk hn
  clear hn
  go_enter Try.func38, Try.ntmps38
  go_wp2
  go_loopg [6, 9] n (fun gg _ s9 wr => ∃ kk : Nat, kk ≤ n ∧ n - kk ≤ gg ∧ s9 = .int .i64 kk ∧ Aside0 (Below W.heap.size W wr) ∧ Aside0 (∀ j (hj : j < l.length), j < kk → p l[j] = true))
  case atStart => exact ⟨0, Nat.zero_le _, by omega, rfl, ⟨Below.refl _ W⟩, ⟨fun j hj h => absurd h (Nat.not_lt_zero _)⟩⟩
  case round =>
    obtain ⟨kk, hkk, hg, rfl, BW, AA⟩ := hrel
    by_cases hlt : kk < n
    · have hltz : (kk : Int) < (n : Int) := by omega
      have hkl : kk < l.length := by rw [← HN.out]; exact hlt
      obtain ⟨ad, e, hx⟩ := Kd.at_int (Kd.C_below HR.out BW.out) (kk : Int) (by omega) (by omega)
      subst e
      rw [getD_rd l kk hkl, Int.toNat_natCast] at hx
      have hcall := HP.out l[kk] (List.getElem_mem hkl) wr BW.out
      have hxx : Aside0 (p l[kk] = true → ∀ j (hj : j < l.length), j < kk + 1 → p l[j] = true) := ⟨fun h j hj hjk => by
        by_cases e : j = kk
        · subst e; exact h
        · exact AA.out j hj (by omega)⟩
      have hyy : Aside0 (p l[kk] = false → l.all p = false) := ⟨all_hit hkl⟩
      clear HP AA
      generalize l[kk] = x at hx hcall hxx hyy
      cases hq : p x with
      | true =>
        have HQ := Aside0.mk (hxx.out hq)
        rw [hq] at hcall
        clear hxx hyy hq
        go_wp2_with fail
        (with_reducible refine hcall.mono ?_)
        rintro e w' ⟨rfl, hb'⟩
        clear hcall
        dsimp only
        go_wp2_with fail
        go_roundg (n - (kk + 1))
        case measure => omega
        case rel => exact ⟨kk + 1, by omega, by omega, by go_num, ⟨hb'⟩, HQ⟩
      | false =>
        have HQ := Aside0.mk (hyy.out hq)
        rw [hq] at hcall
        clear hxx hyy hq
        go_wp2_with fail
        (with_reducible refine hcall.mono ?_)
        rintro e w' ⟨rfl, hb'⟩
        clear hcall
        dsimp only
        go_wp2_with fail
        go_ret
        exact ⟨by rw [HQ.out]; rfl, hb'⟩
    · have hltz : ¬ (kk : Int) < (n : Int) := by omega
      have : kk = n := by omega
      subst this
      go_wp2
      go_ret
      exact ⟨by rw [all_miss (fun j hj => AA.out j hj (by rw [HN.out]; exact hj))]; rfl, BW.out⟩
end Go.Proofs.Ytkaedhooccpniaa.Hand
/- analysis.fixpoint, whatever the function, by hand. -/
namespace Go.Proofs.Ytkaedhooccpniaa.Hand
open Go.RowKit Go.Proofs.YtkaedhooccpniaaW.PrintWords Go.Proofs.YtkaedhooccpniaaW.PrintLast Go.Proofs.YtkaedhooccpniaaW.PrintMore Go.Proofs.Ytkaedhooccpniaa.PA
set_option linter.unusedVariables false
set_option linter.unusedSimpArgs false

/-- One pass over the rules, up to the first that changes something. -/
def scan {σ : Type} (step : σ → S41 → σ × Bool) : List S41 → σ → σ × Bool
  | [], s => (s, false)
  | r :: rs, s => if (step s r).2 = true then ((step s r).1, true) else scan step rs (step s r).1
/-- Passes until none changes anything. -/
def run {σ : Type} (step : σ → S41 → σ × Bool) (rules : List S41) : Nat → σ → Option σ
  | 0, _ => none
  | k + 1, s => if (scan step rules s).2 = true then run step rules k (scan step rules s).1 else some (scan step rules s).1
theorem scan_cons_true {σ : Type} {step : σ → S41 → σ × Bool} {rules : List S41} {k : Nat} (hk : k < rules.length) {s : σ} (h : (step s rules[k]).2 = true) : scan step (rules.drop k) s = ((step s rules[k]).1, true) := by
  rw [List.drop_eq_getElem_cons hk, scan, if_pos h]
theorem scan_cons_false {σ : Type} {step : σ → S41 → σ × Bool} {rules : List S41} {k : Nat} (hk : k < rules.length) {s : σ} (h : (step s rules[k]).2 = false) : scan step (rules.drop k) s = scan step (rules.drop (k + 1)) (step s rules[k]).1 := by
  rw [List.drop_eq_getElem_cons hk, scan, if_neg (by simp [h])]
theorem rd_T41_get (l : List S41) (k : Nat) (hk : k < l.length) : rd_T41 l (k : Int) = l[k] := by
  simp [rd_T41, List.getD_eq_getElem?_getD, List.getElem?_eq_getElem hk]

/-- What fixpoint asks of its function. -/
def Applies {σ : Type} (I : σ → World → Prop) (S : Nat → Prop) (step : σ → S41 → σ × Bool) (g : Nat) (lb : Array Value) (rules : List S41) (Wb W0 : World) : Prop :=
  ∀ (s : σ) (W : World) (r : S41) (A : Option Addr) (c : Nat), r ∈ rules → I s W → Kp S W0 W → Below Wb.heap.size Wb W → r.f1.length ≤ c → Kd.C (Kd.int .i64) Wb A r.f1.length r.f1 →
    Calls Try.prog g (#[.agg #[.int .i64 r.f0, .slice A r.f1.length c, .int .i64 r.f2]] ++ lb) W fun e w' => e = .returned (.bool (step s r).2) ∧ I (step s r).1 w' ∧ Kp S W w'

set_option maxHeartbeats 4000000 in
theorem fixpoint_calls {σ : Type} (I : σ → World → Prop) (S : Nat → Prop) (step : σ → S41 → σ × Bool) (g : Nat) (lb : Array Value) (eg : ∀ args w, (callFunc g args).run Try.prog w = .ok (.enter g args) w)
    (v0 v1 : Value) (st : Int) (A3 : Option Addr) (c3 : Nat) (rules : List S41) (Wb W0 : World) (hWb : Below Wb.heap.size Wb W0) (hS : ∀ k, S k → Wb.heap.size ≤ k ∧ k < W0.heap.size)
    (hI : ∀ s W W', I s W → Kp S W0 W → Below W0.heap.size W W' → I s W') (happ : Applies I S step g lb rules Wb W0) (hC : Kd.C k41 Wb A3 rules.length rules) (hc3 : rules.length ≤ c3)
    (k : Nat) (s s' : σ) (hs : I s W0) (hrun : run step rules k s = some s') :
    Calls Try.prog 36 #[.agg #[v0, v1, .int .i64 st, .slice A3 rules.length c3], .func (.func g) #[] lb] W0 fun e w' => e = .returned (.tuple #[]) ∧ I s' w' ∧ Kp S W0 w' := by
  have hbig : rules.length ≤ 9223372036854775807 := hC.2.1
  obtain ⟨n, hn⟩ : ∃ n, n = rules.length := ⟨_, rfl⟩
  have HS := Aside0.mk hS
  have HWB := Aside0.mk hWb
  have HI := Aside0.mk hI
  have HA := Aside0.mk happ
  have HC := Aside0.mk hC
  have HS0 := Aside0.mk hs
  have HR := Aside0.mk hrun
  have HN := Aside0.mk hn
  clear hS hI happ hC hs hrun hWb
  rw [← hn] at hbig hc3 ⊢
  clear hn
  go_enter Try.func36, Try.ntmps36
  go_wp2_with fail
  go_step3
  go_wp2_with fail
  go_step3
  go_wp2_with fail
  obtain ⟨W1, hW1⟩ : ∃ W1 : World, W1 = W0.alloc (Obj.cells #[v0, v1, Value.int IntKind.i64 st, Value.slice A3 n c3] 25) := ⟨_, rfl⟩
  rw [← hW1]
  obtain ⟨gb, hgb⟩ : ∃ gb, gb = W0.heap.size := ⟨_, rfl⟩
  rw [← hgb]
  have HB0 : Aside0 (W1.heap[gb]? = some (Obj.cells #[v0, v1, Value.int IntKind.i64 st, Value.slice A3 n c3] 25 (0, 0))) := ⟨by rw [hW1]; exact blk_new hgb⟩
  have HK0 : Aside0 (Kp S W0 W1) := ⟨by rw [hW1]; exact Kp.of_below (below_alloc (Below.refl _ _) _)⟩
  have HI0 : Aside0 (I s W1) := ⟨HI.out s W0 W1 HS0.out (Kp.refl _ _) (by rw [hW1]; exact below_alloc (Below.refl _ _) _)⟩
  have HGB := Aside0.mk hgb
  clear hW1 hgb
  go_loopg [9] k (fun gg _ wr => ∃ sx : σ, Aside0 (run step rules gg sx = some s') ∧ Aside0 (I sx wr) ∧ Aside0 (Kp S W0 wr) ∧ Aside0 (wr.heap[gb]? = some (Obj.cells #[v0, v1, Value.int IntKind.i64 st, Value.slice A3 n c3] 25 (0, 0))))
  case atStart => exact ⟨s, HR, HI0, HK0, HB0⟩
  case round =>
    obtain ⟨sx, HRx, HIx, HKx, HBx⟩ := hrel
    clear HR HI0 HK0 HB0
    cases gk with
    | zero => exact absurd HRx.out (by simp [run])
    | succ gq =>
      have hcell3 : wr.cell? ⟨gb, 3, none⟩ = some (.slice A3 n c3) := cell_of_block HBx.out 3 _ rfl
      go_wp2_with fail
      clear hcell3
      obtain ⟨wo, hwo⟩ : ∃ wo : World, wo = wr := ⟨_, rfl⟩
      clear hwo
      go_loopg [9] n (fun gg s9 wi => ∃ (kk : Nat) (sy : σ), kk ≤ n ∧ n - kk ≤ gg ∧ s9 = .int .i64 kk ∧ Aside0 (scan step (rules.drop kk) sy = scan step rules sx) ∧ Aside0 (I sy wi) ∧ Aside0 (Kp S W0 wi) ∧ Aside0 (wi.heap[gb]? = some (Obj.cells #[v0, v1, Value.int IntKind.i64 st, Value.slice A3 n c3] 25 (0, 0))))
      case atStart => exact ⟨0, sx, Nat.zero_le _, by omega, rfl, ⟨rfl⟩, HIx, HKx, HBx⟩
      case round =>
        obtain ⟨kk, sy, hkk, hgg, rfl, HSy, HIy, HKy, HBy⟩ := hrel
        clear HIx HKx HBx
        by_cases hlt : kk < n
        · have hltz : (kk : Int) < (n : Int) := by omega
          have hkl : kk < rules.length := by rw [← HN.out]; exact hlt
          obtain ⟨ad, A1, c1, e, hx0, hx1, hx2, hl1, hC1⟩ := at_T41 HC.out (kk : Int) (by omega) (by rw [← HN.out]; omega)
          have hbw : Below Wb.heap.size Wb wr := HWB.out.trans (HKy.out.below HWB.out.size (fun k hk => (HS.out k hk).1))
          have HBW := Aside0.mk hbw
          replace hx0 := (hbw.cell (World.block_lt_of_cell? Wb _ hx0)).trans hx0
          replace hx1 := (hbw.cell (World.block_lt_of_cell? Wb _ hx1)).trans hx1
          replace hx2 := (hbw.cell (World.block_lt_of_cell? Wb _ hx2)).trans hx2
          clear hbw
          subst e
          rw [rd_T41_get rules kk hkl] at hx0 hx1 hx2 hl1 hC1
          rw [Int.toNat_natCast] at hx0 hx1 hx2
          have HM := Aside0.mk (List.getElem_mem hkl)
          have HT := Aside0.mk (fun h => scan_cons_true (step := step) hkl (s := sy) h)
          have HF := Aside0.mk (fun h => scan_cons_false (step := step) hkl (s := sy) h)
          have HL1 := Aside0.mk hl1
          have HC1 := Aside0.mk hC1
          clear hl1 hC1
          generalize rules[kk] = r at hx0 hx1 hx2 HM HT HF HL1 HC1
          go_wp2_with fail
          obtain ⟨wa, hwa⟩ : ∃ wa : World, wa = wr.alloc (Obj.cells #[Value.int IntKind.i64 r.f0, Value.slice A1 r.f1.length c1, Value.int IntKind.i64 r.f2] 41) := ⟨_, rfl⟩
          rw [← hwa]
          have hba : Below wr.heap.size wr wa := by rw [hwa]; exact below_alloc (Below.refl _ _) _
          have hcall := HA.out sy wa r A1 c1 HM.out (HI.out sy wr wa HIy.out HKy.out (hba.mono HKy.out.size)) (HKy.out.step hba) (below_step HBW.out hba) HL1.out HC1.out
          have HKa := Aside0.mk (HKy.out.step hba)
          have HBa : Aside0 (wa.heap[gb]? = some (Obj.cells #[v0, v1, Value.int IntKind.i64 st, Value.slice (some ad) n c3] 25 (0, 0))) := ⟨blk_Kp (S := S) HBy.out (Kp.of_below hba) (fun h => by have := (HS.out gb h).2; have := HGB.out; omega)⟩
          clear HBW hwa hba HM HIy HKy HBy HL1 HC1 hx0 hx1 hx2
          cases hq : (step sy r).2 with
          | true =>
            have HQ := Aside0.mk (HT.out hq)
            rw [hq] at hcall
            clear hq HT HF
            (with_reducible refine hcall.mono ?_)
            rintro e w2 ⟨rfl, hI2, hK2⟩
            have HI2 := Aside0.mk hI2
            have HK2 := Aside0.mk (HKa.out.trans hK2)
            have HB2 : Aside0 (w2.heap[gb]? = some (Obj.cells #[v0, v1, Value.int IntKind.i64 st, Value.slice (some ad) n c3] 25 (0, 0))) := ⟨blk_Kp HBa.out hK2 (fun h => by have := (HS.out gb h).2; have := HGB.out; omega)⟩
            clear hcall hI2 hK2 HKa HBa
            dsimp only
            go_wp2_with fail
            go_roundg gq
            case measure => omega
            case rel =>
              refine ⟨(step sy r).1, ⟨?_⟩, HI2, HK2, HB2⟩
              have h1 := HRx.out
              rw [run, ← HSy.out, HQ.out, if_pos rfl] at h1
              exact h1
          | false =>
            have HQ := Aside0.mk (HF.out hq)
            rw [hq] at hcall
            clear hq HT HF
            (with_reducible refine hcall.mono ?_)
            rintro e w2 ⟨rfl, hI2, hK2⟩
            have HI2 := Aside0.mk hI2
            have HK2 := Aside0.mk (HKa.out.trans hK2)
            have HB2 : Aside0 (w2.heap[gb]? = some (Obj.cells #[v0, v1, Value.int IntKind.i64 st, Value.slice (some ad) n c3] 25 (0, 0))) := ⟨blk_Kp HBa.out hK2 (fun h => by have := (HS.out gb h).2; have := HGB.out; omega)⟩
            clear hcall hI2 hK2 HKa HBa
            dsimp only
            go_wp2_with fail
            go_roundg (n - (kk + 1))
            case measure => omega
            case rel => exact ⟨kk + 1, (step sy r).1, by omega, by omega, by go_num, ⟨by rw [← HQ.out]; exact HSy.out⟩, HI2, HK2, HB2⟩
        · have hltz : ¬ (kk : Int) < (n : Int) := by omega
          have HE : Aside0 (sy = s' ∧ True) := ⟨by
            have hd : rules.drop kk = [] := List.drop_eq_nil_of_le (by rw [← HN.out]; omega)
            have h1 := HRx.out
            have h2 := HSy.out
            rw [hd, scan] at h2
            rw [run, ← h2, if_neg (by simp)] at h1
            exact ⟨Option.some.inj h1, trivial⟩⟩
          go_wp2_with fail
          (try rw [Exit.noGoto_ret])
          exact bodyPost_ret (v := .tuple #[]) (by simp [results, Try.results36, go_sem]) rfl ⟨rfl, HE.out.1 ▸ HIy.out, HKy.out⟩
end Go.Proofs.Ytkaedhooccpniaa.Hand
/- analysis.heads and its two callers, by hand. -/
namespace Go.Proofs.Ytkaedhooccpniaa.Hand
open Go.RowKit Go.Proofs.YtkaedhooccpniaaW.PrintWords Go.Proofs.YtkaedhooccpniaaW.PrintLast Go.Proofs.YtkaedhooccpniaaW.PrintMore Go.Proofs.Ytkaedhooccpniaa.PA
set_option linter.unusedVariables false
set_option linter.unusedSimpArgs false

/-- The rules speak of n nonterminals. -/
def GOK (n : Nat) (rules : List S41) : Prop := ∀ r ∈ rules, (0 ≤ r.f0 ∧ r.f0 < n) ∧ ∀ x ∈ r.f1, (-9223372036854775808 ≤ x ∧ x ≤ 9223372036854775807) ∧ (x < 0 → -1 - x < n)
def headStep (tm : Bool) (bs : List Bool) (r : S41) : List Bool × Bool :=
  if rdOf false bs r.f0 = true then (bs, false) else if r.f1.all (okSym tm bs) = true then (bs.set r.f0.toNat true, true) else (bs, false)
/-- What lies where, in heads. -/
def HeadI (n ob tb rb cap base : Nat) (tm : Bool) (bs : List Bool) (W : World) : Prop :=
  bs.length = n ∧ (ob < W.heap.size ∧ tb < W.heap.size) ∧ W.cell? ⟨ob, 0, none⟩ = some (.slice (some ⟨rb, 0, none⟩) n cap) ∧ W.cell? ⟨tb, 0, none⟩ = some (.bool tm) ∧ Kd.R Kd.bool 4 W base (fun k => k = rb) (.slice (some ⟨rb, 0, none⟩) n cap) bs
theorem HeadI.keep {n ob tb rb cap base : Nat} {tm : Bool} {bs : List Bool} {W W' : World} (h : HeadI n ob tb rb cap base tm bs W) (hb : Below W.heap.size W W') : HeadI n ob tb rb cap base tm bs W' :=
  ⟨h.1, ⟨Nat.lt_of_lt_of_le h.2.1.1 hb.size, Nat.lt_of_lt_of_le h.2.1.2 hb.size⟩, (hb.cell (p := ⟨ob, 0, none⟩) h.2.1.1).trans h.2.2.1, (hb.cell (p := ⟨tb, 0, none⟩) h.2.1.2).trans h.2.2.2.1, Kd.R_below h.2.2.2.2 hb⟩

theorem HeadI.put {n ob tb rb cap base : Nat} {tm : Bool} {bs : List Bool} {W : World} (h : HeadI n ob tb rb cap base tm bs W) (hne : ob ≠ rb ∧ tb ≠ rb) (hn : bs.length = n) (i : Int) : HeadI n ob tb rb cap base tm (bs.set i.toNat true) (W.setCell ⟨rb, i.toNat, none⟩ (.bool true)) := by
  obtain ⟨h0, h1, h2, h3, h4⟩ := h
  subst hn
  have hk : Kp (fun k => k = rb) W (W.setCell ⟨rb, i.toNat, none⟩ (.bool true)) := Kp.set (S := fun k => k = rb) (p := ⟨rb, i.toNat, none⟩) rfl _
  exact ⟨by simp, ⟨Nat.lt_of_lt_of_le h1.1 hk.size, Nat.lt_of_lt_of_le h1.2 hk.size⟩, (hk.cell h1.1 hne.1).trans h2, (hk.cell h1.2 hne.2).trans h3, (Kd.R_put h4 i true).1⟩

set_option maxHeartbeats 4000000 in
theorem heads1_calls (n ob tb rb cap base : Nat) (tm : Bool) (bs : List Bool) (r : S41) (A : Option Addr) (c : Nat) (W : World) (hne : ob ≠ rb ∧ tb ≠ rb) (hn : n ≤ 9223372036854775807)
    (hI : HeadI n ob tb rb cap base tm bs W) (hr : (0 ≤ r.f0 ∧ r.f0 < n) ∧ ∀ x ∈ r.f1, (-9223372036854775808 ≤ x ∧ x ≤ 9223372036854775807) ∧ (x < 0 → -1 - x < n)) (hc : r.f1.length ≤ c) (hC : Kd.C (Kd.int .i64) W A r.f1.length r.f1) :
    Calls Try.prog 50 #[.agg #[.int .i64 r.f0, .slice A r.f1.length c, .int .i64 r.f2], .pointer (some ⟨ob, 0, none⟩), .pointer (some ⟨tb, 0, none⟩)] W fun e w' =>
      e = .returned (.bool (headStep tm bs r).2) ∧ HeadI n ob tb rb cap base tm (headStep tm bs r).1 w' ∧ Kp (fun k => k = rb) W w' := by
  obtain ⟨x0, l1, x2⟩ := r
  have hu41 := Try.underlying41
  obtain ⟨hlen, hsz, hco, hct, hR⟩ := hI
  obtain ⟨⟨h0, h1⟩, hbody⟩ := hr
  simp only at h0 h1 hbody hc hC ⊢
  subst hlen
  obtain ⟨hcell, hfro⟩ := Kd.R_cell false hR x0 h0 h1
  have hrb : rb < W.heap.size := World.block_lt_of_cell? W _ hcell
  obtain ⟨wa, hwa⟩ : ∃ wa : World, wa = W.alloc (Obj.cells #[Value.int IntKind.i64 x0, Value.slice A l1.length c, Value.int IntKind.i64 x2] 41) := ⟨_, rfl⟩
  have hba : Below W.heap.size W wa := by rw [hwa]; exact below_alloc (Below.refl _ _) _
  obtain ⟨ba, hbaa⟩ : ∃ ba, ba = W.heap.size := ⟨_, rfl⟩
  have hBa : wa.heap[ba]? = some (Obj.cells #[Value.int IntKind.i64 x0, Value.slice A l1.length c, Value.int IntKind.i64 x2] 41 (0, 0)) := by rw [hwa]; exact blk_new hbaa
  have hIa : HeadI bs.length ob tb rb cap base tm bs wa := HeadI.keep ⟨rfl, hsz, hco, hct, hR⟩ hba
  have k0 := (hba.cell (p := ⟨rb, x0.toNat, none⟩) hrb).trans hcell
  have hall : Calls Try.prog 38 #[.slice A l1.length c, .func (.func 51) #[] #[.pointer (some ⟨tb, 0, none⟩), .pointer (some ⟨ob, 0, none⟩)]] wa fun e w' => e = .returned (.bool (l1.all (okSym tm bs))) ∧ Below wa.heap.size wa w' :=
    all_calls A c l1 51 _ (Go.Proofs.enters_of Try.func51 (by kernel_rfl) rfl) (okSym tm bs) wa (Kd.C_below hC hba) hc (fun x hx W' hb => by
      have hI' := hIa.keep hb
      exact (pred_calls x tb ob tm bs rb cap base _ W' (hbody x hx).1.1 (hbody x hx).1.2 (hbody x hx).2 hI'.2.2.2.1 hI'.2.2.1 hI'.2.2.2.2).mono fun e w' ⟨he, hw⟩ => ⟨he, hw ▸ hb⟩)
  cases hq : rdOf false bs x0 with
  | true =>
    have hs : headStep tm bs ⟨x0, l1, x2⟩ = (bs, false) := by simp [headStep, hq]
    rw [hs]
    rw [hq] at k0
    have HI := Aside0.mk hIa
    have HB := Aside0.mk hba
    have q0 : wa.cell? ⟨ba, 0, none⟩ = some (.int .i64 x0) := cell_of_block hBa 0 _ rfl
    have q2 := hIa.2.2.1
    have h1b : decide (x0 < (bs.length : Int)) = true := decide_eq_true h1
    clear hall hIa hBa hcell hR hco hct hC hs hq hba hfro hbody
    go_enter Try.func50, Try.ntmps50
    go_upto_region 1 with fail
    rw [← hwa, ← hbaa]
    clear hwa hbaa
    go_wp2_with fail
    go_ret
    exact ⟨rfl, HI.out, Kp.of_below HB.out⟩
  | false =>
    rw [hq] at k0
    have HI := Aside0.mk hIa
    have HB := Aside0.mk hba
    have q0 : wa.cell? ⟨ba, 0, none⟩ = some (.int .i64 x0) := cell_of_block hBa 0 _ rfl
    have q1 : wa.cell? ⟨ba, 1, none⟩ = some (.slice A l1.length c) := cell_of_block hBa 1 _ rfl
    have q2 := hIa.2.2.1
    have h1b : decide (x0 < (bs.length : Int)) = true := decide_eq_true h1
    have hs : headStep tm bs ⟨x0, l1, x2⟩ = if l1.all (okSym tm bs) = true then (bs.set x0.toNat true, true) else (bs, false) := by simp [headStep, hq]
    rw [hs]
    have HBA := Aside0.mk hBa
    have HX := Aside0.mk (And.intro h0 h1)
    have HNE := Aside0.mk hne
    clear hIa hBa hcell hR hco hct hC hs hq hba hfro hbody hne
    generalize l1.all (okSym tm bs) = b at hall ⊢
    cases b with
    | false =>
      go_enter Try.func50, Try.ntmps50
      go_upto_region 1 with fail
      rw [← hwa, ← hbaa]
      clear hwa hbaa
      go_wp2_with fail
      (with_reducible refine hall.mono ?_)
      rintro e w2 ⟨rfl, hb2⟩
      have HI2 := Aside0.mk (HI.out.keep hb2)
      have HB2 := Aside0.mk (below_step HB.out hb2)
      clear hall hb2 HI HB q0 q1 q2 k0
      dsimp only
      go_wp2_with fail
      go_ret
      exact ⟨rfl, HI2.out, Kp.of_below HB2.out⟩
    | true =>
      go_enter Try.func50, Try.ntmps50
      go_upto_region 1 with fail
      rw [← hwa, ← hbaa]
      clear hwa hbaa
      go_wp2_with fail
      (with_reducible refine hall.mono ?_)
      rintro e w2 ⟨rfl, hb2⟩
      have HI2 := Aside0.mk (HI.out.keep hb2)
      have HB2 := Aside0.mk (below_step HB.out hb2)
      have hBa2 : w2.heap[ba]? = some (Obj.cells #[Value.int IntKind.i64 x0, Value.slice A l1.length c, Value.int IntKind.i64 x2] 41 (0, 0)) := blk_Kp (S := fun _ => False) HBA.out (Kp.of_below hb2) (fun h => h)
      have q0 : w2.cell? ⟨ba, 0, none⟩ = some (.int .i64 x0) := cell_of_block hBa2 0 _ rfl
      have q2 := HI2.out.2.2.1
      obtain ⟨c2, f2⟩ := Kd.R_cell false HI2.out.2.2.2.2 x0 HX.out.1 HX.out.2
      clear hall hb2 HI HB hBa2 HBA
      dsimp only
      go_wp2_with fail
      go_ret
      exact ⟨rfl, HI2.out.put HNE.out rfl _, (Kp.of_below HB2.out).trans (Kp.set (S := fun k => k = rb) (p := ⟨rb, x0.toNat, none⟩) rfl _)⟩
end Go.Proofs.Ytkaedhooccpniaa.Hand
/- analysis.heads, Nullable, Productive: their contracts, in the printed contracts' form. -/
namespace Go.Proofs.Ytkaedhooccpniaa.Hand
open Go.RowKit Go.Proofs.YtkaedhooccpniaaW.PrintWords Go.Proofs.YtkaedhooccpniaaW.PrintLast Go.Proofs.YtkaedhooccpniaaW.PrintMore Go.Proofs.Ytkaedhooccpniaa.PA
set_option linter.unusedVariables false
set_option linter.unusedSimpArgs false

def symB (n : Nat) (x : Int) : Bool := decide (-9223372036854775808 ≤ x) && decide (x ≤ 9223372036854775807) && (decide (0 ≤ x) || decide (-1 - x < n))
def ruleB (n : Nat) (r : S41) : Bool := decide (0 ≤ r.f0) && decide (r.f0 < n) && r.f1.all (symB n)
/-- A grammar that heads can be asked of: its rules speak of its nonterminals. -/
def gokB (n : Nat) (st : Int) (rules : List S41) : Bool := decide (0 < n) && decide (n ≤ 1000000000) && decide (0 ≤ st) && decide (st < n) && rules.all (ruleB n)
theorem gok_of {n : Nat} {st : Int} {rules : List S41} (h : gokB n st rules = true) : 0 < n ∧ n ≤ 1000000000 ∧ (0 ≤ st ∧ st < n) ∧ GOK n rules := by
  simp only [gokB, Bool.and_eq_true, decide_eq_true_eq, List.all_eq_true, ruleB, symB, Bool.or_eq_true] at h
  obtain ⟨⟨⟨⟨h1, h2⟩, h3⟩, h4⟩, h5⟩ := h
  refine ⟨h1, h2, ⟨h3, h4⟩, fun r hr => ?_⟩
  obtain ⟨⟨a, b⟩, c⟩ := h5 r hr
  refine ⟨⟨a, b⟩, fun x hx => ?_⟩
  obtain ⟨⟨d, e⟩, f⟩ := c x hx
  exact ⟨⟨d, e⟩, fun hneg => by rcases f with f | f <;> omega⟩

theorem HeadI.keep' {n ob tb rb cap base B : Nat} {tm : Bool} {bs : List Bool} {W W' : World} (h : HeadI n ob tb rb cap base tm bs W) (h1 : ob < B) (h2 : tb < B) (h3 : rb < B) (hb : Below B W W') : HeadI n ob tb rb cap base tm bs W' :=
  ⟨h.1, ⟨Nat.lt_of_lt_of_le h.2.1.1 hb.size, Nat.lt_of_lt_of_le h.2.1.2 hb.size⟩, (hb.cell (p := ⟨ob, 0, none⟩) h1).trans h.2.2.1, (hb.cell (p := ⟨tb, 0, none⟩) h2).trans h.2.2.2.1, Kd.R_step h.2.2.2.2 (fun k hk _ => hb.block k (by rw [hk]; exact h3))⟩
def heads.f (tm : Bool) (k : Nat) (l0_0 l0_1 : List ByteArray) (a0_2 : Int) (l0_3 : List S41) : Option (List Bool) :=
  if gokB l0_1.length a0_2 l0_3 = true then run (headStep tm) l0_3 k (List.replicate l0_1.length false) else none

theorem heads_applies {n ob tb rb cap base : Nat} {tm : Bool} {rules : List S41} {Wb W0 : World} (hne : ob ≠ rb ∧ tb ≠ rb) (hn : n ≤ 1000000000) (hG : GOK n rules) :
    Applies (HeadI n ob tb rb cap base tm) (fun k => k = rb) (headStep tm) 50 #[.pointer (some ⟨ob, 0, none⟩), .pointer (some ⟨tb, 0, none⟩)] rules Wb W0 := by
  intro s W r A c hr hs hk hb hc hC
  exact heads1_calls n ob tb rb cap base tm s r A c W hne (by omega) hs (hG r hr) hc (Kd.C_below hC hb)
theorem heads_fix {n ob tb rb cap base : Nat} {tm : Bool} {rules : List S41} {Wb W0 : World} {v0 v1 : Value} {st : Int} {A3 : Option Addr} {c3 k : Nat} {s r : List Bool} (hne : ob ≠ rb ∧ tb ≠ rb) (hn : n ≤ 1000000000) (hG : GOK n rules)
    (h1 : ob < W0.heap.size) (h2 : tb < W0.heap.size) (h3 : rb < W0.heap.size) (hWb : Below Wb.heap.size Wb W0) (h4 : Wb.heap.size ≤ rb) (hC : Kd.C k41 Wb A3 rules.length rules) (hc3 : rules.length ≤ c3) (hI : HeadI n ob tb rb cap base tm s W0)
    (hrun : run (headStep tm) rules k s = some r) :
    Calls Try.prog 36 #[.agg #[v0, v1, .int .i64 st, .slice A3 rules.length c3], .func (.func 50) #[] #[.pointer (some ⟨ob, 0, none⟩), .pointer (some ⟨tb, 0, none⟩)]] W0 fun e w' =>
      e = .returned (.tuple #[]) ∧ HeadI n ob tb rb cap base tm r w' ∧ Kp (fun k => k = rb) W0 w' := by
  have eg := Go.Proofs.enters_of (P := Try.prog) Try.func50 (by kernel_rfl) rfl
  exact fixpoint_calls (HeadI n ob tb rb cap base tm) (fun k => k = rb) (headStep tm) 50 #[.pointer (some ⟨ob, 0, none⟩), .pointer (some ⟨tb, 0, none⟩)] eg v0 v1 st A3 c3 rules Wb W0 hWb (fun k hk => by subst hk; exact ⟨h4, h3⟩)
      (fun s W W' hs hk hb => hs.keep' h1 h2 h3 hb) (heads_applies hne hn hG) hC hc3 k s r hI hrun

set_option maxHeartbeats 4000000 in
set_option maxRecDepth 100000 in
theorem heads.calls (tm : Bool) (k : Nat) (A0_0 : Option Addr) (c0_0 : Nat) (l0_0 : List ByteArray) (A0_1 : Option Addr) (c0_1 : Nat) (l0_1 : List ByteArray) (a0_2 : Int) (A0_3 : Option Addr) (c0_3 : Nat) (l0_3 : List (S41)) (r : List Bool) (w : World)
    (hr0_3 : Kd.C k41 w A0_3 l0_3.length l0_3) (hc0_3 : l0_3.length ≤ c0_3) (h : heads.f tm k l0_0 l0_1 a0_2 l0_3 = some r) :
    Calls Try.prog 34 #[.agg #[.slice A0_0 l0_0.length c0_0, .slice A0_1 l0_1.length c0_1, .int .i64 a0_2, .slice A0_3 l0_3.length c0_3], .bool tm] w fun e w' => ∃ v0_ : Value, e = .returned (v0_) ∧ Kd.R Kd.bool 4 w' w.heap.size (fun _ => True) v0_ r ∧ Below w.heap.size w w' := by
  have hg : gokB l0_1.length a0_2 l0_3 = true := by
    by_cases hg : gokB l0_1.length a0_2 l0_3 = true
    · exact hg
    · rw [heads.f, if_neg hg] at h; cases h
  rw [heads.f, if_pos hg] at h
  obtain ⟨hn0, hn1, hst, hG⟩ := gok_of hg
  obtain ⟨n, hn⟩ : ∃ n, n = l0_1.length := ⟨_, rfl⟩
  rw [← hn] at h hn0 hn1 hst hG ⊢
  have HRUN := Aside0.mk h
  have HG := Aside0.mk hG
  have HC := Aside0.mk hr0_3
  have HL := Aside0.mk hc0_3
  have HN := Aside0.mk hn0
  clear h hG hr0_3 hc0_3 hn hg hst
  have hu25 := Try.underlying25
  have z1 : 0 ≤ (n : Int) := by omega
  go_enter Try.func34, Try.ntmps34
  go_upto_region 1 with fail
  obtain ⟨wa, hwa⟩ : ∃ wa : World, wa = (w.alloc (Obj.cells #[Value.slice A0_0 l0_0.length c0_0, Value.slice A0_1 n c0_1, Value.int IntKind.i64 a0_2, Value.slice A0_3 l0_3.length c0_3] 25)).alloc (Obj.cells #[Value.bool tm] 4) := ⟨_, rfl⟩
  rw [← hwa]
  obtain ⟨gbk, hgk⟩ : ∃ gbk, gbk = w.heap.size := ⟨_, rfl⟩
  rw [← hgk]
  have BG : wa.heap[gbk]? = some (Obj.cells #[Value.slice A0_0 l0_0.length c0_0, Value.slice A0_1 n c0_1, Value.int IntKind.i64 a0_2, Value.slice A0_3 l0_3.length c0_3] 25 (0, 0)) := by
    rw [hwa]
    exact blk_Kp (S := fun _ => False) (blk_new hgk) (Kp.of_below (below_alloc (Below.refl _ _) _)) (fun h => h)
  have BT : wa.heap[gbk + 1]? = some (Obj.cells #[Value.bool tm] 4 (0, 0)) := by
    rw [hwa]
    exact blk_new (by rw [hgk]; simp)
  have hwb : Below w.heap.size w wa := by rw [hwa]; exact below_alloc (below_alloc (Below.refl _ _) _) _
  have g1 : wa.cell? ⟨gbk, 1, none⟩ = some (.slice A0_1 n c0_1) := cell_of_block BG 1 _ rfl
  have HBG := Aside0.mk BG
  have HBT := Aside0.mk BT
  have HWB := Aside0.mk hwb
  have HGK := Aside0.mk hgk
  clear BG BT hwb hgk hwa
  go_upto_region 2 with (first | ((with_reducible refine gate_dst (N := 9) rfl ?_); refine Kd.R_make Kd.bool _ 4 rfl (N := 9) rfl 29 _ _ rfl (n : Int) rfl rfl Try.underlying29 (.bool false) 1 info4 rfl (by decide) (by omega) false (ok := fun _ => True) (okp := fun _ => True) rfl (fun _ hk => hk) trivial (by omega) (by rw [Int.toNat_natCast]; omega) (Below.refl _ _) (Nat.le_refl _) ?_; intro v1 w1 ho hb hg_ hnew_; (obtain ⟨rb, cap, ev, hrb0, hrb1, _⟩ := Kd.R_form ho (by rw [List.length_replicate, Int.toNat_natCast]; exact HN.out)); rw [List.length_replicate, Int.toNat_natCast] at ev; subst ev; have HO := Aside0.mk ho; have HB1 := Aside0.mk hb; have HRB := Aside0.mk hrb0; have HRL := Aside0.mk hrb1; clear ho hb hg_ hnew_ hrb0 hrb1 g1))
  obtain ⟨w2, hw2⟩ : ∃ w2 : World, w2 = w1.alloc (Obj.cells #[Value.slice (some ⟨rb, 0, none⟩) n cap] 29) := ⟨_, rfl⟩
  rw [← hw2]
  obtain ⟨ob, hob⟩ : ∃ ob, ob = w1.heap.size := ⟨_, rfl⟩
  rw [← hob]
  have hb12 : Below w1.heap.size w1 w2 := by rw [hw2]; exact below_alloc (Below.refl _ _) _
  have hBO : w2.heap[ob]? = some (Obj.cells #[Value.slice (some ⟨rb, 0, none⟩) n cap] 29 (0, 0)) := by rw [hw2]; exact blk_new hob
  have hba2 : Below wa.heap.size wa w2 := below_step HB1.out hb12
  have hBG2 := blk_Kp (S := fun _ => False) HBG.out (Kp.of_below hba2) (fun h => h)
  have hBT2 := blk_Kp (S := fun _ => False) HBT.out (Kp.of_below hba2) (fun h => h)
  have hgl : gbk < wa.heap.size := (Array.getElem?_eq_some_iff.1 HBG.out).1
  have htl : gbk + 1 < wa.heap.size := (Array.getElem?_eq_some_iff.1 HBT.out).1
  have hol : ob < w2.heap.size := (Array.getElem?_eq_some_iff.1 hBO).1
  have hwa1 := HB1.out.size
  have hw12 := hb12.size
  have hrb := HRB.out
  have hrl := HRL.out
  have hne : ob ≠ rb ∧ gbk + 1 ≠ rb := by omega
  have hI0 : HeadI n ob (gbk + 1) rb cap wa.heap.size tm (List.replicate n false) w2 := by
    refine ⟨by simp, ⟨hol, by omega⟩, cell_of_block hBO 0 _ rfl, cell_of_block hBT2 0 _ rfl, ?_⟩
    have h1 := Kd.R_below (Kd.R_tight rfl HO.out) hb12
    rw [Int.toNat_natCast] at h1
    exact Kd.R_mono h1 (fun k hk => by simpa [Value.ownBlock] using hk)
  have hfix : Calls Try.prog 36 #[.agg #[.slice A0_0 l0_0.length c0_0, .slice A0_1 n c0_1, .int .i64 a0_2, .slice A0_3 l0_3.length c0_3], .func (.func 50) #[] #[.pointer (some ⟨ob, 0, none⟩), .pointer (some ⟨gbk + 1, 0, none⟩)]] w2 fun e w' =>
      e = .returned (.tuple #[]) ∧ HeadI n ob (gbk + 1) rb cap wa.heap.size tm r w' ∧ Kp (fun k => k = rb) w2 w' :=
    heads_fix hne hn1 HG.out hol (by omega) (by omega)
      (below_step HWB.out hba2) (by have := HWB.out.size; omega) HC.out
      HL.out hI0 HRUN.out
  have g0 : w2.cell? ⟨gbk, 0, none⟩ = some (.slice A0_0 l0_0.length c0_0) := cell_of_block hBG2 0 _ rfl
  have g1 : w2.cell? ⟨gbk, 1, none⟩ = some (.slice A0_1 n c0_1) := cell_of_block hBG2 1 _ rfl
  have g2 : w2.cell? ⟨gbk, 2, none⟩ = some (.int .i64 a0_2) := cell_of_block hBG2 2 _ rfl
  have g3 : w2.cell? ⟨gbk, 3, none⟩ = some (.slice A0_3 l0_3.length c0_3) := cell_of_block hBG2 3 _ rfl
  have HBW := Aside0.mk (below_step HWB.out hba2)
  have HRW : Aside0 (w.heap.size ≤ rb) := ⟨by have := HWB.out.size; omega⟩
  have HWS : Aside0 (w.heap.size ≤ wa.heap.size) := ⟨HWB.out.size⟩
  clear hw2 hob hb12 hBO hba2 hBG2 hBT2 hgl htl hol hwa1 hw12 hrb hrl hne hI0 HBG HBT HWB HGK HO HB1 HRB HRL HG HC HL HRUN
  go_wp2_with fail
  (with_reducible refine hfix.mono ?_)
  rintro e w3 ⟨rfl, hI3, hK3⟩
  have HI3 := Aside0.mk hI3
  have HB3 := Aside0.mk (HBW.out.trans (hK3.below HBW.out.size (fun k hk => hk ▸ HRW.out)))
  have q0 := hI3.2.2.1
  clear hfix hI3 hK3 g0 g1 g2 g3 HBW HRW
  dsimp only
  go_wp2_with fail
  go_ret
  exact ⟨_, rfl, by have h1 := HI3.out.2.2.2.2; rw [← HI3.out.1] at h1 ⊢; exact Kd.R_mono (Kd.R_lower h1 HWS.out) (fun _ _ => trivial), HB3.out⟩
end Go.Proofs.Ytkaedhooccpniaa.Hand
/- analysis.Nullable and Productive, in the printed contracts' form. -/
namespace Go.Proofs.Ytkaedhooccpniaa.Hand
open Go.RowKit Go.Proofs.YtkaedhooccpniaaW.PrintWords
theorem run_more {σ : Type} {step : σ → PA.S41 → σ × Bool} {rules : List PA.S41} : ∀ (k : Nat) (s r : σ), run step rules k s = some r → run step rules (k + 1) s = some r
  | 0, s, r, h => by simp [run] at h
  | k + 1, s, r, h => by
    rw [run] at h ⊢
    split at h
    · rename_i hb
      rw [if_pos hb]
      exact run_more k _ _ h
    · rename_i hb
      rw [if_neg hb]
      exact h

theorem heads.mono (tm : Bool) (a0 a1 : List ByteArray) (a2 : Int) (a3 : List PA.S41) (k : Nat) : LeO (heads.f tm k a0 a1 a2 a3) (heads.f tm (k + 1) a0 a1 a2 a3) := fun r h => by
  unfold heads.f at h ⊢
  split at h
  · rename_i hb
    rw [if_pos hb]
    exact run_more k _ _ h
  · cases h
end Go.Proofs.Ytkaedhooccpniaa.Hand
namespace Go.Proofs.Ytkaedhooccpniaa.PA
open Go.RowKit Go.Proofs.YtkaedhooccpniaaW.PrintWords Go.Proofs.YtkaedhooccpniaaW.PrintLast Go.Proofs.YtkaedhooccpniaaW.PrintMore Go.Proofs.Ytkaedhooccpniaa.Hand
set_option linter.unusedVariables false
def analysis_Nullable.f (k : Nat) (l0_0 l0_1 : List ByteArray) (a0_2 : Int) (l0_3 : List S41) : Option (List Bool) := heads.f false k l0_0 l0_1 a0_2 l0_3
def analysis_Productive.f (k : Nat) (l0_0 l0_1 : List ByteArray) (a0_2 : Int) (l0_3 : List S41) : Option (List Bool) := heads.f true k l0_0 l0_1 a0_2 l0_3
theorem analysis_Nullable.mono : ∀ a0 a1 a2 a3 k, LeO (analysis_Nullable.f k a0 a1 a2 a3) (analysis_Nullable.f (k + 1) a0 a1 a2 a3) := fun a0 a1 a2 a3 k => heads.mono false a0 a1 a2 a3 k
theorem analysis_Productive.mono : ∀ a0 a1 a2 a3 k, LeO (analysis_Productive.f k a0 a1 a2 a3) (analysis_Productive.f (k + 1) a0 a1 a2 a3) := fun a0 a1 a2 a3 k => heads.mono true a0 a1 a2 a3 k

set_option maxHeartbeats 1000000 in
theorem analysis_Nullable.calls (k : Nat) (A0_0 : Option Addr) (c0_0 : Nat) (l0_0 : List ByteArray) (A0_1 : Option Addr) (c0_1 : Nat) (l0_1 : List ByteArray) (a0_2 : Int) (A0_3 : Option Addr) (c0_3 : Nat) (l0_3 : List (S41)) (r : List Bool) (w : World)
    (hr0_0 : Kd.C Kd.string w A0_0 l0_0.length l0_0) (hc0_0 : l0_0.length ≤ c0_0) (hr0_1 : Kd.C Kd.string w A0_1 l0_1.length l0_1) (hc0_1 : l0_1.length ≤ c0_1) (hr0_3 : Kd.C k41 w A0_3 l0_3.length l0_3) (hc0_3 : l0_3.length ≤ c0_3) (h : analysis_Nullable.f k l0_0 l0_1 a0_2 l0_3 = some r) :
    Calls Try.prog 13 #[.agg #[.slice A0_0 l0_0.length c0_0, .slice A0_1 l0_1.length c0_1, .int .i64 a0_2, .slice A0_3 l0_3.length c0_3]] w fun e w' => ∃ v0_ : Value, e = .returned (v0_) ∧ Kd.R Kd.bool 4 w' w.heap.size (fun _ => True) v0_ r ∧ Below w.heap.size w w' := by
  have hu25 := Try.underlying25
  obtain ⟨wa, hwa⟩ : ∃ wa : World, wa = w.alloc (Obj.cells #[Value.slice A0_0 l0_0.length c0_0, Value.slice A0_1 l0_1.length c0_1, Value.int IntKind.i64 a0_2, Value.slice A0_3 l0_3.length c0_3] 25) := ⟨_, rfl⟩
  have hb : Below w.heap.size w wa := by rw [hwa]; exact below_alloc (Below.refl _ _) _
  have hcall := heads.calls false k A0_0 c0_0 l0_0 A0_1 c0_1 l0_1 a0_2 A0_3 c0_3 l0_3 r wa (Kd.C_below hr0_3 hb) hc0_3 h
  have HB := Aside0.mk hb
  clear hr0_0 hr0_1 hr0_3 hc0_0 hc0_1 hc0_3 h hb
  go_enter Try.func13, Try.ntmps13
  go_wp2_with fail
  rw [← hwa]
  clear hwa
  (with_reducible refine hcall.mono ?_)
  rintro e w2 ⟨v, rfl, hR, hb2⟩
  have HR := Aside0.mk hR
  have HB2 := Aside0.mk (below_step HB.out hb2)
  clear hcall hR hb2
  dsimp only
  go_wp2_with fail
  go_ret
  exact ⟨_, rfl, Kd.R_lower HR.out HB.out.size, HB2.out⟩
set_option maxHeartbeats 1000000 in
theorem analysis_Productive.calls (k : Nat) (A0_0 : Option Addr) (c0_0 : Nat) (l0_0 : List ByteArray) (A0_1 : Option Addr) (c0_1 : Nat) (l0_1 : List ByteArray) (a0_2 : Int) (A0_3 : Option Addr) (c0_3 : Nat) (l0_3 : List (S41)) (r : List Bool) (w : World)
    (hr0_0 : Kd.C Kd.string w A0_0 l0_0.length l0_0) (hc0_0 : l0_0.length ≤ c0_0) (hr0_1 : Kd.C Kd.string w A0_1 l0_1.length l0_1) (hc0_1 : l0_1.length ≤ c0_1) (hr0_3 : Kd.C k41 w A0_3 l0_3.length l0_3) (hc0_3 : l0_3.length ≤ c0_3) (h : analysis_Productive.f k l0_0 l0_1 a0_2 l0_3 = some r) :
    Calls Try.prog 15 #[.agg #[.slice A0_0 l0_0.length c0_0, .slice A0_1 l0_1.length c0_1, .int .i64 a0_2, .slice A0_3 l0_3.length c0_3]] w fun e w' => ∃ v0_ : Value, e = .returned (v0_) ∧ Kd.R Kd.bool 4 w' w.heap.size (fun _ => True) v0_ r ∧ Below w.heap.size w w' := by
  have hu25 := Try.underlying25
  obtain ⟨wa, hwa⟩ : ∃ wa : World, wa = w.alloc (Obj.cells #[Value.slice A0_0 l0_0.length c0_0, Value.slice A0_1 l0_1.length c0_1, Value.int IntKind.i64 a0_2, Value.slice A0_3 l0_3.length c0_3] 25) := ⟨_, rfl⟩
  have hb : Below w.heap.size w wa := by rw [hwa]; exact below_alloc (Below.refl _ _) _
  have hcall := heads.calls true k A0_0 c0_0 l0_0 A0_1 c0_1 l0_1 a0_2 A0_3 c0_3 l0_3 r wa (Kd.C_below hr0_3 hb) hc0_3 h
  have HB := Aside0.mk hb
  clear hr0_0 hr0_1 hr0_3 hc0_0 hc0_1 hc0_3 h hb
  go_enter Try.func15, Try.ntmps15
  go_wp2_with fail
  rw [← hwa]
  clear hwa
  (with_reducible refine hcall.mono ?_)
  rintro e w2 ⟨v, rfl, hR, hb2⟩
  have HR := Aside0.mk hR
  have HB2 := Aside0.mk (below_step HB.out hb2)
  clear hcall hR hb2
  dsimp only
  go_wp2_with fail
  go_ret
  exact ⟨_, rfl, Kd.R_lower HR.out HB.out.size, HB2.out⟩
end Go.Proofs.Ytkaedhooccpniaa.PA
/- analysis.Reachable, by hand. -/
namespace Go.Proofs.Ytkaedhooccpniaa.Hand
open Go.RowKit Go.Proofs.YtkaedhooccpniaaW.PrintWords Go.Proofs.YtkaedhooccpniaaW.PrintLast Go.Proofs.YtkaedhooccpniaaW.PrintMore Go.Proofs.Ytkaedhooccpniaa.PA
set_option linter.unusedVariables false
set_option linter.unusedSimpArgs false

/-- A body's symbols, one by one. -/
def reachBody (h : Int) : List Int → List Bool → Bool → List Bool × Bool
  | [], bs, ch => (bs, ch)
  | x :: xs, bs, ch => if rdOf false bs h = true ∧ x < 0 ∧ rdOf false bs (-1 - x) = false then reachBody h xs (bs.set (-1 - x).toNat true) true else reachBody h xs bs ch
def reachStep (bs : List Bool) (r : S41) : List Bool × Bool := reachBody r.f0 r.f1 bs false
def ReachI (n ob rb cap base : Nat) (bs : List Bool) (W : World) : Prop :=
  bs.length = n ∧ ob < W.heap.size ∧ W.cell? ⟨ob, 0, none⟩ = some (.slice (some ⟨rb, 0, none⟩) n cap) ∧ Kd.R Kd.bool 4 W base (fun k => k = rb) (.slice (some ⟨rb, 0, none⟩) n cap) bs
theorem ReachI.keep' {n ob rb cap base B : Nat} {bs : List Bool} {W W' : World} (h : ReachI n ob rb cap base bs W) (h1 : ob < B) (h3 : rb < B) (hb : Below B W W') : ReachI n ob rb cap base bs W' :=
  ⟨h.1, Nat.lt_of_lt_of_le h.2.1 hb.size, (hb.cell (p := ⟨ob, 0, none⟩) h1).trans h.2.2.1, Kd.R_step h.2.2.2 (fun k hk _ => hb.block k (by rw [hk]; exact h3))⟩
theorem ReachI.keep {n ob rb cap base : Nat} {bs : List Bool} {W W' : World} (h : ReachI n ob rb cap base bs W) (hb : Below W.heap.size W W') : ReachI n ob rb cap base bs W' :=
  ⟨h.1, Nat.lt_of_lt_of_le h.2.1 hb.size, (hb.cell (p := ⟨ob, 0, none⟩) h.2.1).trans h.2.2.1, Kd.R_below h.2.2.2 hb⟩
theorem ReachI.put {n ob rb cap base : Nat} {bs : List Bool} {W : World} (h : ReachI n ob rb cap base bs W) (hne : ob ≠ rb) (i : Int) : ReachI n ob rb cap base (bs.set i.toNat true) (W.setCell ⟨rb, i.toNat, none⟩ (.bool true)) := by
  obtain ⟨h0, h1, h2, h4⟩ := h
  subst h0
  have hk : Kp (fun k => k = rb) W (W.setCell ⟨rb, i.toNat, none⟩ (.bool true)) := Kp.set (S := fun k => k = rb) (p := ⟨rb, i.toNat, none⟩) rfl _
  exact ⟨by simp, Nat.lt_of_lt_of_le h1 hk.size, (hk.cell h1 hne).trans h2, (Kd.R_put h4 i true).1⟩

set_option maxHeartbeats 4000000 in
theorem reach1_calls (n ob rb cap base : Nat) (bs : List Bool) (r : S41) (A : Option Addr) (c : Nat) (W : World) (hne : ob ≠ rb) (hn : n ≤ 9223372036854775807)
    (hI : ReachI n ob rb cap base bs W) (hr : (0 ≤ r.f0 ∧ r.f0 < n) ∧ ∀ x ∈ r.f1, (-9223372036854775808 ≤ x ∧ x ≤ 9223372036854775807) ∧ (x < 0 → -1 - x < n)) (hc : r.f1.length ≤ c)
    (Wb : World) (hWb : Below Wb.heap.size Wb W) (hrbb : Wb.heap.size ≤ rb) (hC : Kd.C (Kd.int .i64) Wb A r.f1.length r.f1) :
    Calls Try.prog 37 #[.agg #[.int .i64 r.f0, .slice A r.f1.length c, .int .i64 r.f2], .pointer (some ⟨ob, 0, none⟩)] W fun e w' =>
      e = .returned (.bool (reachStep bs r).2) ∧ ReachI n ob rb cap base (reachStep bs r).1 w' ∧ Kp (fun k => k = rb) W w' := by
  obtain ⟨x0, l1, x2⟩ := r
  have hu41 := Try.underlying41
  obtain ⟨⟨h0, h1⟩, hbody⟩ := hr
  simp only at h0 h1 hbody hc hC ⊢
  have hbig : l1.length ≤ 9223372036854775807 := hC.2.1
  obtain ⟨wa, hwa⟩ : ∃ wa : World, wa = W.alloc (Obj.cells #[Value.int IntKind.i64 x0, Value.slice A l1.length c, Value.int IntKind.i64 x2] 41) := ⟨_, rfl⟩
  have hba : Below W.heap.size W wa := by rw [hwa]; exact below_alloc (Below.refl _ _) _
  obtain ⟨ba, hbaa⟩ : ∃ ba, ba = W.heap.size := ⟨_, rfl⟩
  have hBa : wa.heap[ba]? = some (Obj.cells #[Value.int IntKind.i64 x0, Value.slice A l1.length c, Value.int IntKind.i64 x2] 41 (0, 0)) := by rw [hwa]; exact blk_new hbaa
  have hrb : rb < W.heap.size := Kd.R_lt hI.2.2.2 rb (by simp [Value.ownBlock])
  have hbr : ba ≠ rb := by omega
  have HI := Aside0.mk (hI.keep hba)
  have HB := Aside0.mk hba
  have HBA := Aside0.mk hBa
  have HC := Aside0.mk hC
  have HWB := Aside0.mk (And.intro hWb hrbb)
  have HBD := Aside0.mk hbody
  have HNE := Aside0.mk (And.intro hne hbr)
  have HX := Aside0.mk (And.intro h0 h1)
  obtain ⟨m, hm⟩ : ∃ m, m = l1.length := ⟨_, rfl⟩
  have HM := Aside0.mk hm
  have q1 : wa.cell? ⟨ba, 1, none⟩ = some (.slice A m c) := by rw [hm]; exact cell_of_block hBa 1 _ rfl
  have HE := Aside0.mk (show reachStep bs ⟨x0, l1, x2⟩ = reachBody x0 (l1.drop 0) bs false from rfl)
  generalize reachStep bs ⟨x0, l1, x2⟩ = res at HE ⊢
  rw [← hm] at hbig hc hwa HBA ⊢
  clear hI hBa hC hWb hrbb hba hbody hne hm hbr hrb h0 h1
  go_enter Try.func37, Try.ntmps37
  go_upto_region 1 with fail
  rw [← hwa, ← hbaa]
  clear hwa hbaa
  go_wp2_with fail
  clear q1
  go_loopg [4, 6, 10] m (fun gg s4 _ s10 wr => ∃ (kk : Nat) (bx : List Bool) (ch : Bool), kk ≤ m ∧ m - kk ≤ gg ∧ s10 = .int .i64 kk ∧ s4 = .bool ch ∧ Aside0 (res = reachBody x0 (l1.drop kk) bx ch) ∧ Aside0 (ReachI n ob rb cap base bx wr) ∧ Aside0 (Kp (fun k => k = rb) W wr) ∧ Aside0 (wr.heap[ba]? = some (Obj.cells #[Value.int IntKind.i64 x0, Value.slice A m c, Value.int IntKind.i64 x2] 41 (0, 0))))
  case atStart => exact ⟨0, bs, false, Nat.zero_le _, by omega, rfl, rfl, HE, HI, ⟨Kp.of_below HB.out⟩, HBA⟩
  case round =>
    obtain ⟨kk, bx, ch, hkk, hgg, rfl, rfl, HEx, HIx, HKx, HBx⟩ := hrel
    clear HE HI HB HBA
    by_cases hlt : kk < m
    · have hltz : (kk : Int) < (m : Int) := by omega
      have hkl : kk < l1.length := by rw [← HM.out]; exact hlt
      have hbw : Below Wb.heap.size Wb wr := HWB.out.1.trans (HKx.out.below HWB.out.1.size (fun k hk => hk ▸ HWB.out.2))
      obtain ⟨ad, e, hx⟩ := Kd.at_int HC.out (kk : Int) (by omega) (by rw [← HM.out]; omega)
      subst e
      replace hx := (hbw.cell (World.block_lt_of_cell? Wb _ hx)).trans hx
      clear hbw
      rw [getD_rd l1 kk hkl, Int.toNat_natCast] at hx
      have hbd := HBD.out l1[kk] (List.getElem_mem hkl)
      have HS := Aside0.mk (show res = reachBody x0 (l1[kk] :: l1.drop (kk + 1)) bx ch by rw [← List.drop_eq_getElem_cons hkl]; exact HEx.out)
      clear HEx
      generalize l1[kk] = x at hx hbd HS
      have q0 : wr.cell? ⟨ba, 0, none⟩ = some (.int .i64 x0) := cell_of_block HBx.out 0 _ rfl
      have q2 := HIx.out.2.2.1
      obtain ⟨hlo, hxr⟩ := hbd
      have hlen := Aside0.mk HIx.out.1
      have hR := HIx.out.2.2.2
      rw [← HIx.out.1] at hR
      obtain ⟨c0, f0⟩ := Kd.R_cell false hR x0 HX.out.1 (by rw [hlen.out]; exact HX.out.2)
      have h0 := HX.out.1
      have h1 : x0 < (n : Int) := HX.out.2
      have h1b : decide (x0 < (n : Int)) = true := decide_eq_true h1
      have HSm := Aside0.mk (fun (b : Bool) (h : ¬ (rdOf false bx x0 = true ∧ x < 0 ∧ rdOf false bx (-1 - x) = false)) => show reachBody x0 (x :: l1.drop (kk + 1)) bx ch = reachBody x0 (l1.drop (kk + 1)) bx ch by rw [reachBody, if_neg h])
      cases hq : rdOf false bx x0 with
      | false =>
        have HE2 : Aside0 (res = reachBody x0 (l1.drop (kk + 1)) bx ch) := ⟨by rw [HS.out]; exact HSm.out true (by simp [hq])⟩
        rw [hq] at c0
        clear HS HSm hq hR hlen hxr
        go_wp2_with fail
        go_roundg (m - (kk + 1))
        case measure => omega
        case rel => exact ⟨kk + 1, bx, ch, by omega, by omega, by go_num, rfl, HE2, HIx, HKx, HBx⟩
      | true =>
        rw [hq] at c0
        by_cases hneg : x < 0
        · have hb1 : decide (x < 0) = true := decide_eq_true hneg
          have hxx := hxr hneg
          have h3 : (0 : Int) ≤ -1 - x := by omega
          obtain ⟨c1, f1⟩ := Kd.R_cell false hR (-1 - x) h3 (by rw [hlen.out]; exact hxx)
          have hw : IntKind.i64.wrap (-1 - x) = -1 - x := IntWalk.i64_in _ (by omega)
          have hxb : decide (-1 - x < (n : Int)) = true := decide_eq_true hxx
          cases hq2 : rdOf false bx (-1 - x) with
          | true =>
            have HE2 : Aside0 (res = reachBody x0 (l1.drop (kk + 1)) bx ch) := ⟨by rw [HS.out]; exact HSm.out true (by simp [hq2])⟩
            rw [hq2] at c1
            clear HS HSm hq hq2 hR hlen hxr
            go_wp2_with fail
            go_roundg (m - (kk + 1))
            case measure => omega
            case rel => exact ⟨kk + 1, bx, ch, by omega, by omega, by go_num, rfl, HE2, HIx, HKx, HBx⟩
          | false =>
            have HE2 : Aside0 (res = reachBody x0 (l1.drop (kk + 1)) (bx.set (-1 - x).toNat true) true) := ⟨by rw [HS.out, reachBody, if_pos ⟨hq, hneg, hq2⟩]⟩
            rw [hq2] at c1
            have HI3 := Aside0.mk (HIx.out.put HNE.out.1 (-1 - x))
            have HK3 := Aside0.mk (HKx.out.trans (Kp.set (S := fun k => k = rb) (p := ⟨rb, (-1 - x).toNat, none⟩) rfl (.bool true)))
            have HB3 := Aside0.mk (blk_Kp HBx.out (Kp.set (S := fun k => k = rb) (p := ⟨rb, (-1 - x).toNat, none⟩) rfl (.bool true)) HNE.out.2)
            clear HS HSm hq hq2 hR hlen hxr
            go_wp2_with fail
            go_roundg (m - (kk + 1))
            case measure => omega
            case rel => exact ⟨kk + 1, _, true, by omega, by omega, by go_num, rfl, HE2, HI3, HK3, HB3⟩
        · have hb1 : decide (x < 0) = false := decide_eq_false hneg
          have HE2 : Aside0 (res = reachBody x0 (l1.drop (kk + 1)) bx ch) := ⟨by rw [HS.out]; exact HSm.out true (by simp [hneg])⟩
          clear HS HSm hq hR hlen hxr
          go_wp2_with fail
          go_roundg (m - (kk + 1))
          case measure => omega
          case rel => exact ⟨kk + 1, bx, ch, by omega, by omega, by go_num, rfl, HE2, HIx, HKx, HBx⟩
    · have hltz : ¬ (kk : Int) < (m : Int) := by omega
      have HF : Aside0 (res = (bx, ch)) := ⟨by
        have h1 := HEx.out
        rw [List.drop_eq_nil_of_le (by rw [← HM.out]; omega)] at h1
        exact h1⟩
      go_wp2_with fail
      go_ret
      exact ⟨by rw [HF.out]; rfl, by rw [HF.out]; exact HIx.out, HKx.out⟩

theorem cell_n {W : World} {base g cap n : Nat} {ok : Nat → Prop} {xs : List Bool} (h : Kd.R Kd.bool 4 W base ok (.slice (some ⟨g, 0, none⟩) n cap) xs) (hn : xs.length = n) (i : Int) (h0 : 0 ≤ i) (hi : i < n) :
    W.cell? ⟨g, i.toNat, none⟩ = some (.bool (rdOf false xs i)) ∧ W.frozen? ⟨g, i.toNat, none⟩ = false := by
  subst hn
  exact Kd.R_cell false h i h0 hi
theorem reach_applies {n ob rb cap base : Nat} {rules : List S41} {Wb W0 : World} (hne : ob ≠ rb) (hn : n ≤ 1000000000) (hrb : Wb.heap.size ≤ rb) (hG : GOK n rules) :
    Applies (ReachI n ob rb cap base) (fun k => k = rb) reachStep 37 #[.pointer (some ⟨ob, 0, none⟩)] rules Wb W0 := by
  intro s W r A c hr hs hk hb hc hC
  exact reach1_calls n ob rb cap base s r A c W hne (by omega) hs (hG r hr) hc Wb hb hrb hC
theorem reach_fix {n ob rb cap base : Nat} {rules : List S41} {Wb W0 : World} {v0 v1 : Value} {st : Int} {A3 : Option Addr} {c3 k : Nat} {s r : List Bool} (hne : ob ≠ rb) (hn : n ≤ 1000000000) (hG : GOK n rules)
    (h1 : ob < W0.heap.size) (h3 : rb < W0.heap.size) (hWb : Below Wb.heap.size Wb W0) (h4 : Wb.heap.size ≤ rb) (hC : Kd.C k41 Wb A3 rules.length rules) (hc3 : rules.length ≤ c3) (hI : ReachI n ob rb cap base s W0)
    (hrun : run reachStep rules k s = some r) :
    Calls Try.prog 36 #[.agg #[v0, v1, .int .i64 st, .slice A3 rules.length c3], .func (.func 37) #[] #[.pointer (some ⟨ob, 0, none⟩)]] W0 fun e w' =>
      e = .returned (.tuple #[]) ∧ ReachI n ob rb cap base r w' ∧ Kp (fun k => k = rb) W0 w' := by
  have eg := Go.Proofs.enters_of (P := Try.prog) Try.func37 (by kernel_rfl) rfl
  exact fixpoint_calls (ReachI n ob rb cap base) (fun k => k = rb) reachStep 37 #[.pointer (some ⟨ob, 0, none⟩)] eg v0 v1 st A3 c3 rules Wb W0 hWb (fun k hk => by subst hk; exact ⟨h4, h3⟩)
      (fun s W W' hs hk hb => hs.keep' h1 h3 hb) (reach_applies hne hn h4 hG) hC hc3 k s r hI hrun

def reach.f (k : Nat) (l0_0 l0_1 : List ByteArray) (a0_2 : Int) (l0_3 : List S41) : Option (List Bool) :=
  if gokB l0_1.length a0_2 l0_3 = true then run reachStep l0_3 k ((List.replicate l0_1.length false).set a0_2.toNat true) else none
end Go.Proofs.Ytkaedhooccpniaa.Hand
namespace Go.Proofs.Ytkaedhooccpniaa.PA
open Go.RowKit Go.Proofs.YtkaedhooccpniaaW.PrintWords Go.Proofs.YtkaedhooccpniaaW.PrintLast Go.Proofs.YtkaedhooccpniaaW.PrintMore Go.Proofs.Ytkaedhooccpniaa.Hand
set_option linter.unusedVariables false
def analysis_Reachable.f (k : Nat) (l0_0 l0_1 : List ByteArray) (a0_2 : Int) (l0_3 : List S41) : Option (List Bool) := reach.f k l0_0 l0_1 a0_2 l0_3
theorem analysis_Reachable.mono : ∀ a0 a1 a2 a3 k, LeO (analysis_Reachable.f k a0 a1 a2 a3) (analysis_Reachable.f (k + 1) a0 a1 a2 a3) := fun a0 a1 a2 a3 k r h => by
  unfold analysis_Reachable.f reach.f at h ⊢
  split at h
  · rename_i hb
    rw [if_pos hb]
    exact run_more k _ _ h
  · cases h

set_option maxHeartbeats 4000000 in
set_option maxRecDepth 100000 in
theorem analysis_Reachable.calls (k : Nat) (A0_0 : Option Addr) (c0_0 : Nat) (l0_0 : List ByteArray) (A0_1 : Option Addr) (c0_1 : Nat) (l0_1 : List ByteArray) (a0_2 : Int) (A0_3 : Option Addr) (c0_3 : Nat) (l0_3 : List (S41)) (r : List Bool) (w : World)
    (hr0_0 : Kd.C Kd.string w A0_0 l0_0.length l0_0) (hc0_0 : l0_0.length ≤ c0_0) (hr0_1 : Kd.C Kd.string w A0_1 l0_1.length l0_1) (hc0_1 : l0_1.length ≤ c0_1) (hr0_3 : Kd.C k41 w A0_3 l0_3.length l0_3) (hc0_3 : l0_3.length ≤ c0_3) (h : analysis_Reachable.f k l0_0 l0_1 a0_2 l0_3 = some r) :
    Calls Try.prog 17 #[.agg #[.slice A0_0 l0_0.length c0_0, .slice A0_1 l0_1.length c0_1, .int .i64 a0_2, .slice A0_3 l0_3.length c0_3]] w fun e w' => ∃ v0_ : Value, e = .returned (v0_) ∧ Kd.R Kd.bool 4 w' w.heap.size (fun _ => True) v0_ r ∧ Below w.heap.size w w' := by
  have hg : gokB l0_1.length a0_2 l0_3 = true := by
    by_cases hg : gokB l0_1.length a0_2 l0_3 = true
    · exact hg
    · rw [analysis_Reachable.f, reach.f, if_neg hg] at h; cases h
  rw [analysis_Reachable.f, reach.f, if_pos hg] at h
  obtain ⟨hn0, hn1, hst, hG⟩ := gok_of hg
  obtain ⟨n, hn⟩ : ∃ n, n = l0_1.length := ⟨_, rfl⟩
  rw [← hn] at h hn0 hn1 hst hG ⊢
  have HRUN := Aside0.mk h
  have HG := Aside0.mk hG
  have HC := Aside0.mk hr0_3
  have HL := Aside0.mk hc0_3
  have HN := Aside0.mk hn0
  have HST := Aside0.mk hst
  clear h hG hr0_3 hc0_3 hn hg hst hr0_0 hc0_0 hr0_1 hc0_1
  have hu25 := Try.underlying25
  have z1 : 0 ≤ (n : Int) := by omega
  go_enter Try.func17, Try.ntmps17
  go_upto_region 1 with fail
  obtain ⟨wa, hwa⟩ : ∃ wa : World, wa = w.alloc (Obj.cells #[Value.slice A0_0 l0_0.length c0_0, Value.slice A0_1 n c0_1, Value.int IntKind.i64 a0_2, Value.slice A0_3 l0_3.length c0_3] 25) := ⟨_, rfl⟩
  rw [← hwa]
  obtain ⟨gbk, hgk⟩ : ∃ gbk, gbk = w.heap.size := ⟨_, rfl⟩
  rw [← hgk]
  have BG : wa.heap[gbk]? = some (Obj.cells #[Value.slice A0_0 l0_0.length c0_0, Value.slice A0_1 n c0_1, Value.int IntKind.i64 a0_2, Value.slice A0_3 l0_3.length c0_3] 25 (0, 0)) := by
    rw [hwa]
    exact blk_new hgk
  have hwb : Below w.heap.size w wa := by rw [hwa]; exact below_alloc (Below.refl _ _) _
  have g1 : wa.cell? ⟨gbk, 1, none⟩ = some (.slice A0_1 n c0_1) := cell_of_block BG 1 _ rfl
  have HBG := Aside0.mk BG
  have HWB := Aside0.mk hwb
  clear BG hwb hgk hwa
  go_upto_region 2 with (first | ((with_reducible refine gate_dst (N := 7) rfl ?_); refine Kd.R_make Kd.bool _ 4 rfl (N := 7) rfl 29 _ _ rfl (n : Int) rfl rfl Try.underlying29 (.bool false) 1 info4 rfl (by decide) (by omega) false (ok := fun _ => True) (okp := fun _ => True) rfl (fun _ hk => hk) trivial (by omega) (by rw [Int.toNat_natCast]; omega) (Below.refl _ _) (Nat.le_refl _) ?_; intro v1 w1 ho hb hg_ hnew_; (obtain ⟨rb, cap, ev, hrb0, hrb1, _⟩ := Kd.R_form ho (by rw [List.length_replicate, Int.toNat_natCast]; exact HN.out)); rw [List.length_replicate, Int.toNat_natCast] at ev; subst ev; have HO := Aside0.mk ho; have HB1 := Aside0.mk hb; have HRB := Aside0.mk hrb0; have HRL := Aside0.mk hrb1; clear ho hb hg_ hnew_ hrb0 hrb1 g1))
  obtain ⟨w2, hw2⟩ : ∃ w2 : World, w2 = w1.alloc (Obj.cells #[Value.slice (some ⟨rb, 0, none⟩) n cap] 29) := ⟨_, rfl⟩
  rw [← hw2]
  obtain ⟨ob, hob⟩ : ∃ ob, ob = w1.heap.size := ⟨_, rfl⟩
  rw [← hob]
  have hb12 : Below w1.heap.size w1 w2 := by rw [hw2]; exact below_alloc (Below.refl _ _) _
  have hBO : w2.heap[ob]? = some (Obj.cells #[Value.slice (some ⟨rb, 0, none⟩) n cap] 29 (0, 0)) := by rw [hw2]; exact blk_new hob
  have hba2 : Below wa.heap.size wa w2 := below_step HB1.out hb12
  have hBG2 := blk_Kp (S := fun _ => False) HBG.out (Kp.of_below hba2) (fun h => h)
  have hgl : gbk < wa.heap.size := (Array.getElem?_eq_some_iff.1 HBG.out).1
  have hol : ob < w2.heap.size := (Array.getElem?_eq_some_iff.1 hBO).1
  have hwa1 := HB1.out.size
  have hw12 := hb12.size
  have hrb := HRB.out
  have hrl := HRL.out
  have hwwa := HWB.out.size
  have hne : ob ≠ rb := by omega
  have hR2 : Kd.R Kd.bool 4 w2 wa.heap.size (fun k => k = rb) (.slice (some ⟨rb, 0, none⟩) n cap) (List.replicate n false) := by
    have h1 := Kd.R_below (Kd.R_tight rfl HO.out) hb12
    rw [Int.toNat_natCast] at h1
    exact Kd.R_mono h1 (fun k hk => by simpa [Value.ownBlock] using hk)
  have hI0 : ReachI n ob rb cap wa.heap.size (List.replicate n false) w2 := ⟨by simp, hol, cell_of_block hBO 0 _ rfl, hR2⟩
  have hI1 := hI0.put hne a0_2
  have hk1 : Kp (fun k => k = rb) w2 (w2.setCell ⟨rb, a0_2.toNat, none⟩ (.bool true)) := Kp.set (S := fun k => k = rb) (p := ⟨rb, a0_2.toNat, none⟩) rfl _
  have hBG3 := blk_Kp hBG2 hk1 (by omega)
  have hww2 := below_step HWB.out hba2
  have hww3 : Below w.heap.size w (w2.setCell ⟨rb, a0_2.toNat, none⟩ (.bool true)) := hww2.trans (hk1.below hww2.size (fun k hk => by omega))
  obtain ⟨c0, f0⟩ := cell_n hR2 (by simp) a0_2 HST.out.1 HST.out.2
  have q2 := hI0.2.2.1
  have g2 : w2.cell? ⟨gbk, 2, none⟩ = some (.int .i64 a0_2) := cell_of_block hBG2 2 _ rfl
  obtain ⟨w3, hw3⟩ : ∃ w3 : World, w3 = w2.setCell ⟨rb, a0_2.toNat, none⟩ (.bool true) := ⟨_, rfl⟩
  rw [← hw3] at hI1 hk1 hBG3 hww3
  have hfix : Calls Try.prog 36 #[.agg #[.slice A0_0 l0_0.length c0_0, .slice A0_1 n c0_1, .int .i64 a0_2, .slice A0_3 l0_3.length c0_3], .func (.func 37) #[] #[.pointer (some ⟨ob, 0, none⟩)]] w3 fun e w' =>
      e = .returned (.tuple #[]) ∧ ReachI n ob rb cap wa.heap.size r w' ∧ Kp (fun k => k = rb) w3 w' :=
    reach_fix hne hn1 HG.out (Nat.lt_of_lt_of_le hol hk1.size) (Nat.lt_of_lt_of_le (by omega) hk1.size) hww3 (by omega) HC.out HL.out hI1 HRUN.out
  have HG3 := Aside0.mk hBG3
  have HBW := Aside0.mk hww3
  have HRW : Aside0 (w.heap.size ≤ rb) := ⟨by omega⟩
  have HWS : Aside0 (w.heap.size ≤ wa.heap.size) := ⟨hwwa⟩
  have s0 : 0 ≤ a0_2 := HST.out.1
  have s1 : decide (a0_2 < (n : Int)) = true := decide_eq_true HST.out.2
  have s2 : a0_2 < (n : Int) := HST.out.2
  clear hw2 hob hb12 hBO hba2 hBG2 hgl hol hwa1 hw12 hrb hrl hne hI0 HBG HWB HO HB1 HRB HRL HG HC HL HRUN hI1 hk1 hBG3 hww2 hww3 hR2 hwwa
  go_upto_region 3 with fail
  rw [← hw3]
  clear hw3 q2 g2 c0 f0
  have g0 : w3.cell? ⟨gbk, 0, none⟩ = some (.slice A0_0 l0_0.length c0_0) := cell_of_block HG3.out 0 _ rfl
  have g1 : w3.cell? ⟨gbk, 1, none⟩ = some (.slice A0_1 n c0_1) := cell_of_block HG3.out 1 _ rfl
  have g2 : w3.cell? ⟨gbk, 2, none⟩ = some (.int .i64 a0_2) := cell_of_block HG3.out 2 _ rfl
  have g3 : w3.cell? ⟨gbk, 3, none⟩ = some (.slice A0_3 l0_3.length c0_3) := cell_of_block HG3.out 3 _ rfl
  go_wp2_with fail
  (with_reducible refine hfix.mono ?_)
  rintro e w4 ⟨rfl, hI3, hK3⟩
  have HI3 := Aside0.mk hI3
  have HB3 := Aside0.mk (HBW.out.trans (hK3.below HBW.out.size (fun k hk => hk ▸ HRW.out)))
  have q0 := hI3.2.2.1
  clear hfix hI3 hK3 g0 g1 g2 g3 HBW HRW
  dsimp only
  go_wp2_with fail
  go_ret
  exact ⟨_, rfl, by have h1 := HI3.out.2.2.2; rw [← HI3.out.1] at h1 ⊢; exact Kd.R_mono (Kd.R_lower h1 HWS.out) (fun _ _ => trivial), HB3.out⟩
end Go.Proofs.Ytkaedhooccpniaa.PA
