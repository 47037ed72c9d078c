import Derived.Test.YtkaedhooccpniaaPureFix
/- Reachable, plain Lean: the program's. -/
namespace Go.Proofs.Ytkaedhooccpniaa.Hand
open Go.RowKit Go.Proofs.YtkaedhooccpniaaW.PrintWords Go.Proofs.YtkaedhooccpniaaW.PrintLast Go.Proofs.YtkaedhooccpniaaW.PrintMore Go.Proofs.Ytkaedhooccpniaa.PA
set_option linter.unusedVariables false
set_option linter.unusedSimpArgs false
inductive Rch (st : Int) (rules : List S41) : Int → Prop
  | start : Rch st rules st
  | step {r : S41} {x : Int} : r ∈ rules → Rch st rules r.f0 → x ∈ r.f1 → x < 0 → Rch st rules (-1 - x)
structure RcL (n : Nat) (st : Int) (rules : List S41) (bs : List Bool) : Prop where
  len : bs.length = n
  iff : ∀ i : Int, 0 ≤ i → (rdOf false bs i = true ↔ Rch st rules i)
theorem RcL.ext {n : Nat} {st : Int} {rules : List S41} {a b : List Bool} (h : RcL n st rules a) (k : RcL n st rules b) : a = b :=
  bools_ext (h.len.trans k.len.symm) (fun i hi => (h.iff i hi).trans (k.iff i hi).symm)
structure RcS (n : Nat) (st : Int) (rules : List S41) (bs : List Bool) : Prop where
  len : bs.length = n
  stt : rdOf false bs st = true
  snd : ∀ i : Int, 0 ≤ i → rdOf false bs i = true → Rch st rules i
/-- A rule adds nothing. -/
def RcDone (bs : List Bool) (r : S41) : Prop := rdOf false bs r.f0 = true → ∀ x ∈ r.f1, x < 0 → rdOf false bs (-1 - x) = true
theorem RcS.done {t n : Nat} {st : Int} {rules : List S41} {bs : List Bool} (h : RcS n st rules bs) (hc : ∀ r ∈ rules, RcDone bs r) : RcL n st rules bs := by
  refine ⟨h.len, fun i hi => ⟨h.snd i hi, fun hh => ?_⟩⟩
  clear hi
  induction hh with
  | start => exact h.stt
  | step hr _ hx h0 ih => exact hc _ hr ih _ hx h0
theorem RcS.set {t n : Nat} {st : Int} {rules : List S41} {bs : List Bool} (hg : GV t n st rules) (h : RcS n st rules bs) {r : S41} (hr : r ∈ rules) (hq : rdOf false bs r.f0 = true) {x : Int} (hx : x ∈ r.f1) (h0 : x < 0) : RcS n st rules (bs.set (-1 - x).toNat true) := by
  have hs := hg.sym r hr x hx
  have hh := hg.head r hr
  have hst := hg.st0
  have hl : (-1 - x).toNat < bs.length := by rw [h.len]; omega
  refine ⟨by rw [List.length_set]; exact h.len, ?_, fun i hi hi2 => ?_⟩
  · rw [rdOf_set _ _ _ (by omega) hst hl, h.stt, Bool.or_true]
  · rw [rdOf_set _ _ _ (by omega) hi hl, Bool.or_eq_true] at hi2
    rcases hi2 with e | e
    · obtain rfl := of_decide_eq_true e
      exact .step hr (h.snd _ hh.1 hq) hx h0
    · exact h.snd i hi e
theorem RcS.zero {t n : Nat} {st : Int} {rules : List S41} (hg : GV t n st rules) : RcS n st rules ((List.replicate n false).set st.toNat true) := by
  have h0 := hg.st0
  have h1 := hg.st1
  have hl : st.toNat < (List.replicate n false).length := by rw [List.length_replicate]; omega
  refine ⟨by simp, ?_, fun i hi h => ?_⟩
  · rw [rdOf_set _ _ _ h0 h0 hl]; simp
  · rw [rdOf_set _ _ _ h0 hi hl, rdOf_rep, Bool.or_false] at h
    obtain rfl := of_decide_eq_true h
    exact .start
/-- One body. -/
theorem body_pure {t n : Nat} {st : Int} {rules : List S41} (hg : GV t n st rules) {r : S41} (hr : r ∈ rules) : ∀ (l : List Int) (bs : List Bool) (ch : Bool), (∀ x ∈ l, x ∈ r.f1) → RcS n st rules bs →
    RcS n st rules (reachBody r.f0 l bs ch).1 ∧ bs.count true ≤ (reachBody r.f0 l bs ch).1.count true ∧ (((reachBody r.f0 l bs ch).2 = true ∧ (ch = true ∨ bs.count true < (reachBody r.f0 l bs ch).1.count true)) ∨ (reachBody r.f0 l bs ch).2 = false ∧ ch = false ∧ (reachBody r.f0 l bs ch).1 = bs ∧ (rdOf false bs r.f0 = true → ∀ x ∈ l, x < 0 → rdOf false bs (-1 - x) = true))
  | [], bs, ch, _, hs => by
    refine ⟨hs, Nat.le_refl _, ?_⟩
    cases ch
    · exact .inr ⟨rfl, rfl, rfl, fun _ x hx => by cases hx⟩
    · exact .inl ⟨rfl, .inl rfl⟩
  | x :: l, bs, ch, hx, hs => by
    have hm := hx x (by simp)
    have hs2 := hg.sym r hr x hm
    rw [reachBody]
    by_cases h : rdOf false bs r.f0 = true ∧ x < 0 ∧ rdOf false bs (-1 - x) = false
    · rw [if_pos h]
      have hcnt := count_set (row := bs) (i := (-1 - x).toNat) (by rw [hs.len]; omega) h.2.2
      obtain ⟨k1, k2, k3⟩ := body_pure hg hr l (bs.set (-1 - x).toNat true) true (fun y hy => hx y (by simp [hy])) (hs.set hg hr h.1 hm h.2.1)
      refine ⟨k1, by omega, ?_⟩
      rcases k3 with ⟨e1, _⟩ | ⟨_, e2, _⟩
      · exact .inl ⟨e1, .inr (by omega)⟩
      · cases e2
    · rw [if_neg h]
      obtain ⟨k1, k2, k3⟩ := body_pure hg hr l bs ch (fun y hy => hx y (by simp [hy])) hs
      refine ⟨k1, k2, ?_⟩
      rcases k3 with e | ⟨e1, e2, e3, e4⟩
      · exact .inl e
      · refine .inr ⟨e1, e2, e3, fun hq y hy h0 => ?_⟩
        rcases List.mem_cons.1 hy with rfl | hy
        · cases hz : rdOf false bs (-1 - y) with
          | true => rfl
          | false => exact absurd ⟨hq, h0, hz⟩ h
        · exact e4 hq y hy h0
/-- The program's. -/
theorem reach_pure {t n : Nat} {st : Int} {rules : List S41} (hg : GV t n st rules) : ∃ bs, Ev (fun k => run reachStep rules k ((List.replicate n false).set st.toNat true)) bs ∧ RcL n st rules bs := by
  obtain ⟨bs, h1, h2, h3⟩ := run_ex (step := reachStep) (rules := rules) (RcS n st rules) (fun s => s.count true) n
    (fun s r hr hs => (body_pure hg hr r.f1 s false (fun _ h => h) hs).1)
    (fun s r hr hs h => by
      rcases (body_pure hg hr r.f1 s false (fun _ h => h) hs).2.2 with ⟨_, e | e⟩ | ⟨e, _⟩
      · cases e
      · exact e
      · rw [reachStep, e] at h; cases h)
    (fun s r hr hs h => by
      rcases (body_pure hg hr r.f1 s false (fun _ h => h) hs).2.2 with ⟨e, _⟩ | ⟨_, _, e, _⟩
      · rw [reachStep, e] at h; cases h
      · exact e)
    (fun s hs => count_le hs.len) n _ (RcS.zero hg) (by omega)
  refine ⟨bs, h1, h2.done (t := t) (fun r hr => ?_)⟩
  have := h3 r hr
  rcases (body_pure hg hr r.f1 bs false (fun _ h => h) h2).2.2 with ⟨e, _⟩ | ⟨_, _, _, e⟩
  · rw [reachStep, e] at this; cases this
  · exact e
end Go.Proofs.Ytkaedhooccpniaa.Hand
