import Derived.Test.YtkaedhooccpniaaPureM1
import Derived.Test.YtkaedhooccpniaaPAx7
/- Small answers, and a small grammar is of moderate size. Plain Lean. -/
namespace Go.Proofs.Ytkaedhooccpniaa.Hand
open Go.RowKit Go.Proofs.YtkaedhooccpniaaW.PrintWords Go.Proofs.YtkaedhooccpniaaW.PrintLast Go.Proofs.YtkaedhooccpniaaW.PrintMore Go.Proofs.Ytkaedhooccpniaa.PA
set_option linter.unusedVariables false
set_option linter.unusedSimpArgs false
def EvB (F : Nat → Option Bool) (P : Prop) : Prop := ∃ b, Ev F b ∧ (b = true → P)
theorem EvB.no {P : Prop} : EvB (fun _ => some false) P := ⟨false, Ev.const _, fun h => by cases h⟩
theorem EvB.yes {P : Prop} (h : P) : EvB (fun _ => some true) P := ⟨true, Ev.const _, fun _ => h⟩
theorem EvB.succ {F : Nat → Option Bool} {P : Prop} (h : EvB (fun k => F (k + 1)) P) : EvB F P := by
  obtain ⟨b, h1, h2⟩ := h
  exact ⟨b, h1.succ, h2⟩
theorem EvB.ite {c : Prop} [Decidable c] {A B : Nat → Option Bool} {P : Prop} (h : c → EvB A P) (k : ¬ c → EvB B P) : EvB (fun k => if c then A k else B k) P := by
  by_cases hc : c
  · simp only [if_pos hc]
    exact h hc
  · simp only [if_neg hc]
    exact k hc
theorem EvB.bind {A : Nat → Option Bool} {B : Nat → Bool → Option Bool} {P Q : Prop} (h : EvB A Q) (k : ∀ b, (b = true → Q) → EvB (fun k => B k b) P) : EvB (fun k => (A k).bind (B k)) P := by
  obtain ⟨a, h1, h2⟩ := h
  obtain ⟨b, k1, k2⟩ := k a h2
  exact ⟨b, Ev.bind h1 k1, k2⟩
theorem EvB.mono {F : Nat → Option Bool} {P Q : Prop} (h : EvB F P) (k : P → Q) : EvB F Q := by
  obtain ⟨b, h1, h2⟩ := h
  exact ⟨b, h1, fun e => k (h2 e)⟩
theorem name_ev (s : ByteArray) : EvB (fun k => emendateref18_Name.f k s) True := by
  have loop : s.size ≤ 48 → ∀ d i, i + d = s.size → EvB (fun k => emendateref18_Name.l0 k s (i : Int)) True := by
    intro hs d
    induction d with
    | zero =>
      intro i hi
      refine EvB.succ ?_
      simp only [emendateref18_Name.l0, if_neg (show ¬ (i : Int) < (s.size : Int) by omega)]
      exact EvB.yes trivial
    | succ d ih =>
      intro i hi
      have ih' := ih (i + 1) (by omega)
      refine EvB.succ ?_
      simp only [emendateref18_Name.l0, if_pos (show (i : Int) < (s.size : Int) by omega), if_pos (show (0 : Int) ≤ (i : Int) by omega), w1 i (by omega)]
      generalize bt s (i : Int) = c
      repeat' first
      | exact ih'
      | exact EvB.no
      | refine EvB.ite (fun _ => ?_) (fun _ => ?_)
  unfold emendateref18_Name.f
  refine EvB.ite (fun _ => ?_) (fun h => ?_)
  · refine EvB.succ ?_
    simp only [emendateref18_Name.j0, if_true]
    exact EvB.no
  · refine EvB.succ ?_
    simp only [emendateref18_Name.j0]
    refine EvB.ite (fun _ => EvB.no) (fun h2 => ?_)
    exact loop (by simp at h2; omega) s.size 0 (by omega)
theorem names_ev (a b : List ByteArray) (ha : a.length ≤ 120) (hb : b.length ≤ 120) : EvB (fun k => emendateref18_names.f k a b) True := by
  have loop : ∀ d i (l : List ByteArray), l.length ≤ 240 → i + d = l.length → EvB (fun k => emendateref18_names.l0 k l (i : Int)) True := by
    intro d
    induction d with
    | zero =>
      intro i l hl hi
      refine EvB.succ ?_
      simp only [emendateref18_names.l0, if_neg (show ¬ (i : Int) < (l.length : Int) by omega)]
      exact EvB.yes trivial
    | succ d ih =>
      intro i l hl hi
      have ih' := ih (i + 1) l hl (by omega)
      have inner : ∀ e j, j + e = i → EvB (fun k => emendateref18_names.l1 k l (i : Int) (j : Int)) True := by
        intro e
        induction e with
        | zero =>
          intro j hj
          refine EvB.succ ?_
          simp only [emendateref18_names.l1, if_neg (show ¬ (j : Int) < (i : Int) by omega), w1 i (by omega)]
          exact ih'
        | succ e ihe =>
          intro j hj
          have := ihe (j + 1) (by omega)
          refine EvB.succ ?_
          simp only [emendateref18_names.l1, if_pos (show (j : Int) < (i : Int) by omega), if_pos (show (0 : Int) ≤ (j : Int) by omega), if_pos (show (j : Int) < (l.length : Int) by omega), if_pos (show (0 : Int) ≤ (i : Int) by omega), if_pos (show (i : Int) < (l.length : Int) by omega), w1 j (by omega)]
          exact EvB.ite (fun _ => EvB.no) (fun _ => this)
      refine EvB.succ ?_
      simp only [emendateref18_names.l0, if_pos (show (i : Int) < (l.length : Int) by omega), if_pos (show (0 : Int) ≤ (i : Int) by omega)]
      exact EvB.bind (name_ev _) (fun b _ => EvB.ite (fun _ => inner i 0 (by omega)) (fun _ => EvB.no))
  unfold emendateref18_names.f
  simp only [List.nil_append, List.length_nil, Option.bind_some, if_pos (show 0 + a.length < 8796093022208 by omega), if_pos (show a.length + b.length < 8796093022208 by omega)]
  exact loop (a ++ b).length 0 (a ++ b) (by rw [List.length_append]; omega) (by omega)
/-- What Valid says of the numbers. -/
structure VNum (t n : Nat) (st : Int) (rules : List S41) : Prop where
  t1 : t ≤ 120
  n0 : 0 < n
  n1 : n ≤ 120
  r0 : 0 < rules.length
  r1 : rules.length ≤ 120
  st0 : 0 ≤ st
  st1 : st < n
  rule : ∀ r ∈ rules, (0 ≤ r.f0 ∧ r.f0 < n) ∧ r.f1.length ≤ 12 ∧ ∀ x ∈ r.f1, -(n : Int) ≤ x ∧ x < t
theorem valid_ev (l0 l1 : List ByteArray) (st : Int) (rules : List S41) : EvB (fun k => emendateref18_Valid.f k l0 l1 st rules) (VNum l0.length l1.length st rules) := by
  have j0t : EvB (fun k => emendateref18_Valid.j0 k true l0 l1 st rules) (VNum l0.length l1.length st rules) := by
    refine EvB.succ ?_
    simp only [emendateref18_Valid.j0, if_true]
    exact EvB.no
  have j1t : EvB (fun k => emendateref18_Valid.j1 k true l0 l1 st rules) (VNum l0.length l1.length st rules) := by
    refine EvB.succ ?_
    simp only [emendateref18_Valid.j1, if_true]
    exact EvB.no
  unfold emendateref18_Valid.f
  refine EvB.ite (fun _ => j0t) (fun h1 => EvB.ite (fun _ => j0t) (fun h2 => EvB.ite (fun _ => j0t) (fun h3 => EvB.ite (fun _ => j0t) (fun h4 => ?_))))
  refine EvB.succ ?_
  simp only [emendateref18_Valid.j0]
  refine EvB.ite (fun _ => EvB.no) (fun h5 => EvB.ite (fun _ => j1t) (fun h6 => EvB.ite (fun _ => j1t) (fun h7 => ?_)))
  have h5' : rules.length ≤ 120 := by simp at h5; omega
  refine EvB.bind (names_ev l0 l1 (by omega) (by omega)) (fun b _ => ?_)
  refine EvB.succ ?_
  simp only [emendateref18_Valid.j1]
  refine EvB.ite (fun _ => EvB.no) (fun _ => ?_)
  have loop : ∀ d i, i + d = rules.length → (∀ j (hj : j < rules.length), j < i → (0 ≤ rules[j].f0 ∧ rules[j].f0 < (l1.length : Int)) ∧ rules[j].f1.length ≤ 12 ∧ ∀ x ∈ rules[j].f1, -(l1.length : Int) ≤ x ∧ x < (l0.length : Int)) → EvB (fun k => emendateref18_Valid.l0 k (i : Int) l0 l1 st rules) (VNum l0.length l1.length st rules) := by
    intro d
    induction d with
    | zero =>
      intro i hi hp
      refine EvB.succ ?_
      simp only [emendateref18_Valid.l0, if_neg (show ¬ (i : Int) < (rules.length : Int) by omega)]
      refine EvB.yes ⟨by omega, by omega, by omega, by omega, h5', by omega, by omega, fun r hr => ?_⟩
      obtain ⟨j, hj, rfl⟩ := List.getElem_of_mem hr
      exact hp j hj (by omega)
    | succ d ih =>
      intro i hi hp
      have hlt : i < rules.length := by omega
      refine EvB.succ ?_
      simp only [emendateref18_Valid.l0, if_pos (show (i : Int) < (rules.length : Int) by omega), if_pos (show (0 : Int) ≤ (i : Int) by omega), rd_T41_get rules i hlt]
      have j3t : ∀ a b c, EvB (fun k => emendateref18_Valid.j3 k (i : Int) true l0 l1 st rules a b c) (VNum l0.length l1.length st rules) := by
        intro a b c
        refine EvB.succ ?_
        simp only [emendateref18_Valid.j3, if_true]
        exact EvB.no
      refine EvB.ite (fun _ => j3t _ _ _) (fun g1 => EvB.ite (fun _ => j3t _ _ _) (fun g2 => EvB.ite (fun _ => j3t _ _ _) (fun g3 => EvB.ite (fun _ => j3t _ _ _) (fun g4 => ?_))))
      refine EvB.succ ?_
      simp only [emendateref18_Valid.j3]
      refine EvB.ite (fun _ => EvB.no) (fun _ => ?_)
      have inner : ∀ e u, u + e = rules[i].f1.length → (∀ v (hv : v < rules[i].f1.length), v < u → -(l1.length : Int) ≤ rules[i].f1[v] ∧ rules[i].f1[v] < (l0.length : Int)) → EvB (fun k => emendateref18_Valid.l1 k (i : Int) (u : Int) l0 l1 st rules rules[i].f0 rules[i].f1 rules[i].f2) (VNum l0.length l1.length st rules) := by
        intro e
        induction e with
        | zero =>
          intro u hu hq
          refine EvB.succ ?_
          simp only [emendateref18_Valid.l1, if_neg (show ¬ (u : Int) < (rules[i].f1.length : Int) by omega), w1 i (by omega)]
          refine ih (i + 1) (by omega) (fun j hj hji => ?_)
          by_cases ej : j = i
          · subst ej
            refine ⟨by omega, by omega, fun x hx => ?_⟩
            obtain ⟨v, hv, rfl⟩ := List.getElem_of_mem hx
            exact hq v hv (by omega)
          · exact hp j hj (by omega)
        | succ e ihe =>
          intro u hu hq
          have hul : u < rules[i].f1.length := by omega
          have hw : wrap64 (-(l1.length : Int)) = -(l1.length : Int) := by unfold wrap64; omega
          refine EvB.succ ?_
          simp only [emendateref18_Valid.l1, if_pos (show (u : Int) < (rules[i].f1.length : Int) by omega), if_pos (show (0 : Int) ≤ (u : Int) by omega), getD_rd _ u hul, hw, w1 u (by omega)]
          clear hw
          refine EvB.ite (fun _ => EvB.no) (fun e1 => EvB.ite (fun _ => EvB.no) (fun e2 => ?_))
          refine ihe (u + 1) (by omega) (fun v hv hvu => ?_)
          by_cases ev : v = u
          · subst ev
            exact ⟨by omega, by omega⟩
          · exact hq v hv (by omega)
      exact inner rules[i].f1.length 0 (by omega) (fun v _ h => absurd h (Nat.not_lt_zero _))
  exact loop rules.length 0 (by omega) (fun j _ h => absurd h (Nat.not_lt_zero _))
theorem VNum.gv {t n : Nat} {st : Int} {rules : List S41} (h : VNum t n st rules) : GV t n st rules :=
  ⟨h.n0, by have := h.n1; omega, by have := h.t1; omega, h.st0, h.st1, by have := h.r1; omega, fun r hr => (h.rule r hr).1, fun r hr => by have := (h.rule r hr).2.1; omega, fun r hr => (h.rule r hr).2.2⟩
theorem small_ev (l0 l1 : List ByteArray) (st : Int) (rules : List S41) : EvB (fun k => emendateref18_Small.f k l0 l1 st rules) (GV l0.length l1.length st rules) := by
  unfold emendateref18_Small.f
  refine EvB.ite (fun _ => EvB.ite (fun _ => EvB.ite (fun _ => ?_) (fun _ => EvB.no)) (fun _ => EvB.no)) (fun _ => EvB.no)
  refine EvB.bind (valid_ev l0 l1 st rules) (fun b hb => ?_)
  exact ⟨b, Ev.const _, fun e => (hb e).gv⟩
end Go.Proofs.Ytkaedhooccpniaa.Hand
