import Derived.Test.YtgmgihnagpmfcaaPAx7
import Derived.Test.YtgmgihnagpmfcaaPureAnchorMove
/- The plain law behind AnchorOrder. -/
namespace Go.Proofs.Ytgmgihnagpmfcaa.Pure
open Go.RowKit Go.Proofs.Ytgmgihnagpmfcaa.PA Go.Proofs.YtgmgihnagpmfcaaW.PrintWords
set_option linter.unusedVariables false

theorem order_j0 {t : Bool} {x x' : Int} {y y' : Bool} {p q : Int} {s : ByteArray} (h : t = true ∨ (x ≤ x' ∧ (y = true → y' = true) ∧ (0 ≤ x ∧ x ≤ 1000 ∧ 0 ≤ p ∧ p ≤ 1000 ∧ 0 ≤ q ∧ q ≤ 1000 ∧ (s.size : Int) ≤ 1000) ∧ (0 ≤ x' ∧ x' ≤ 1000 ∧ 0 ≤ p ∧ p ≤ 1000 ∧ 0 ≤ q ∧ q ≤ 1000 ∧ (s.size : Int) ≤ 1000))) :
    emendatelaw02_AnchorOrder.j0 1 t x y x' y' p q s = some true := by
  simp only [emendatelaw02_AnchorOrder.j0]
  cases t with
  | true => simp [emendatelaw02_awake.f]
  | false =>
    obtain ⟨h1, h2, hs, hs'⟩ := h.resolve_left (by simp)
    rw [move_small hs, move_small hs']
    obtain ⟨k1, k2, k3, k4, k5, k6, k7⟩ := hs
    simp only [emendatelaw02_awake.f, Option.bind_some, Bool.false_eq_true, if_false, if_true, Option.some.injEq, decide_eq_true_eq]
    by_cases c1 : x < p
    · by_cases c2 : x' < p
      · simp [c1, c2]; omega
      · by_cases c3 : x' > p + q
        · simp [c1, c2, c3]; omega
        · cases y' <;> simp [c1, c2, c3] <;> omega
    · have c2 : ¬ x' < p := by omega
      by_cases c3 : x > p + q
      · have c4 : x' > p + q := by omega
        simp [c1, c2, c3, c4]; omega
      · by_cases c4 : x' > p + q
        · cases y <;> simp [c1, c2, c3, c4] <;> omega
        · cases y <;> cases y' <;> simp [c1, c2, c3, c4] at h2 ⊢ <;> omega
theorem AnchorOrder (a0_0 : Int) (a0_1 : Bool) (a1_0 : Int) (a1_1 : Bool) (a2_0 : Int) (a2_1 : Int) (a2_2 : ByteArray) (g0_0 : (Lit.int .i64 a0_0).wf = true) (g0_1 : True) (g1_0 : (Lit.int .i64 a1_0).wf = true) (g1_1 : True) (g2_0 : (Lit.int .i64 a2_0).wf = true) (g2_1 : (Lit.int .i64 a2_1).wf = true) (g2_2 : a2_2.size ≤ maxLen) : ∃ k, emendatelaw02_AnchorOrder.f k a0_0 a0_1 a1_0 a1_1 a2_0 a2_1 a2_2 = some true := by
  refine ⟨1, ?_⟩
  unfold emendatelaw02_AnchorOrder.f
  obtain ⟨b, hb⟩ := small_some a0_0 a0_1 a2_0 a2_1 a2_2
  cases b with
  | false => rw [hb]; simp only [Option.bind_some, Bool.false_eq_true, if_false]; exact order_j0 (.inl rfl)
  | true =>
    have hs := small_yes hb
    obtain ⟨c, hc⟩ := small_some a1_0 a1_1 a2_0 a2_1 a2_2
    cases c with
    | false => rw [hb, hc]; simp only [Option.bind_some, Bool.false_eq_true, if_false, if_true]; exact order_j0 (.inl rfl)
    | true =>
      have hs' := small_yes hc
      rw [hb, hc]
      simp only [Option.bind_some, if_true]
      by_cases c1 : a0_0 > a1_0
      · rw [if_pos c1]; exact order_j0 (.inl rfl)
      · rw [if_neg c1]
        cases a0_1 with
        | true =>
          rw [if_pos rfl]
          cases a1_1 with
          | true => exact order_j0 (.inr ⟨by omega, fun _ => rfl, hs, hs'⟩)
          | false => exact order_j0 (.inl rfl)
        | false => rw [if_neg (by simp)]; exact order_j0 (.inr ⟨by omega, (fun h => by cases h), hs, hs'⟩)
end Go.Proofs.Ytgmgihnagpmfcaa.Pure
