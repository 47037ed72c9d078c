import Derived.Test.YtgmgihnagpmfcaaPAx5
import Derived.Test.YtgmgihnagpmfcaaPureAnchorMove
/- The plain law behind AnchorStaysInText. -/
namespace Go.Proofs.Ytgmgihnagpmfcaa.Pure
open Go.RowKit Go.Proofs.Ytgmgihnagpmfcaa.PA Go.Proofs.YtgmgihnagpmfcaaW.PrintWords

theorem u8_bd {n : Int} (h : (Lit.int .u8 n).wf = true) : 0 ≤ n ∧ n ≤ 255 := by
  simp [Lit.wf, show IntKind.u8.min = 0 from rfl, show IntKind.u8.max = 255 from rfl] at h
  omega
theorem fits_some (p q : Int) (s : ByteArray) (n : Int) : ∃ b, emendateref02_Fits.f p q s n = some b := by
  unfold emendateref02_Fits.f
  repeat' split
  all_goals exact ⟨_, rfl⟩
theorem fits_yes {p q : Int} {s : ByteArray} {n : Int} (hn : 0 ≤ n ∧ n ≤ 1000) (h : emendateref02_Fits.f p q s n = some true) : 0 ≤ p ∧ 0 ≤ q ∧ p ≤ n ∧ q ≤ n - p := by
  unfold emendateref02_Fits.f at h
  by_cases c1 : p ≥ 0
  · by_cases c2 : q ≥ 0
    · by_cases c3 : p ≤ n
      · rw [if_pos c1, if_pos c2, if_pos c3] at h
        have h1 := of_decide_eq_true (Option.some.inj h)
        have w1 : wrap64 (n - p) = n - p := by unfold wrap64; omega
        rw [w1] at h1
        exact ⟨c1, c2, c3, h1⟩
      · simp [c1, c2, c3] at h
    · simp [c1, c2] at h
  · simp [c1] at h
theorem ite2 {A B : Prop} [Decidable A] [Decidable B] (h1 : A) (h2 : B) : (if A then if B then some true else some false else some false) = some true := by rw [if_pos h1, if_pos h2]
theorem stays_j0 {n : Int} {t : Bool} {x : Int} {y : Bool} {p q : Int} {s : ByteArray} (h : t = true ∨ (0 ≤ n ∧ n ≤ 1000 ∧ x ≤ n ∧ p ≤ n ∧ q ≤ n - p ∧ 0 ≤ x ∧ x ≤ 1000 ∧ 0 ≤ p ∧ p ≤ 1000 ∧ 0 ≤ q ∧ q ≤ 1000 ∧ (s.size : Int) ≤ 1000)) :
    emendatelaw02_AnchorStaysInText.j0 1 n t x y p q s = some true := by
  simp only [emendatelaw02_AnchorStaysInText.j0]
  cases t with
  | true => simp [emendatelaw02_awake.f]
  | false =>
    obtain ⟨h1, h2, h3, h4, h5, hs⟩ := h.resolve_left (by simp)
    rw [move_small hs]
    obtain ⟨k1, k2, k3, k4, k5, k6, k7⟩ := hs
    have w1 : wrap64 (wrap64 (n - q) + (s.size : Int)) = n - q + (s.size : Int) := by unfold wrap64; omega
    rw [w1]
    by_cases c1 : x < p
    · simp [c1, emendatelaw02_awake.f]; exact ite2 (by omega) (by omega)
    · by_cases c2 : x > p + q
      · simp [c1, c2, emendatelaw02_awake.f]; exact ite2 (by omega) (by omega)
      · cases y <;> simp [c1, c2, emendatelaw02_awake.f] <;> exact ite2 (by omega) (by omega)
theorem AnchorStaysInText (a0_0 : Int) (a0_1 : Bool) (a1_0 : Int) (a1_1 : Int) (a1_2 : ByteArray) (a2 : Int) (g0_0 : (Lit.int .i64 a0_0).wf = true) (g0_1 : True) (g1_0 : (Lit.int .i64 a1_0).wf = true) (g1_1 : (Lit.int .i64 a1_1).wf = true) (g1_2 : a1_2.size ≤ maxLen) (g2 : (Lit.int .u8 a2).wf = true) : ∃ k, emendatelaw02_AnchorStaysInText.f k a0_0 a0_1 a1_0 a1_1 a1_2 a2 = some true := by
  refine ⟨1, ?_⟩
  have hu := u8_bd g2
  have hn : wrap64 (Int.tmod a2 101) = a2 % 101 := by rw [Int.tmod_eq_emod_of_nonneg hu.1]; unfold wrap64; omega
  unfold emendatelaw02_AnchorStaysInText.f
  rw [hn]
  obtain ⟨b, hb⟩ := fits_some a1_0 a1_1 a1_2 (a2 % 101)
  cases b with
  | false => rw [hb]; simp only [Option.bind_some, Bool.false_eq_true, if_false]; exact stays_j0 (.inl rfl)
  | true =>
    have hf := fits_yes (by omega) hb
    obtain ⟨c, hc⟩ := small_some a0_0 a0_1 a1_0 a1_1 a1_2
    cases c with
    | false => rw [hb, hc]; simp only [Option.bind_some, Bool.false_eq_true, if_false, if_true]; exact stays_j0 (.inl rfl)
    | true =>
      have hs := small_yes hc
      rw [hb, hc]
      simp only [Option.bind_some, if_true]
      refine stays_j0 ?_
      by_cases c1 : a0_0 > a2 % 101
      · exact .inl (decide_eq_true c1)
      · exact .inr ⟨by omega, by omega, by omega, by omega, by omega, hs⟩
end Go.Proofs.Ytgmgihnagpmfcaa.Pure
