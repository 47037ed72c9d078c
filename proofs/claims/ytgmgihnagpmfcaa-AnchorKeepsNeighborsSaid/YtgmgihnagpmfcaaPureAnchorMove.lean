import Derived.Test.YtgmgihnagpmfcaaPAx4
/- The plain law behind AnchorMove. -/
namespace Go.Proofs.Ytgmgihnagpmfcaa.Pure
open Go.RowKit Go.Proofs.Ytgmgihnagpmfcaa.PA Go.Proofs.YtgmgihnagpmfcaaW.PrintWords

/-- What Small says when it says yes. -/
theorem small_yes {x : Int} {y : Bool} {p q : Int} {s : ByteArray} (h : emendateref02_Small.f x y p q s = some true) :
    0 ≤ x ∧ x ≤ 1000 ∧ 0 ≤ p ∧ p ≤ 1000 ∧ 0 ≤ q ∧ q ≤ 1000 ∧ (s.size : Int) ≤ 1000 := by
  unfold emendateref02_Small.f at h
  by_cases c1 : x ≥ 0
  · by_cases c2 : x ≤ 1000
    · by_cases c3 : p ≥ 0
      · by_cases c4 : p ≤ 1000
        · by_cases c5 : q ≥ 0
          · by_cases c6 : q ≤ 1000
            · rw [if_pos c1, if_pos c2, if_pos c3, if_pos c4, if_pos c5, if_pos c6] at h
              have := of_decide_eq_true (Option.some.inj h)
              omega
            · simp [c1, c2, c3, c4, c5, c6] at h
          · simp [c1, c2, c3, c4, c5] at h
        · simp [c1, c2, c3, c4] at h
      · simp [c1, c2, c3] at h
    · simp [c1, c2] at h
  · simp [c1] at h
theorem small_some (x : Int) (y : Bool) (p q : Int) (s : ByteArray) : ∃ b, emendateref02_Small.f x y p q s = some b := by
  unfold emendateref02_Small.f
  repeat' split
  all_goals exact ⟨_, rfl⟩
/-- Move, on small numbers. -/
theorem move_small {x : Int} {y : Bool} {p q : Int} {s : ByteArray} (h : 0 ≤ x ∧ x ≤ 1000 ∧ 0 ≤ p ∧ p ≤ 1000 ∧ 0 ≤ q ∧ q ≤ 1000 ∧ (s.size : Int) ≤ 1000) :
    anchor_Move.f x y p q s = some (if x < p then (x, y) else if x > p + q then (x + (s.size : Int) - q, y) else if y = true then (p + (s.size : Int), y) else (p, y)) := by
  obtain ⟨h1, h2, h3, h4, h5, h6, h7⟩ := h
  have w1 : wrap64 (p + q) = p + q := by unfold wrap64; omega
  have w2 : wrap64 ((s.size : Int) - q) = (s.size : Int) - q := by unfold wrap64; omega
  have w3 : wrap64 (x + ((s.size : Int) - q)) = x + (s.size : Int) - q := by unfold wrap64; omega
  have w4 : wrap64 (p + (s.size : Int)) = p + (s.size : Int) := by unfold wrap64; omega
  unfold anchor_Move.f
  rw [w1, w2, w3, w4]
  by_cases c1 : x < p
  · simp [c1]
  · by_cases c2 : x > p + q
    · simp [c1, c2]
    · cases y <;> simp [c1, c2]
theorem ref_move_small {x : Int} {y : Bool} {p q : Int} {s : ByteArray} (h : 0 ≤ x ∧ x ≤ 1000 ∧ 0 ≤ p ∧ p ≤ 1000 ∧ 0 ≤ q ∧ q ≤ 1000 ∧ (s.size : Int) ≤ 1000) :
    emendateref02_Move.f x y p q s = anchor_Move.f x y p q s := by
  rw [move_small h]
  obtain ⟨h1, h2, h3, h4, h5, h6, h7⟩ := h
  have w1 : wrap64 (p + q) = p + q := by unfold wrap64; omega
  have w2 : wrap64 (x + (s.size : Int)) = x + (s.size : Int) := by unfold wrap64; omega
  have w3 : wrap64 (x + (s.size : Int) - q) = x + (s.size : Int) - q := by unfold wrap64; omega
  have w4 : wrap64 (p + (s.size : Int)) = p + (s.size : Int) := by unfold wrap64; omega
  unfold emendateref02_Move.f
  rw [w1, w2, w3, w4]
  by_cases c1 : x < p
  · simp [c1]
  · by_cases c2 : x > p + q
    · simp [c1, c2]
    · cases y <;> simp [c1, c2]

theorem AnchorMove (x : Int) (y : Bool) (p q : Int) (s : ByteArray) : emendatelaw02_AnchorMove.f x y p q s = some true := by
  unfold emendatelaw02_AnchorMove.f
  obtain ⟨b, hb⟩ := small_some x y p q s
  cases b with
  | false => rw [hb]; rfl
  | true =>
    have h := small_yes hb
    rw [hb, ref_move_small h, move_small h]
    simp [emendatelaw02_awake.f]
end Go.Proofs.Ytgmgihnagpmfcaa.Pure
