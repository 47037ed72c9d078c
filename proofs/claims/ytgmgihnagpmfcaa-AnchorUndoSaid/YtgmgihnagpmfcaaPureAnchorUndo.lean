import Derived.Test.YtgmgihnagpmfcaaPAx8
import Derived.Test.YtgmgihnagpmfcaaPureAnchorMove
/- The plain law behind AnchorUndo. -/
namespace Go.Proofs.Ytgmgihnagpmfcaa.Pure
open Go.RowKit Go.Proofs.Ytgmgihnagpmfcaa.PA Go.Proofs.YtgmgihnagpmfcaaW.PrintWords
set_option linter.unusedVariables false

/-- One anchor over two edits. -/
theorem all_two {x : Int} {y : Bool} {p q p' q' : Int} {s s' : ByteArray} {x1 x2 : Int} {y1 y2 : Bool} (h1 : anchor_Move.f x y p q s = some (x1, y1)) (h2 : anchor_Move.f x1 y1 p' q' s' = some (x2, y2)) :
    anchor_MoveAll.f 9 [(⟨x, y⟩ : S23)] [(⟨p, q, s⟩ : S25), ⟨p', q', s'⟩] = some [⟨x2, y2⟩] := by
  have w1 : wrap64 1 = 1 := by unfold wrap64; omega
  have w2 : wrap64 2 = 2 := by unfold wrap64; omega
  have e0 : rd_T23 [(⟨x, y⟩ : S23)] 0 = ⟨x, y⟩ := rfl
  have e1 : rd_T23 [(⟨x1, y1⟩ : S23)] 0 = ⟨x1, y1⟩ := rfl
  have d0 : rd_T25 [(⟨p, q, s⟩ : S25), ⟨p', q', s'⟩] 0 = ⟨p, q, s⟩ := rfl
  have d1 : rd_T25 [(⟨p, q, s⟩ : S25), ⟨p', q', s'⟩] 1 = ⟨p', q', s'⟩ := rfl
  simp [anchor_MoveAll.f, api_Anchor.f, anchor_MoveAll.l0, anchor_MoveAll.l1, e0, e1, d0, d1, h1, h2, w1, w2]
theorem undo_j1 {t : Bool} {x : Int} {y : Bool} {p q : Int} {s d : ByteArray} (hs : 0 ≤ x ∧ x ≤ 1000 ∧ 0 ≤ p ∧ p ≤ 1000 ∧ 0 ≤ q ∧ q ≤ 1000 ∧ (s.size : Int) ≤ 1000) (hd : (d.size : Int) = q) (h : t = true ∨ x < p ∨ x > p + q) :
    emendatelaw02_AnchorUndo.j1 10 d t x y p q s = some true := by
  simp only [emendatelaw02_AnchorUndo.j1]
  cases t with
  | true => simp [emendatelaw02_awake.f]
  | false =>
    have h := h.resolve_left (by simp)
    have h1 := move_small (y := y) hs
    obtain ⟨k1, k2, k3, k4, k5, k6, k7⟩ := hs
    have key : ∃ x1, anchor_Move.f x y p q s = some (x1, y) ∧ anchor_Move.f x1 y p (s.size : Int) d = some (x, y) := by
      rcases h with h | h
      · rw [if_pos h] at h1
        exact ⟨x, h1, by simp [anchor_Move.f, h]⟩
      · rw [if_neg (by omega), if_pos h] at h1
        refine ⟨_, h1, ?_⟩
        have w1 : wrap64 (p + (s.size : Int)) = p + (s.size : Int) := by unfold wrap64; omega
        have w2 : wrap64 ((d.size : Int) - (s.size : Int)) = (d.size : Int) - (s.size : Int) := by unfold wrap64; omega
        have w3 : wrap64 (x + (s.size : Int) - q + ((d.size : Int) - (s.size : Int))) = x := by unfold wrap64; omega
        unfold anchor_Move.f
        rw [w1, w2, w3, if_neg (by omega), if_pos (by omega)]
    obtain ⟨x1, e1, e2⟩ := key
    rw [all_two e1 e2]
    have e3 : rd_T23 [(⟨x, y⟩ : S23)] 0 = ⟨x, y⟩ := rfl
    simp [emendatelaw02_awake.f, e3]
theorem undo_j0 {t : Bool} {x : Int} {y : Bool} {p q : Int} {s d : ByteArray} (h : t = true ∨ ((0 ≤ x ∧ x ≤ 1000 ∧ 0 ≤ p ∧ p ≤ 1000 ∧ 0 ≤ q ∧ q ≤ 1000 ∧ (s.size : Int) ≤ 1000) ∧ (d.size : Int) = q)) :
    emendatelaw02_AnchorUndo.j0 11 d t x y p q s = some true := by
  simp only [emendatelaw02_AnchorUndo.j0]
  cases t with
  | true => simp [emendatelaw02_awake.f]
  | false =>
    obtain ⟨hs, hd⟩ := h.resolve_left (by simp)
    have hw : wrap64 (p + q) = p + q := by unfold wrap64; omega
    have h0 : anchor_Move.f x y p 0 ⟨#[]⟩ = some (x, y) := by
      rw [move_small (s := ⟨#[]⟩) ⟨hs.1, hs.2.1, hs.2.2.1, hs.2.2.2.1, by omega, by omega, by decide⟩]
      have hz : ((⟨#[]⟩ : ByteArray).size : Int) = 0 := rfl
      rw [hz]
      by_cases c1 : x < p
      · simp [c1]
      · by_cases c2 : x > p
        · simp [c1, c2]
        · have : x = p := by omega
          subst this
          cases y <;> simp
    rw [h0]
    simp only [Option.bind_some, beq_self_eq_true, Bool.not_true, Bool.or_self, Bool.false_eq_true, if_false]
    rw [hw]
    by_cases c1 : x ≥ p
    · rw [if_pos c1]
      refine undo_j1 hs hd ?_
      by_cases c2 : x ≤ p + q
      · exact .inl (decide_eq_true c2)
      · exact .inr (.inr (by omega))
    · rw [if_neg c1]
      exact undo_j1 hs hd (.inr (.inl (by omega)))
theorem AnchorUndo (a0_0 : Int) (a0_1 : Bool) (a1_0 : Int) (a1_1 : Int) (a1_2 : ByteArray) (a2 : ByteArray) (g0_0 : (Lit.int .i64 a0_0).wf = true) (g0_1 : True) (g1_0 : (Lit.int .i64 a1_0).wf = true) (g1_1 : (Lit.int .i64 a1_1).wf = true) (g1_2 : a1_2.size ≤ maxLen) (g2 : a2.size ≤ maxLen) : ∃ k, emendatelaw02_AnchorUndo.f k a0_0 a0_1 a1_0 a1_1 a1_2 a2 = some true := by
  refine ⟨11, ?_⟩
  unfold emendatelaw02_AnchorUndo.f
  obtain ⟨b, hb⟩ := small_some a0_0 a0_1 a1_0 a1_1 a1_2
  rw [hb]
  cases b with
  | false => simp only [Option.bind_some, Bool.false_eq_true, if_false]; exact undo_j0 (.inl rfl)
  | true =>
    have hs := small_yes hb
    simp only [Option.bind_some, if_true]
    refine undo_j0 ?_
    by_cases c : (a2.size : Int) = a1_1
    · exact .inr ⟨hs, c⟩
    · exact .inl (by simpa using c)
end Go.Proofs.Ytgmgihnagpmfcaa.Pure
