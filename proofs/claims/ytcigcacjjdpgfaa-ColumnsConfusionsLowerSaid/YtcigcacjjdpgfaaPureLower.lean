import Derived.Test.YtcigcacjjdpgfaaPureTok
/- Confusions lower the prices of reading alone. Plain Lean. -/
namespace Go.Proofs.Ytcigcacjjdpgfaa.PA
open Go.RowKit Go.Proofs.YtcigcacjjdpgfaaW.PrintWords Go.Proofs.YtcigcacjjdpgfaaW.PrintLast Go.Proofs.YtcigcacjjdpgfaaW.PrintMore Go.Proofs.Ytcigcacjjdpgfaa.Hand
set_option linter.unusedVariables false
set_option linter.unusedSimpArgs false
theorem foldl_lower : ∀ (l : List S53) (r : List Int) (t : Nat), t < r.length → (∀ x ∈ l, largeB x.f1 = true) → 0 ≤ r.getD t 0 → 0 ≤ (l.foldl colStep r).getD t 0 ∧ (l.foldl colStep r).getD t 0 ≤ r.getD t 0
  | [], _, _, _, _, h => ⟨h, Int.le_refl _⟩
  | x :: l, r, t, ht, hl, h => by
    rw [List.foldl_cons]
    have hx := hl x (by simp)
    simp only [largeB, Bool.and_eq_true, decide_eq_true_eq] at hx
    have h1 : 0 ≤ (colStep r x).getD t 0 ∧ (colStep r x).getD t 0 ≤ r.getD t 0 := by
      rcases colStep_get r x t ht with e | ⟨e1, e2, e3⟩
      · rw [e]; exact ⟨h, Int.le_refl _⟩
      · rw [e2]; omega
    have ih := foldl_lower l (colStep r x) t (by rw [colStep_length]; exact ht) (fun y hy => hl y (by simp [hy])) h1.1
    omega
/-- What the law asks of two columns. -/
structure LowC (x y : S51) : Prop where
  k : x.f0 = y.f0
  d : x.f2 = y.f2
  l : x.f1.length = y.f1.length
  r : ∀ t, t < x.f1.length → 0 ≤ rd y.f1 (t : Int) → 0 ≤ rd x.f1 (t : Int) ∧ rd x.f1 (t : Int) ≤ rd y.f1 (t : Int)
theorem ofT_lower {kinds : List Int} {conf : List (List S53)} {ins del : List Int} {rep : List (List Int)} {sw unk : Int} (h : (ofT kinds conf ins del rep sw unk).2.2.2 = 0) :
    (ofT kinds [] ins del rep sw unk).2.2.2 = 0 ∧ (ofT kinds conf ins del rep sw unk).1.length = (ofT kinds [] ins del rep sw unk).1.length ∧
    ∀ j, j < (ofT kinds conf ins del rep sw unk).1.length → LowC (rd_T51 (ofT kinds conf ins del rep sw unk).1 (j : Int)) (rd_T51 (ofT kinds [] ins del rep sw unk).1 (j : Int)) := by
  obtain ⟨h1, h2, h3, h4, h5⟩ := ofT_zero h
  have hb : badFrom ins.length [] kinds 0 = false := badFrom_no fun j hj => by
    have := badFrom_at h3 j hj
    have e : confAt [] (0 + j) = [] := rfl
    rw [e]
    simp only [badTok, Bool.or_eq_false_iff, decide_eq_false_iff_not] at this ⊢
    exact ⟨this.1, rfl⟩
  have h6 := ofT_some (conf := []) h1 (.inl rfl) hb h4 (del := del) (rep := rep) (sw := sw) (unk := unk)
  rw [h5, h6]
  refine ⟨rfl, by simp, fun j hj => ?_⟩
  dsimp only at hj ⊢
  have hj' : j < kinds.length := by simpa using hj
  rw [rdT51_at _ j hj, rdT51_at _ j (by simpa using hj'), List.getElem_mapIdx, List.getElem_mapIdx]
  have hbt := badFrom_at h3 j hj'
  rw [Nat.zero_add] at hbt
  have e : confAt [] j = [] := rfl
  rw [e]
  refine ⟨rfl, rfl, ?_, fun t ht hy => ?_⟩
  · simp only [colT, foldl_length, List.foldl_nil]
  · simp only [colT, foldl_length, List.foldl_nil, rd, Int.toNat_natCast] at ht hy ⊢
    exact foldl_lower _ _ t ht (fun x hx => (badTok_conf hbt x hx).2.2) hy
end Go.Proofs.Ytcigcacjjdpgfaa.PA
