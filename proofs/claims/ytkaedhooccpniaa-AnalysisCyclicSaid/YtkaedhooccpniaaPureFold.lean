import Derived.Test.YtkaedhooccpniaaPureFix
/- Passes that add until nothing is added: folds with a flag; tables of sets. Plain Lean. -/
namespace Go.Proofs.Ytkaedhooccpniaa.Hand
open Go.RowKit Go.Proofs.YtkaedhooccpniaaW.PrintWords Go.Proofs.YtkaedhooccpniaaW.PrintLast Go.Proofs.YtkaedhooccpniaaW.PrintMore Go.Proofs.Ytkaedhooccpniaa.PA
set_option linter.unusedVariables false
set_option linter.unusedSimpArgs false
/-- One step adds something and says so, or leaves all as it was, with nothing to add. -/
def Adds {σ ι : Type} (Q : σ → Prop) (μ : σ → Nat) (g : σ × Bool → ι → σ × Bool) (D : σ → ι → Prop) (i : ι) : Prop :=
  ∀ s b, Q s → Q (g (s, b) i).1 ∧ (((g (s, b) i).2 = true ∧ μ s < μ (g (s, b) i).1) ∨ (g (s, b) i = (s, b) ∧ D s i))
/-- How many members all sets have. -/
def mu (tab : List (List Bool)) : Nat := (tab.map (fun r => r.count true)).sum
/-- Sets that hold nothing but what P allows. -/
structure TabQ (n wd : Nat) (P : Nat → Nat → Prop) (tab : List (List Bool)) : Prop where
  len : tab.length = n
  rl : ∀ i, i < n → (tab.getD i []).length = wd
  snd : ∀ i c, getT tab i c = true → P i c
theorem getD_set_row (tab : List (List Bool)) (i j : Nat) (row : List Bool) (hi : i < tab.length) : (tab.set i row).getD j [] = if i = j then row else tab.getD j [] := by
  rw [List.getD_eq_getElem?_getD, List.getElem?_set]
  by_cases e : i = j
  · subst e; simp [hi]
  · rw [if_neg e, if_neg e, List.getD_eq_getElem?_getD]
theorem TabQ.zero (n wd : Nat) (P : Nat → Nat → Prop) : TabQ n wd P (noSets n wd) := by
  refine ⟨by simp [noSets], fun i hi => by simp [noSets, List.getD_eq_getElem?_getD, List.getElem?_replicate, hi], fun i c h => ?_⟩
  unfold getT noSets at h
  rw [List.getD_eq_getElem?_getD (l := List.replicate n _), List.getElem?_replicate] at h
  split at h
  · simp only [Option.getD_some] at h
    rw [List.getD_eq_getElem?_getD, List.getElem?_replicate] at h
    split at h <;> cases h
  · simp at h
theorem okSym_false (bs : List Bool) : okSym false bs = nullSym bs := by
  funext x
  simp [okSym, nullSym]
theorem rep_false (n c : Nat) : ¬ (List.replicate n false).getD c false = true := by
  rw [List.getD_eq_getElem?_getD, List.getElem?_replicate]
  split <;> simp
theorem ix_inj {t i j a b : Nat} (ha : a < t) (hb : b < t) (h : i * t + a = j * t + b) : i = j ∧ a = b := by
  have h1 : (i * t + a) / t = (j * t + b) / t := by rw [h]
  have h2 : (i * t + a) % t = (j * t + b) % t := by rw [h]
  rw [Nat.mul_comm i, Nat.mul_comm j, Nat.mul_add_div (by omega), Nat.mul_add_div (by omega), Nat.div_eq_of_lt ha, Nat.div_eq_of_lt hb] at h1
  rw [Nat.mul_comm i, Nat.mul_comm j, Nat.mul_add_mod, Nat.mul_add_mod, Nat.mod_eq_of_lt ha, Nat.mod_eq_of_lt hb] at h2
  exact ⟨by omega, h2⟩
theorem ix_lt {t n i a : Nat} (hi : i < n) (ha : a < t) : i * t + a < n * t := by
  have := Nat.mul_le_mul_right t (show i + 1 ≤ n from hi)
  rw [Nat.succ_mul] at this
  omega
theorem ix_w {t a : Nat} {h : Int} (h0 : 0 ≤ h) (h1 : h ≤ 1000) (ht : t ≤ 1001) (ha : a ≤ t) : wrap64 (wrap64 (h * (t : Int)) + (a : Int)) = ((h.toNat * t + a : Nat) : Int) := by
  obtain ⟨i, rfl⟩ := Int.eq_ofNat_of_zero_le h0
  have := Nat.mul_le_mul (show i ≤ 1000 by omega) ht
  rw [Int.toNat_natCast, ← Int.natCast_mul]
  unfold wrap64
  omega
theorem getD_at (l : List Int) (i : Nat) (h : i < l.length) : l.getD i 0 = l[i] := by rw [List.getD_eq_getElem?_getD, List.getElem?_eq_getElem h]; rfl
end Go.Proofs.Ytkaedhooccpniaa.Hand
