import Derived.Test.YtkaedhooccpniaaPureJoin
import Derived.Test.YtkaedhooccpniaaPureM2
import Derived.Test.YtkaedhooccpniaaPAx16
/- First and Follow over a moderate grammar. Plain Lean. -/
namespace Go.Proofs.Ytkaedhooccpniaa.Hand
open Go.RowKit Go.Proofs.YtkaedhooccpniaaW.PrintWords Go.Proofs.YtkaedhooccpniaaW.PrintLast Go.Proofs.YtkaedhooccpniaaW.PrintMore Go.Proofs.Ytkaedhooccpniaa.PA
set_option linter.unusedVariables false
set_option linter.unusedSimpArgs false
section
variable {l0 l1 : List ByteArray} {st : Int} {rules : List S41}
theorem first_ev (hg : GV l0.length l1.length st rules) (null : List Bool) : ∃ ftab, Ev (fun k => run (firstStep (l0.length + 1) null) rules k (noSets l1.length (l0.length + 1))) ftab ∧ FsL l0.length l1.length null rules ftab := first_pure hg
theorem rowList_eq (row : List Bool) (m : Nat) (w : Nat) (p : Nat → Bool) (sh : Int) (h : ∀ j, j < w → inRow row ((j : Int) - sh) = p j) :
    ((List.range w).map (fun (i : Nat) => -sh + (i : Int))).filter (fun t => inRow row t) = ((List.range w).filter p).map (fun (j : Nat) => (j : Int) - sh) := by
  have e : (fun (i : Nat) => -sh + (i : Int)) = (fun (j : Nat) => (j : Int) - sh) := by funext i; omega
  rw [e, List.filter_map]
  congr 1
  refine List.filter_congr (fun j hj => ?_)
  exact h j (by simpa using hj)
theorem lists_eq {tab : List (List Bool)} {n w : Nat} {m : Nat → Nat → Bool} {sh top : Int} (hw : (top - -sh).toNat = w) (h : ∀ i j, i < n → j < w → inRow (tab.getD i []) ((j : Int) - sh) = m i j) : listsOf tab n (-sh) top = rowsOf n w m sh := by
  unfold listsOf rowsOf
  refine List.map_congr_left (fun i hi => ?_)
  unfold rowList rowPart
  rw [hw]
  exact rowList_eq _ 0 w _ sh (fun j hj => h i j (by simpa using hi) hj)
theorem inRow_at (row : List Bool) (j : Nat) (sh : Int) (h0 : 0 ≤ sh) (h1 : sh ≤ 1) : inRow row ((j : Int) - sh) = row.getD ((j : Int) - sh + 1).toNat false := by
  unfold inRow
  rw [decide_eq_true (show -1 ≤ (j : Int) - sh by omega), Bool.true_and]
theorem rfirst_ev (hg : GV l0.length l1.length st rules) {null : List Bool} (hn : HdL false l1.length rules null) {ftab : List (List Bool)} (hf : FsL l0.length l1.length null rules ftab) : Ev (fun k => emendateref21_First.f k l0 l1 st rules) (listsOf ftab l1.length 0 l0.length) := by
  have hn1 := hg.n1
  have ht1 := hg.t1
  obtain ⟨s, h1, h2⟩ := rfirst_pure l0 l1 rfl rfl hg hn.len (rnull_ev hg hn)
  have e : listsOf ftab l1.length (-0) l0.length = rowsOf l1.length l0.length (fun i j => s.getD (i * l0.length + j) false) 0 := lists_eq (by omega) (fun i j hi hj => by
    rw [inRow_at _ _ _ (by omega) (by omega), show ((j : Int) - 0 + 1).toNat = j + 1 by omega]
    refine Bool.eq_iff_iff.2 ?_
    rw [h2.iff i j hi hj]
    refine (hf.iff i (j + 1)).trans ?_
    rw [show ((j + 1 : Nat) : Int) - 1 = (j : Int) by omega]
    constructor
    · exact fun h => h.2
    · exact fun h => ⟨by omega, h⟩)
  rw [show (-0 : Int) = 0 by rfl] at e
  rw [e]
  unfold emendateref21_First.f
  by_cases h0 : (l0.length : Int) = 0
  · simp only [if_pos h0, if_pos (show (0 : Int) ≤ (l1.length : Int) by omega), Int.toNat_natCast, if_pos (show l1.length ≤ 11728124029610 by omega)]
    have : rowsOf l1.length l0.length (fun i j => s.getD (i * l0.length + j) false) 0 = List.replicate l1.length [] := by
      unfold rowsOf
      rw [show l0.length = 0 by omega]
      refine List.eq_replicate_iff.2 ⟨by simp, fun x hx => ?_⟩
      obtain ⟨_, _, rfl⟩ := List.mem_map.1 hx
      rfl
    rw [this]
    exact Ev.const _
  · simp only [if_neg h0]
    exact Ev.bind h1 (Ev.bind (sets_pure h2.len (by omega) (by omega) hn1 0 ⟨by omega, by omega⟩) (Ev.const _))
theorem fol_ev (hg : GV l0.length l1.length st rules) {null : List Bool} {ftab : List (List Bool)} (hf : FsL l0.length l1.length null rules ftab) : ∃ tab, Ev (fun k => run (folStep (l0.length + 1) null ftab) rules k (folInit l1.length (l0.length + 1) st)) tab ∧ FoL l0.length l1.length null st rules tab := fol_pure hg hf
theorem rfol_ev (hg : GV l0.length l1.length st rules) {null : List Bool} (hn : HdL false l1.length rules null) {tab : List (List Bool)} (hf : FoL l0.length l1.length null st rules tab) : Ev (fun k => emendateref21_Follow.f k l0 l1 st rules) (listsOf tab l1.length (-1) l0.length) := by
  have hn1 := hg.n1
  have ht1 := hg.t1
  obtain ⟨fl, h1, h2⟩ := rfirst_pure l0 l1 rfl rfl hg hn.len (rnull_ev hg hn)
  obtain ⟨s, h3, h4⟩ := rfol_pure l0 l1 rfl rfl hg hn.len (rnull_ev hg hn) h1 h2
  have e : listsOf tab l1.length (-1) l0.length = rowsOf l1.length (l0.length + 1) (fun i j => s.getD (i * (l0.length + 1) + j) false) 1 := lists_eq (by omega) (fun i j hi hj => by
    rw [inRow_at _ _ _ (by omega) (by omega), show ((j : Int) - 1 + 1).toNat = j by omega]
    refine Bool.eq_iff_iff.2 ?_
    rw [h3.iff i j hi hj]
    exact hf.iff i j)
  rw [e]
  exact h4 _ (sets_pure h3.len (by omega) (by omega) hn1 1 ⟨by omega, by omega⟩)
theorem listsOf_small (tab : List (List Bool)) (n : Nat) (a b : Int) (h : (b - a).toNat ≤ 1000000) : ∀ l ∈ listsOf tab n a b, l.length ≤ 1000000 := by
  intro l hl
  obtain ⟨i, _, rfl⟩ := List.mem_map.1 hl
  exact Nat.le_trans (rowPart_len _ _ _) h
end
end Go.Proofs.Ytkaedhooccpniaa.Hand
