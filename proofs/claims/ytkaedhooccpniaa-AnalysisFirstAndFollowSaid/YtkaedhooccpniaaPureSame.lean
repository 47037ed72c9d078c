import Derived.Test.YtkaedhooccpniaaPureM1
import Derived.Test.YtkaedhooccpniaaPAx1
import Derived.Test.YtkaedhooccpniaaPAx2
/- Comparisons, plain Lean. -/
namespace Go.Proofs.Ytkaedhooccpniaa.Hand
open Go.RowKit Go.Proofs.YtkaedhooccpniaaW.PrintWords Go.Proofs.YtkaedhooccpniaaW.PrintLast Go.Proofs.YtkaedhooccpniaaW.PrintMore Go.Proofs.Ytkaedhooccpniaa.PA
set_option linter.unusedVariables false
set_option linter.unusedSimpArgs false
theorem sameBools_pure (a : List Bool) (ha : a.length ≤ 1000000) : Ev (fun k => emendateref21_SameBools.f k a a) true := by
  have key : ∀ d i, i + d = a.length → Ev (fun k => emendateref21_SameBools.l0 k a a (i : Int)) true := by
    intro d
    induction d with
    | zero =>
      intro i hi
      refine Ev.succ ?_
      simp only [emendateref21_SameBools.l0, if_neg (show ¬ (i : Int) < (a.length : Int) by omega)]
      exact Ev.const true
    | succ d ih =>
      intro i hi
      refine Ev.succ ?_
      simp only [emendateref21_SameBools.l0, if_pos (show (i : Int) < (a.length : Int) by omega), if_pos (show (0 : Int) ≤ (i : Int) by omega), bne_self_eq_false, if_neg (show ¬ false = true by simp), w1 i (by omega)]
      exact ih (i + 1) (by omega)
  simp only [emendateref21_SameBools.f, if_true]
  exact key a.length 0 (by omega)
theorem same_pure (a : List (List Int)) (ha : a.length ≤ 1000000) (hb : ∀ l ∈ a, l.length ≤ 1000000) : Ev (fun k => emendateref21_Same.f k a a) true := by
  have key : ∀ d i, i + d = a.length → Ev (fun k => emendateref21_Same.l0 k a a (i : Int)) true := by
    intro d
    induction d with
    | zero =>
      intro i hi
      refine Ev.succ ?_
      simp only [emendateref21_Same.l0, if_neg (show ¬ (i : Int) < (a.length : Int) by omega)]
      exact Ev.const true
    | succ d ih =>
      intro i hi
      have hlt : i < a.length := by omega
      have e : rd_L2 a (i : Int) = a[i] := by simp [rd_L2, hlt]
      have hl := hb _ (List.getElem_mem hlt)
      have inner : ∀ f j, j + f = a[i].length → Ev (fun k => emendateref21_Same.l1 k a a (i : Int) (j : Int)) true := by
        intro f
        induction f with
        | zero =>
          intro j hj
          refine Ev.succ ?_
          simp only [emendateref21_Same.l1, e, if_pos (show (0 : Int) ≤ (i : Int) by omega), if_pos (show (i : Int) < (a.length : Int) by omega), if_neg (show ¬ (j : Int) < (a[i].length : Int) by omega), w1 i (by omega)]
          exact ih (i + 1) (by omega)
        | succ f ihf =>
          intro j hj
          refine Ev.succ ?_
          simp only [emendateref21_Same.l1, e, if_pos (show (0 : Int) ≤ (i : Int) by omega), if_pos (show (i : Int) < (a.length : Int) by omega), if_pos (show (j : Int) < (a[i].length : Int) by omega), if_pos (show (0 : Int) ≤ (j : Int) by omega), if_true, w1 j (by omega)]
          exact ihf (j + 1) (by omega)
      refine Ev.succ ?_
      simp only [emendateref21_Same.l0, if_pos (show (i : Int) < (a.length : Int) by omega), if_pos (show (0 : Int) ≤ (i : Int) by omega), if_true]
      exact inner a[i].length 0 (by omega)
  simp only [emendateref21_Same.f, if_true]
  exact key a.length 0 (by omega)
end Go.Proofs.Ytkaedhooccpniaa.Hand
