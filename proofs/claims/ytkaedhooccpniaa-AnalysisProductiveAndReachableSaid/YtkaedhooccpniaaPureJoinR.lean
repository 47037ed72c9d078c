import Derived.Test.YtkaedhooccpniaaPureJoin
import Derived.Test.YtkaedhooccpniaaPureReach
/- Reachable over a moderate grammar. Plain Lean. -/
namespace Go.Proofs.Ytkaedhooccpniaa.Hand
open Go.RowKit Go.Proofs.YtkaedhooccpniaaW.PrintWords Go.Proofs.YtkaedhooccpniaaW.PrintLast Go.Proofs.YtkaedhooccpniaaW.PrintMore Go.Proofs.Ytkaedhooccpniaa.PA
set_option linter.unusedVariables false
set_option linter.unusedSimpArgs false
section
variable {l0 l1 : List ByteArray} {st : Int} {rules : List S41}
theorem reach_ev (hg : GV l0.length l1.length st rules) : ∃ bs, Ev (fun k => reach.f k l0 l1 st rules) bs ∧ RcL l1.length st rules bs := by
  obtain ⟨bs, h1, h2⟩ := reach_pure hg
  refine ⟨bs, ?_, h2⟩
  simp only [reach.f, hg.gok, if_true]
  exact h1
end
end Go.Proofs.Ytkaedhooccpniaa.Hand
