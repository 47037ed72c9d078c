import Derived.Test.YtkaedhooccpniaaPureJoin
import Derived.Test.YtkaedhooccpniaaPureCyc
/- The reference's Cyclic over a moderate grammar. Plain Lean. -/
namespace Go.Proofs.Ytkaedhooccpniaa.Hand
open Go.RowKit Go.Proofs.YtkaedhooccpniaaW.PrintWords Go.Proofs.YtkaedhooccpniaaW.PrintLast Go.Proofs.YtkaedhooccpniaaW.PrintMore Go.Proofs.Ytkaedhooccpniaa.PA
set_option linter.unusedVariables false
set_option linter.unusedSimpArgs false
section
variable {l0 l1 : List ByteArray} {st : Int} {rules : List S41}
theorem rcyc_ev (hg : GV l0.length l1.length st rules) {null : List Bool} (h : HdL false l1.length rules null) : Ev (fun k => emendateref21_Cyclic.f k l0 l1 st rules) (cycF null l1.length rules) :=
  rcyc_pure l0 l1 rfl hg h.len (rnull_ev hg h)
end
end Go.Proofs.Ytkaedhooccpniaa.Hand
