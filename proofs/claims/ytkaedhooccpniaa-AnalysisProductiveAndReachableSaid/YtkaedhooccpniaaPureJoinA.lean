import Derived.Test.YtkaedhooccpniaaPureJoin
import Derived.Test.YtkaedhooccpniaaPureRReach
import Derived.Test.YtkaedhooccpniaaPAx10
/- The reference's Productive and Reachable over a moderate grammar. Plain Lean. -/
namespace Go.Proofs.Ytkaedhooccpniaa.Hand
open Go.RowKit Go.Proofs.YtkaedhooccpniaaW.PrintWords Go.Proofs.YtkaedhooccpniaaW.PrintLast Go.Proofs.YtkaedhooccpniaaW.PrintMore Go.Proofs.Ytkaedhooccpniaa.PA
set_option linter.unusedVariables false
set_option linter.unusedSimpArgs false
section
variable {l0 l1 : List ByteArray} {st : Int} {rules : List S41}
theorem rprod_ev (hg : GV l0.length l1.length st rules) {bs : List Bool} (h : HdL true l1.length rules bs) : Ev (fun k => emendateref21_Productive.f k l0 l1 st rules) bs := by
  obtain ⟨r, h1, h2⟩ := fix_pure (tm := true) l0 l1 rfl hg
  rw [h.ext h2]
  exact Ev.bind h1 (Ev.const r)
theorem rreach_ev (hg : GV l0.length l1.length st rules) {bs : List Bool} (h : RcL l1.length st rules bs) : Ev (fun k => emendateref21_Reachable.f k l0 l1 st rules) bs := by
  obtain ⟨r, h1, h2⟩ := rreach_pure l0 l1 rfl hg
  rw [h.ext h2]
  exact h1
end
end Go.Proofs.Ytkaedhooccpniaa.Hand
