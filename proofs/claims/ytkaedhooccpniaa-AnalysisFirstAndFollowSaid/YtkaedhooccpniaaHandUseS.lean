import Derived.Test.YtkaedhooccpniaaHandUse
import Derived.Test.YtkaedhooccpniaaPAx7
import Derived.Test.YtkaedhooccpniaaPAx9
/- Small and the reference's Nullable, in one form. -/
namespace Go.Proofs.Ytkaedhooccpniaa.Hand
open Go.RowKit Go.Proofs.YtkaedhooccpniaaW.PrintWords Go.Proofs.YtkaedhooccpniaaW.PrintLast Go.Proofs.YtkaedhooccpniaaW.PrintMore Go.Proofs.Ytkaedhooccpniaa.PA
set_option linter.unusedVariables false
set_option linter.unusedSimpArgs false
section
variable {A0 : Option Addr} {c0 : Nat} {l0 : List ByteArray} {A1 : Option Addr} {c1 : Nat} {l1 : List ByteArray} {A3 : Option Addr} {c3 : Nat} {rules : List S41} {W W' : World} {st : Int}
theorem use11 (h : GA A0 c0 l0 A1 c1 l1 A3 c3 rules W) (b : Bool) (hf : ∃ k, emendateref18_Small.f k l0 l1 st rules = some b) : Calls Try.prog 11 #[.agg #[.slice A0 l0.length c0, .slice A1 l1.length c1, .int .i64 st, .slice A3 rules.length c3]] W fun e w' => e = .returned (.bool b) ∧ Below W.heap.size W w' := by
  obtain ⟨k, hf⟩ := hf
  exact emendateref18_Small.calls k A0 c0 l0 A1 c1 l1 st A3 c3 rules b W h.r0 h.k0 h.r1 h.k1 h.r3 h.k3 hf
end
end Go.Proofs.Ytkaedhooccpniaa.Hand
