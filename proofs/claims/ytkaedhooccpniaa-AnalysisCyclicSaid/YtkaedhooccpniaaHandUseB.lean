import Derived.Test.YtkaedhooccpniaaHandUse
import Derived.Test.YtkaedhooccpniaaPAx13
/- The reference's Cyclic, in one form. -/
namespace Go.Proofs.Ytkaedhooccpniaa.Hand
open Go.RowKit Go.Proofs.YtkaedhooccpniaaW.PrintWords Go.Proofs.YtkaedhooccpniaaW.PrintLast Go.Proofs.YtkaedhooccpniaaW.PrintMore Go.Proofs.Ytkaedhooccpniaa.PA
set_option linter.unusedVariables false
set_option linter.unusedSimpArgs false
section
variable {A0 : Option Addr} {c0 : Nat} {l0 : List ByteArray} {A1 : Option Addr} {c1 : Nat} {l1 : List ByteArray} {A3 : Option Addr} {c3 : Nat} {rules : List S41} {W W' : World} {st : Int}
theorem use20 (h : GA A0 c0 l0 A1 c1 l1 A3 c3 rules W) {bs : List Bool} (hn : bs.length = l1.length) (hf : ∃ k, emendateref21_Cyclic.f k l0 l1 st rules = some bs) : Calls Try.prog 20 #[.agg #[.slice A0 l0.length c0, .slice A1 l1.length c1, .int .i64 st, .slice A3 rules.length c3]] W (RetB l1.length bs W) := by
  obtain ⟨k, hf⟩ := hf
  exact (emendateref21_Cyclic.calls k A0 c0 l0 A1 c1 l1 st A3 c3 rules bs W h.r0 h.k0 h.r1 h.k1 h.r3 h.k3 hf).mono fun e w' h => retB hn h
end
end Go.Proofs.Ytkaedhooccpniaa.Hand
