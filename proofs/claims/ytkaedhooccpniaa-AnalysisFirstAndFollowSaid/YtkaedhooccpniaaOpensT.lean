import Derived.Test.YtkaedhooccpniaaOpens
import Derived.Test.YtkaedhooccpniaaPAx0
/- The struct types of this place, opened. -/
namespace Go.Proofs.Ytkaedhooccpniaa.PA
open Go.RowKit Go.Proofs.YtkaedhooccpniaaW.PrintWords Go.Proofs.YtkaedhooccpniaaW.Opening
set_option linter.unusedVariables false
def good41 (x : S41) : Prop := (Lit.int .i64 x.f0).wf = true ∧ (x.f1.length ≤ maxLen ∧ ∀ y ∈ x.f1, (Lit.int .i64 y).wf = true) ∧ (Lit.int .i64 x.f2).wf = true
theorem opens41 {H : Type} {enc : TypeId × Value → H} {w : World} {base : Nat} {spare : Nat → Bool} {held : Bool} : Opens enc Try.prog w base spare held 41 k41 good41 :=
  Opens.struct3 Try.underlying41 (by kernel_rfl) ⟨(by kernel_rfl), (by kernel_rfl), (by kernel_rfl)⟩ ⟨(by kernel_rfl), (by kernel_rfl), (by kernel_rfl)⟩ S41.mk _ (fun _ _ _ => rfl) (Opens.int Try.underlying3) (Opens.slice (e' := 3) Try.underlying39 (by kernel_rfl) (Opens.int Try.underlying3)) (Opens.int Try.underlying3)
end Go.Proofs.Ytkaedhooccpniaa.PA
