import Derived.Test.YtcigcacjjdpgfaaOpens
import Derived.Test.YtcigcacjjdpgfaaPAx0
/- The struct types of this place, opened. -/
namespace Go.Proofs.Ytcigcacjjdpgfaa.PA
open Go.RowKit Go.Proofs.YtcigcacjjdpgfaaW.PrintWords Go.Proofs.YtcigcacjjdpgfaaW.Opening
set_option linter.unusedVariables false
def good51 (x : S51) : Prop := (Lit.int .i64 x.f0).wf = true ∧ (x.f1.length ≤ maxLen ∧ ∀ y ∈ x.f1, (Lit.int .i64 y).wf = true) ∧ (Lit.int .i64 x.f2).wf = true
theorem opens51 {H : Type} {enc : TypeId × Value → H} {w : World} {base : Nat} {spare : Nat → Bool} {held : Bool} : Opens enc Try.prog w base spare held 51 k51 good51 :=
  Opens.struct3 Try.underlying51 (by kernel_rfl) ⟨(by kernel_rfl), (by kernel_rfl), (by kernel_rfl)⟩ ⟨(by kernel_rfl), (by kernel_rfl), (by kernel_rfl)⟩ S51.mk _ (fun _ _ _ => rfl) (Opens.int Try.underlying3) (Opens.slice (e' := 3) Try.underlying23 (by kernel_rfl) (Opens.int Try.underlying3)) (Opens.int Try.underlying3)
def good53 (x : S53) : Prop := (Lit.int .i64 x.f0).wf = true ∧ (Lit.int .i64 x.f1).wf = true
theorem opens53 {H : Type} {enc : TypeId × Value → H} {w : World} {base : Nat} {spare : Nat → Bool} {held : Bool} : Opens enc Try.prog w base spare held 53 k53 good53 :=
  Opens.struct2 Try.underlying53 (by kernel_rfl) ⟨(by kernel_rfl), (by kernel_rfl)⟩ ⟨(by kernel_rfl), (by kernel_rfl)⟩ S53.mk _ (fun _ _ => rfl) (Opens.int Try.underlying3) (Opens.int Try.underlying3)
end Go.Proofs.Ytcigcacjjdpgfaa.PA
