import Derived.Test.YtkaedhooccpniaaHandLaw4
import Derived.Test.YtkaedhooccpniaaOpensT
/- The law AnalysisFirstAndFollow: its contract, in the form that the row asks for. -/
namespace Go.Proofs.Ytkaedhooccpniaa.PA
open Go.RowKit Go.Proofs.YtkaedhooccpniaaW.PrintWords Go.Proofs.Ytkaedhooccpniaa.Hand
set_option linter.unusedVariables false
def emendatelaw21_AnalysisFirstAndFollow.f (l0_0 l0_1 : List ByteArray) (a0_2 : Int) (l0_3 : List S41) : Option Bool := some true
theorem emendatelaw21_AnalysisFirstAndFollow.calls (A0_0 : Option Addr) (c0_0 : Nat) (l0_0 : List ByteArray) (A0_1 : Option Addr) (c0_1 : Nat) (l0_1 : List ByteArray) (a0_2 : Int) (A0_3 : Option Addr) (c0_3 : Nat) (l0_3 : List S41) (r : Bool) (w : World)
    (hr0_0 : Kd.C Kd.string w A0_0 l0_0.length l0_0) (hc0_0 : l0_0.length ≤ c0_0) (hr0_1 : Kd.C Kd.string w A0_1 l0_1.length l0_1) (hc0_1 : l0_1.length ≤ c0_1) (hr0_3 : Kd.C k41 w A0_3 l0_3.length l0_3) (hc0_3 : l0_3.length ≤ c0_3) (h : emendatelaw21_AnalysisFirstAndFollow.f l0_0 l0_1 a0_2 l0_3 = some r) :
    Calls Try.prog 6 #[.agg #[.slice A0_0 l0_0.length c0_0, .slice A0_1 l0_1.length c0_1, .int .i64 a0_2, .slice A0_3 l0_3.length c0_3]] w fun e w' => e = .returned (.bool r) ∧ Below w.heap.size w w' := by
  obtain rfl : true = r := Option.some.inj h
  exact lawFF_calls A0_0 c0_0 l0_0 A0_1 c0_1 l0_1 a0_2 A0_3 c0_3 l0_3 w ⟨hr0_0, hc0_0, hr0_1, hc0_1, hr0_3, hc0_3⟩
end Go.Proofs.Ytkaedhooccpniaa.PA
namespace Go.Proofs.Ytkaedhooccpniaa.Pure
open Go.RowKit Go.Proofs.YtkaedhooccpniaaW.PrintWords Go.Proofs.Ytkaedhooccpniaa.PA
set_option linter.unusedVariables false
theorem AnalysisFirstAndFollow (l0_0 : List (ByteArray)) (l0_1 : List (ByteArray)) (a0_2 : Int) (l0_3 : List (S41)) (g0_0 : (l0_0.length ≤ maxLen ∧ ∀ x ∈ l0_0, x.size ≤ maxLen)) (g0_1 : (l0_1.length ≤ maxLen ∧ ∀ x ∈ l0_1, x.size ≤ maxLen)) (g0_2 : (Lit.int .i64 a0_2).wf = true) (g0_3 : (l0_3.length ≤ maxLen ∧ ∀ x ∈ l0_3, good41 x)) : emendatelaw21_AnalysisFirstAndFollow.f l0_0 l0_1 a0_2 l0_3 = some true := rfl
end Go.Proofs.Ytkaedhooccpniaa.Pure
