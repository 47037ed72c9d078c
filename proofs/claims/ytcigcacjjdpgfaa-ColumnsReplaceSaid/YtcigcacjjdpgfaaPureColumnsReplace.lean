import Derived.Test.YtcigcacjjdpgfaaHandLawReplace
import Derived.Test.YtcigcacjjdpgfaaOpensT
/- The law ColumnsReplace: its contract, in the form that the row asks for. -/
namespace Go.Proofs.Ytcigcacjjdpgfaa.PA
open Go.RowKit Go.Proofs.YtcigcacjjdpgfaaW.PrintWords Go.Proofs.Ytcigcacjjdpgfaa.Hand
set_option linter.unusedVariables false
def emendatelaw35_ColumnsReplace.f (l0_0 : List S51) (l0_1 : List Int) (a0_2 a1_0 a1_1 a1_2 : Int) (l2 : List S51) : Option Bool := some true
theorem emendatelaw35_ColumnsReplace.calls (A0_0 : Option Addr) (c0_0 : Nat) (l0_0 : List S51) (A0_1 : Option Addr) (c0_1 : Nat) (l0_1 : List Int) (a0_2 a1_0 a1_1 a1_2 : Int) (A2 : Option Addr) (c2 : Nat) (l2 : List S51) (r : Bool) (w : World)
    (hr0_0 : Kd.C k51 w A0_0 l0_0.length l0_0) (hc0_0 : l0_0.length ≤ c0_0) (hr0_1 : Kd.C (Kd.int .i64) w A0_1 l0_1.length l0_1) (hc0_1 : l0_1.length ≤ c0_1) (hr2 : Kd.C k51 w A2 l2.length l2) (hc2 : l2.length ≤ c2)
    (h : emendatelaw35_ColumnsReplace.f l0_0 l0_1 a0_2 a1_0 a1_1 a1_2 l2 = some r) :
    Calls Try.prog 6 #[.agg #[.slice A0_0 l0_0.length c0_0, .slice A0_1 l0_1.length c0_1, .int .i64 a0_2], .agg #[.int .i64 a1_0, .int .i64 a1_1, .int .i64 a1_2], .slice A2 l2.length c2] w fun e w' => e = .returned (.bool r) ∧ Below w.heap.size w w' := by
  obtain rfl : true = r := Option.some.inj h
  exact lawReplace_calls A0_0 c0_0 l0_0 A0_1 c0_1 l0_1 a0_2 a1_0 a1_1 a1_2 A2 c2 l2 w hr0_0 hc0_0 hr0_1 hc0_1 hr2 hc2
end Go.Proofs.Ytcigcacjjdpgfaa.PA
namespace Go.Proofs.Ytcigcacjjdpgfaa.Pure
open Go.RowKit Go.Proofs.YtcigcacjjdpgfaaW.PrintWords Go.Proofs.Ytcigcacjjdpgfaa.PA
set_option linter.unusedVariables false
theorem ColumnsReplace (l0_0 : List (S51)) (l0_1 : List (Int)) (a0_2 : Int) (a1_0 : Int) (a1_1 : Int) (a1_2 : Int) (l2 : List (S51)) (g0_0 : (l0_0.length ≤ maxLen ∧ ∀ x ∈ l0_0, good51 x)) (g0_1 : (l0_1.length ≤ maxLen ∧ ∀ x ∈ l0_1, (Lit.int .i64 x).wf = true)) (g0_2 : (Lit.int .i64 a0_2).wf = true) (g1_0 : (Lit.int .i64 a1_0).wf = true) (g1_1 : (Lit.int .i64 a1_1).wf = true) (g1_2 : (Lit.int .i64 a1_2).wf = true) (g2 : (l2.length ≤ maxLen ∧ ∀ x ∈ l2, good51 x)) : emendatelaw35_ColumnsReplace.f l0_0 l0_1 a0_2 a1_0 a1_1 a1_2 l2 = some true := rfl
end Go.Proofs.Ytcigcacjjdpgfaa.Pure
