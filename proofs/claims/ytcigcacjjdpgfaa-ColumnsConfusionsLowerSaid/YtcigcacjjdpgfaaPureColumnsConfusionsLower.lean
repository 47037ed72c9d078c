import Derived.Test.YtcigcacjjdpgfaaHandLawLower
import Derived.Test.YtcigcacjjdpgfaaOpensT
/- The law ColumnsConfusionsLower: its contract, in the form that the row asks for. -/
namespace Go.Proofs.Ytcigcacjjdpgfaa.PA
open Go.RowKit Go.Proofs.YtcigcacjjdpgfaaW.PrintWords Go.Proofs.Ytcigcacjjdpgfaa.Hand
set_option linter.unusedVariables false
def emendatelaw35_ColumnsConfusionsLower.f (l0_0 : List Int) (l0_1 : List (List S53)) (l1_0 l1_1 : List Int) (l1_2 : List (List Int)) (a1_3 a1_4 : Int) : Option Bool := some true
theorem emendatelaw35_ColumnsConfusionsLower.calls (A0_0 : Option Addr) (c0_0 : Nat) (l0_0 : List Int) (A0_1 : Option Addr) (c0_1 : Nat) (l0_1 : List (List S53)) (A1_0 : Option Addr) (c1_0 : Nat) (l1_0 : List Int) (A1_1 : Option Addr) (c1_1 : Nat) (l1_1 : List Int) (A1_2 : Option Addr) (c1_2 : Nat) (l1_2 : List (List Int)) (a1_3 a1_4 : Int) (r : Bool) (w : World)
    (hr0_0 : Kd.C (Kd.int .i64) w A0_0 l0_0.length l0_0) (hc0_0 : l0_0.length ≤ c0_0) (hr0_1 : Kd.C (Kd.slice 53 k53) w A0_1 l0_1.length l0_1) (hc0_1 : l0_1.length ≤ c0_1)
    (hr1_0 : Kd.C (Kd.int .i64) w A1_0 l1_0.length l1_0) (hc1_0 : l1_0.length ≤ c1_0) (hr1_1 : Kd.C (Kd.int .i64) w A1_1 l1_1.length l1_1) (hc1_1 : l1_1.length ≤ c1_1) (hr1_2 : Kd.C (Kd.slice 3 (Kd.int .i64)) w A1_2 l1_2.length l1_2) (hc1_2 : l1_2.length ≤ c1_2)
    (h : emendatelaw35_ColumnsConfusionsLower.f l0_0 l0_1 l1_0 l1_1 l1_2 a1_3 a1_4 = some r) :
    Calls Try.prog 8 #[.agg #[.slice A0_0 l0_0.length c0_0, .slice A0_1 l0_1.length c0_1], .agg #[.slice A1_0 l1_0.length c1_0, .slice A1_1 l1_1.length c1_1, .slice A1_2 l1_2.length c1_2, .int .i64 a1_3, .int .i64 a1_4]] w fun e w' => e = .returned (.bool r) ∧ Below w.heap.size w w' := by
  obtain rfl : true = r := Option.some.inj h
  exact lawLower_calls A0_0 c0_0 l0_0 A0_1 c0_1 l0_1 A1_0 A1_1 A1_2 c1_0 c1_1 c1_2 l1_0 l1_1 l1_2 a1_3 a1_4 w hr0_0 hc0_0 hr0_1 hc0_1 hr1_0 hc1_0 hr1_1 hc1_1 hr1_2 hc1_2
end Go.Proofs.Ytcigcacjjdpgfaa.PA
namespace Go.Proofs.Ytcigcacjjdpgfaa.Pure
open Go.RowKit Go.Proofs.YtcigcacjjdpgfaaW.PrintWords Go.Proofs.Ytcigcacjjdpgfaa.PA
set_option linter.unusedVariables false
theorem ColumnsConfusionsLower (l0_0 : List (Int)) (l0_1 : List (List (S53))) (l1_0 : List (Int)) (l1_1 : List (Int)) (l1_2 : List (List (Int))) (a1_3 : Int) (a1_4 : Int) (g0_0 : (l0_0.length ≤ maxLen ∧ ∀ x ∈ l0_0, (Lit.int .i64 x).wf = true)) (g0_1 : (l0_1.length ≤ maxLen ∧ ∀ x ∈ l0_1, (x.length ≤ maxLen ∧ ∀ y ∈ x, good53 y))) (g1_0 : (l1_0.length ≤ maxLen ∧ ∀ x ∈ l1_0, (Lit.int .i64 x).wf = true)) (g1_1 : (l1_1.length ≤ maxLen ∧ ∀ x ∈ l1_1, (Lit.int .i64 x).wf = true)) (g1_2 : (l1_2.length ≤ maxLen ∧ ∀ x ∈ l1_2, (x.length ≤ maxLen ∧ ∀ y ∈ x, (Lit.int .i64 y).wf = true))) (g1_3 : (Lit.int .i64 a1_3).wf = true) (g1_4 : (Lit.int .i64 a1_4).wf = true) : emendatelaw35_ColumnsConfusionsLower.f l0_0 l0_1 l1_0 l1_1 l1_2 a1_3 a1_4 = some true := rfl
end Go.Proofs.Ytcigcacjjdpgfaa.Pure
