import Derived.Test.YtkaedhooccpniaaPAx8
/- The reference's all over a part of a list: the part's length as the walk writes it. -/
namespace Go.Proofs.Ytkaedhooccpniaa.PA
open Go.RowKit Go.Proofs.YtkaedhooccpniaaW.PrintWords Go.Proofs.YtkaedhooccpniaaW.PrintLast Go.Proofs.YtkaedhooccpniaaW.PrintMore
set_option linter.unusedVariables false
theorem len_take_n (xs : List Int) (j : Int) (h0 : 0 ≤ j) (hm : j ≤ xs.length) : j.toNat = (xs.take j.toNat).length := by rw [List.length_take]; omega
theorem len_drop_n (xs : List Int) (j : Int) (h0 : 0 ≤ j) (hm : j ≤ xs.length) : xs.length - j.toNat = (xs.drop j.toNat).length := by rw [List.length_drop]
theorem len_mid_n (xs : List Int) (a b : Int) (h0 : 0 ≤ a) (h1 : a ≤ b) (hm : b ≤ xs.length) : b.toNat - a.toNat = ((xs.take b.toNat).drop a.toNat).length := by rw [List.length_drop, List.length_take]; omega
theorem emendateref21_all.callsN (k : Nat) (A0 : Option Addr) (c0 : Nat) (l0 : List Int) {n : Nat} (hn : n = l0.length) (A1 : Option Addr) (c1 : Nat) (l1 : List Bool) (a2 : Bool) (r : Bool) (w : World) (hr0 : Kd.C (Kd.int .i64) w A0 l0.length l0) (hc0 : l0.length ≤ c0) (hr1 : Kd.C Kd.bool w A1 l1.length l1) (hc1 : l1.length ≤ c1) (h : emendateref21_all.f k l0 l1 a2 = some r) :
    Calls Try.prog 40 #[.slice A0 n c0, .slice A1 l1.length c1, .bool a2] w fun e w' => e = .returned (.bool r) ∧ Drawn0 w w' := by
  subst hn
  exact emendateref21_all.calls k A0 c0 l0 A1 c1 l1 a2 r w hr0 hc0 hr1 hc1 h
end Go.Proofs.Ytkaedhooccpniaa.PA
