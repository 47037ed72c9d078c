import Derived.Test.YtkaedhooccpniaaHandUse
import Derived.Test.YtkaedhooccpniaaPAx16
import Derived.Test.YtkaedhooccpniaaPAx17
/- The reference's First and Follow, in one form. -/
namespace Go.Proofs.Ytkaedhooccpniaa.Hand
open Go.RowKit Go.Proofs.YtkaedhooccpniaaW.PrintWords Go.Proofs.YtkaedhooccpniaaW.PrintLast Go.Proofs.YtkaedhooccpniaaW.PrintMore Go.Proofs.Ytkaedhooccpniaa.PA
set_option linter.unusedVariables false
set_option linter.unusedSimpArgs false
section
variable {A0 : Option Addr} {c0 : Nat} {l0 : List ByteArray} {A1 : Option Addr} {c1 : Nat} {l1 : List ByteArray} {A3 : Option Addr} {c3 : Nat} {rules : List S41} {W W' : World} {st : Int}
theorem use23 (h : GA A0 c0 l0 A1 c1 l1 A3 c3 rules W) {ls : List (List Int)} (hn : ls.length = l1.length) (hf : ∃ k, emendateref21_First.f k l0 l1 st rules = some ls) : Calls Try.prog 23 #[.agg #[.slice A0 l0.length c0, .slice A1 l1.length c1, .int .i64 st, .slice A3 rules.length c3]] W (RetL l1.length ls W) := by
  obtain ⟨k, hf⟩ := hf
  exact (emendateref21_First.calls k A0 c0 l0 A1 c1 l1 st A3 c3 rules ls W h.r0 h.k0 h.r1 h.k1 h.r3 h.k3 hf).mono fun e w' ⟨v, he, hS, hb⟩ => retL hn ⟨v, he, Kd.S_reads hS, hb⟩
theorem use25 (h : GA A0 c0 l0 A1 c1 l1 A3 c3 rules W) {ls : List (List Int)} (hn : ls.length = l1.length) (hf : ∃ k, emendateref21_Follow.f k l0 l1 st rules = some ls) : Calls Try.prog 25 #[.agg #[.slice A0 l0.length c0, .slice A1 l1.length c1, .int .i64 st, .slice A3 rules.length c3]] W (RetL l1.length ls W) := by
  obtain ⟨k, hf⟩ := hf
  exact (emendateref21_Follow.calls k A0 c0 l0 A1 c1 l1 st A3 c3 rules ls W h.r0 h.k0 h.r1 h.k1 h.r3 h.k3 hf).mono fun e w' ⟨v, he, hS, hb⟩ => retL hn ⟨v, he, Kd.S_reads hS, hb⟩
end
end Go.Proofs.Ytkaedhooccpniaa.Hand
