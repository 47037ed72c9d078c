/- AnalysisFirstAndFollow: for every input the law returns true and leaves its arguments as they were. No condition. -/
import Derived.Test.YtkaedhooccpniaaRows
import Derived.Test.YtkaedhooccpniaaPureAnalysisFirstAndFollow
import Derived.Test.YtkaedhooccpniaaOpens
import Derived.Test.YtkaedhooccpniaaOpensT
import Derived.WalkKit
import Derived.ProofKit
import Derived.OpenShut
import Derived.ShutString
import Derived.ChangeOld
import Derived.Below
import Derived.SizedLaws
import Derived.Carry
namespace Go.Proofs.Ytkaedhooccpniaa.analysisFirstAndFollow
open Go.ChangeShapes Go.WideShapes Go.ChangeAt Go.RowKit Go.Joins Go.Deep Go.Proofs.Ytkaedhooccpniaa.PA Go.Proofs.YtkaedhooccpniaaW.PrintWords Go.Proofs.YtkaedhooccpniaaW.Opening
open Go.ChangeMaps (open_string shut_string)
set_option linter.unusedVariables false
set_option linter.unusedSimpArgs false
theorem own : ownKnob Try.prog.godebug = none := by kernel_rfl
theorem laidOut : laidOutB Try.prog = true := by kernel_rfl
set_option maxRecDepth 100000 in
theorem lifted (os : Os) (started : os.Started) (H : Type) (enc : TypeId × Value → H) :
    ReturnsInHanded {} Try.checked os 6 .any (Rows.analysisFirstAndFollowSpec.pre6 enc Try.prog Try.f6 Rows.analysisFirstAndFollowRow.domain false) (Rows.analysisFirstAndFollowSpec.post enc Try.prog Try.f6 false true false false) := by
  refine returnsInHanded_of_change_sized (C := Try.checked) own started (by kernel_rfl) Try.func6
    (ChangeSpec.witness6 (enc := enc) (C := Try.checked) false ⟨#[], #[.agg #[.slice none 0 0, .slice none 0 0, .int .i64 0, .slice none 0 0]], []⟩ 8 (by kernel_rfl) (by kernel_rfl) (by kernel_rfl) (by kernel_rfl)) ?_
  intro W base args ds gs before hval0 hW hcnd hsz0 _
  have hval : ∀ (j : Nat) t v, Try.f6.params[j]? = some t → args[j]? = some v → Value.okWide Try.prog W .any base t v := hval0
  have hW' := hW
  obtain ⟨p, q, hA0, hV, rfl, hfz, hnd⟩ := hW
  have hA : DataW.TrodAll enc Try.prog W 0 (fun _ => true) true Try.f6.params.toList args.toList ds p := hA0
  rw [Try.params6] at hA hval
  obtain ⟨v0, vs0, d0, ds0, p0, q0, hargs, rfl, rfl, h0, r0⟩ := trodAll_cons hA
  obtain ⟨rfl, rfl, rfl⟩ := trodAll_nil r0
  obtain rfl : args = #[v0] := by cases args; simp_all
  obtain ⟨rfl, rfl⟩ := trodVars_none hV
  have k0 := h0
  have lt0 : ∀ x ∈ p0, x.block < W.heap.size := by obtain ⟨m, hm⟩ := k0; exact DataW.trod_lt m _ _ _ hm
  obtain ⟨v0_0, v0_1, v0_2, v0_3, y0_0, y0_1, y0_2, y0_3, n0, rfl, _, _, t0_0, t0_1, t0_2, t0_3⟩ := open_agg4 Try.underlying25 (by kernel_rfl) (by kernel_rfl) (hval 0 25 v0 rfl rfl) h0
  obtain ⟨l0_0, ⟨A0_0, c0_0, e0_0, hc0_0, hr0_0⟩, g0_0⟩ := (Opens.slice (e' := 9) Try.underlying22 (by kernel_rfl) (Opens.string Try.underlying9)) _ _ _ t0_0
  obtain rfl : v0_0 = .slice A0_0 l0_0.length c0_0 := List.head_eq_of_cons_eq e0_0
  obtain ⟨l0_1, ⟨A0_1, c0_1, e0_1, hc0_1, hr0_1⟩, g0_1⟩ := (Opens.slice (e' := 9) Try.underlying22 (by kernel_rfl) (Opens.string Try.underlying9)) _ _ _ t0_1
  obtain rfl : v0_1 = .slice A0_1 l0_1.length c0_1 := List.head_eq_of_cons_eq e0_1
  obtain ⟨a0_2, e0_2, g0_2⟩ := (Opens.int Try.underlying3) _ _ _ t0_2
  obtain rfl : v0_2 = .int .i64 a0_2 := List.head_eq_of_cons_eq e0_2
  obtain ⟨l0_3, ⟨A0_3, c0_3, e0_3, hc0_3, hr0_3⟩, g0_3⟩ := (Opens.slice (e' := 41) Try.underlying23 (by kernel_rfl) opens41) _ _ _ t0_3
  obtain rfl : v0_3 = .slice A0_3 l0_3.length c0_3 := List.head_eq_of_cons_eq e0_3
  clear hA0 hval0 hsz0
  have hp := Pure.AnalysisFirstAndFollow l0_0 l0_1 a0_2 l0_3 g0_0 g0_1 g0_2 g0_3
  refine (emendatelaw21_AnalysisFirstAndFollow.calls A0_0 c0_0 l0_0 A0_1 c0_1 l0_1 a0_2 A0_3 c0_3 l0_3 true W hr0_0 hc0_0 hr0_1 hc0_1 hr0_3 hc0_3 hp).mono fun e W' ⟨he, bel⟩ => ?_
  subst he
  exact ⟨_, rfl, _, _, _, [], _, [], hW', trodAll_mk1 (shut_bool Try.underlying4 _), (trodAll_cons_mk (Below.trod laidOut (by kernel_rfl) (of_decide_eq_true (by kernel_rfl)) k0 bel lt0) trodAll_mk0), rfl, bel.frame _, fun h => by cases h⟩
theorem over : Rows.analysisFirstAndFollowRow.holds Try.pinned (OpenSpec.ofChange Rows.analysisFirstAndFollowSpec) :=
  OpenClaim.holds_of_wide 6 Try.f6 rfl rfl rfl rfl rfl rfl rfl ⟨rfl, rfl, rfl, rfl, rfl⟩ rfl rfl rfl rfl rfl (by kernel_rfl) Try.func6 (by kernel_rfl)
    (of_decide_eq_true (by kernel_rfl)) (by unfold Func.isWrapper; first | (rw [if_pos (by decide +kernel)]; kernel_rfl) | (rw [if_neg (by decide +kernel)]; exact ⟨rfl, rfl⟩))
    (fun os started H enc _ => lifted os started H enc)
theorem proved : Rows.AnalysisFirstAndFollowSaid := over
#print axioms proved
end Go.Proofs.Ytkaedhooccpniaa.analysisFirstAndFollow
namespace Go.Proofs.Ytkaedhooccpniaa
/-- The row, under a short name, for the claim. -/
theorem analysisFirstAndFollow_holds : Rows.AnalysisFirstAndFollowSaid := analysisFirstAndFollow.proved
end Go.Proofs.Ytkaedhooccpniaa
