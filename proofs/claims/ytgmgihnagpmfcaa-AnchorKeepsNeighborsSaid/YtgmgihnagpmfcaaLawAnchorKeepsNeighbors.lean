/- AnchorKeepsNeighbors: for every input the law returns true and leaves its arguments as they were. No condition. -/
import Derived.Test.YtgmgihnagpmfcaaRows
import Derived.Test.YtgmgihnagpmfcaaHandKeeps
import Derived.Test.YtgmgihnagpmfcaaOpens
import Derived.WalkKit
import Derived.ProofKit
import Derived.OpenShut
import Derived.ShutString
import Derived.ChangeOld
import Derived.Below
import Derived.SizedLaws
import Derived.Carry
namespace Go.Proofs.Ytgmgihnagpmfcaa.anchorKeepsNeighbors
open Go.ChangeShapes Go.WideShapes Go.ChangeAt Go.RowKit Go.Joins Go.Deep Go.Proofs.Ytgmgihnagpmfcaa.PA Go.Proofs.YtgmgihnagpmfcaaW.PrintWords Go.Proofs.YtgmgihnagpmfcaaW.Opening
open Go.ChangeMaps (open_string shut_string)
set_option linter.unusedVariables false
set_option linter.unusedSimpArgs false
theorem own : ownKnob Try.prog.godebug = none := by kernel_rfl
theorem laidOut : laidOutB Try.prog = true := by kernel_rfl
set_option maxRecDepth 100000 in
theorem lifted (os : Os) (started : os.Started) (H : Type) (enc : TypeId × Value → H) :
    ReturnsInHanded {} Try.checked os 5 .any (Rows.anchorKeepsNeighborsSpec.pre6 enc Try.prog Try.f5 Rows.anchorKeepsNeighborsRow.domain false) (Rows.anchorKeepsNeighborsSpec.post enc Try.prog Try.f5 false true false false) := by
  refine returnsInHanded_of_change_sized (C := Try.checked) own started (by kernel_rfl) Try.func5
    (ChangeSpec.witness6 (enc := enc) (C := Try.checked) false ⟨#[], #[.string ByteArray.empty, .agg #[.int .i64 0, .bool false], .agg #[.int .i64 0, .int .i64 0, .string ByteArray.empty]], []⟩ 8 (by kernel_rfl) (by kernel_rfl) (by kernel_rfl) (by kernel_rfl)) ?_
  intro W base args ds gs before hval0 hW hcnd hsz0 _
  have hval : ∀ (j : Nat) t v, Try.f5.params[j]? = some t → args[j]? = some v → Value.okWide Try.prog W .any base t v := hval0
  have hW' := hW
  obtain ⟨p, q, hA0, hV, rfl, hfz, hnd⟩ := hW
  have hA : DataW.TrodAll enc Try.prog W 0 (fun _ => true) true Try.f5.params.toList args.toList ds p := hA0
  rw [Try.params5] at hA hval
  obtain ⟨v0, vs0, d0, ds0, p0, q0, hargs, rfl, rfl, h0, r0⟩ := trodAll_cons hA
  obtain ⟨v1, vs1, d1, ds1, p1, q1, rfl, rfl, rfl, h1, r1⟩ := trodAll_cons r0
  obtain ⟨v2, vs2, d2, ds2, p2, q2, rfl, rfl, rfl, h2, r2⟩ := trodAll_cons r1
  obtain ⟨rfl, rfl, rfl⟩ := trodAll_nil r2
  obtain rfl : args = #[v0, v1, v2] := by cases args; simp_all
  obtain ⟨rfl, rfl⟩ := trodVars_none hV
  have k0 := h0
  have lt0 : ∀ x ∈ p0, x.block < W.heap.size := by obtain ⟨m, hm⟩ := k0; exact DataW.trod_lt m _ _ _ hm
  obtain ⟨a0, rfl, rfl, rfl, g0⟩ := open_string Try.underlying9 (hval 0 9 v0 rfl rfl) h0
  have k1 := h1
  have lt1 : ∀ x ∈ p1, x.block < W.heap.size := by obtain ⟨m, hm⟩ := k1; exact DataW.trod_lt m _ _ _ hm
  obtain ⟨v1_0, v1_1, y1_0, y1_1, n1, rfl, _, _, t1_0, t1_1⟩ := open_agg2 Try.underlying23 (by kernel_rfl) (by kernel_rfl) (hval 1 23 v1 rfl rfl) h1
  obtain ⟨a1_0, e1_0, g1_0⟩ := (Opens.int Try.underlying3) _ _ _ t1_0
  obtain rfl : v1_0 = .int .i64 a1_0 := List.head_eq_of_cons_eq e1_0
  obtain ⟨a1_1, e1_1, g1_1⟩ := (Opens.bool Try.underlying4) _ _ _ t1_1
  obtain rfl : v1_1 = .bool a1_1 := List.head_eq_of_cons_eq e1_1
  have k2 := h2
  have lt2 : ∀ x ∈ p2, x.block < W.heap.size := by obtain ⟨m, hm⟩ := k2; exact DataW.trod_lt m _ _ _ hm
  obtain ⟨v2_0, v2_1, v2_2, y2_0, y2_1, y2_2, n2, rfl, _, _, t2_0, t2_1, t2_2⟩ := open_agg3 Try.underlying25 (by kernel_rfl) (by kernel_rfl) (hval 2 25 v2 rfl rfl) h2
  obtain ⟨a2_0, e2_0, g2_0⟩ := (Opens.int Try.underlying3) _ _ _ t2_0
  obtain rfl : v2_0 = .int .i64 a2_0 := List.head_eq_of_cons_eq e2_0
  obtain ⟨a2_1, e2_1, g2_1⟩ := (Opens.int Try.underlying3) _ _ _ t2_1
  obtain rfl : v2_1 = .int .i64 a2_1 := List.head_eq_of_cons_eq e2_1
  obtain ⟨a2_2, e2_2, g2_2⟩ := (Opens.string Try.underlying9) _ _ _ t2_2
  obtain rfl : v2_2 = .string a2_2 := List.head_eq_of_cons_eq e2_2
  clear hA0 hval0 hsz0
  refine (PA.keeps_all a0 a1_0 a1_1 a2_0 a2_1 a2_2 W).mono fun e W' ⟨he, bel⟩ => ?_
  subst he
  exact ⟨_, rfl, _, _, _, [], _, [], hW', trodAll_mk1 (shut_bool Try.underlying4 _), (trodAll_cons_mk (Below.trod laidOut (by kernel_rfl) (of_decide_eq_true (by kernel_rfl)) k0 bel lt0) (trodAll_cons_mk (Below.trod laidOut (by kernel_rfl) (of_decide_eq_true (by kernel_rfl)) k1 bel lt1) (trodAll_cons_mk (Below.trod laidOut (by kernel_rfl) (of_decide_eq_true (by kernel_rfl)) k2 bel lt2) trodAll_mk0))), rfl, bel.frame _, fun h => by cases h⟩
theorem over : Rows.anchorKeepsNeighborsRow.holds Try.pinned (OpenSpec.ofChange Rows.anchorKeepsNeighborsSpec) :=
  OpenClaim.holds_of_wide 5 Try.f5 rfl rfl rfl rfl rfl rfl rfl ⟨rfl, rfl, rfl, rfl, rfl⟩ rfl rfl rfl rfl rfl (by kernel_rfl) Try.func5 (by kernel_rfl)
    (of_decide_eq_true (by kernel_rfl)) (by unfold Func.isWrapper; first | (rw [if_pos (by decide +kernel)]; kernel_rfl) | (rw [if_neg (by decide +kernel)]; exact ⟨rfl, rfl⟩))
    (fun os started H enc _ => lifted os started H enc)
theorem proved : Rows.AnchorKeepsNeighborsSaid := over
#print axioms proved
end Go.Proofs.Ytgmgihnagpmfcaa.anchorKeepsNeighbors
namespace Go.Proofs.Ytgmgihnagpmfcaa
/-- The row, under a short name, for the claim. -/
theorem anchorKeepsNeighbors_holds : Rows.AnchorKeepsNeighborsSaid := anchorKeepsNeighbors.proved
end Go.Proofs.Ytgmgihnagpmfcaa
