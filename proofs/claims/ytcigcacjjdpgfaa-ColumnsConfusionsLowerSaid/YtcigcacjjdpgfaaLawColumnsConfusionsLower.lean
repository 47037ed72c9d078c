/- ColumnsConfusionsLower: for every input the law returns true and leaves its arguments as they were. No condition. -/
import Derived.Test.YtcigcacjjdpgfaaRows
import Derived.Test.YtcigcacjjdpgfaaHandLawLower
import Derived.Test.YtcigcacjjdpgfaaOpens
import Derived.Test.YtcigcacjjdpgfaaOpensT
import Derived.Test.YtcigcacjjdpgfaaPureColumnsConfusionsLower
import Derived.WalkKit
import Derived.ProofKit
import Derived.OpenShut
import Derived.ShutString
import Derived.ChangeOld
import Derived.Below
import Derived.SizedLaws
import Derived.Carry
import Derived.Test.YtcigcacjjdpgfaaAgg5
namespace Go.Proofs.Ytcigcacjjdpgfaa.columnsConfusionsLower
open Go.ChangeShapes Go.WideShapes Go.ChangeAt Go.RowKit Go.Joins Go.Deep Go.Proofs.Ytcigcacjjdpgfaa.PA Go.Proofs.YtcigcacjjdpgfaaW.PrintWords Go.Proofs.YtcigcacjjdpgfaaW.Opening
open Go.ChangeMaps (open_string shut_string)
set_option linter.unusedVariables false
set_option linter.unusedSimpArgs false
theorem own : ownKnob Try.prog.godebug = none := by kernel_rfl
theorem laidOut : laidOutB Try.prog = true := by kernel_rfl
set_option maxRecDepth 100000 in
theorem lifted (os : Os) (started : os.Started) (H : Type) (enc : TypeId × Value → H) :
    ReturnsInHanded {} Try.checked os 8 .any (Rows.columnsConfusionsLowerSpec.pre6 enc Try.prog Try.f8 Rows.columnsConfusionsLowerRow.domain false) (Rows.columnsConfusionsLowerSpec.post enc Try.prog Try.f8 false true false false) := by
  refine returnsInHanded_of_change_sized (C := Try.checked) own started (by kernel_rfl) Try.func8
    (ChangeSpec.witness6 (enc := enc) (C := Try.checked) false ⟨#[], #[.agg #[.slice none 0 0, .slice none 0 0], .agg #[.slice none 0 0, .slice none 0 0, .slice none 0 0, .int .i64 0, .int .i64 0]], []⟩ 8 (by kernel_rfl) (by kernel_rfl) (by kernel_rfl) (by kernel_rfl)) ?_
  intro W base args ds gs before hval0 hW hcnd hsz0 _
  have hval : ∀ (j : Nat) t v, Try.f8.params[j]? = some t → args[j]? = some v → Value.okWide Try.prog W .any base t v := hval0
  have hW' := hW
  obtain ⟨p, q, hA0, hV, rfl, hfz, hnd⟩ := hW
  have hA : DataW.TrodAll enc Try.prog W 0 (fun _ => true) true Try.f8.params.toList args.toList ds p := hA0
  rw [Try.params8] at hA hval
  obtain ⟨v0, vs0, d0, ds0, p0, q0, hargs, rfl, rfl, h0, r0⟩ := trodAll_cons hA
  obtain ⟨v1, vs1, d1, ds1, p1, q1, rfl, rfl, rfl, h1, r1⟩ := trodAll_cons r0
  obtain ⟨rfl, rfl, rfl⟩ := trodAll_nil r1
  obtain rfl : args = #[v0, v1] := by cases args; simp_all
  obtain ⟨rfl, rfl⟩ := trodVars_none hV
  have k0 := h0
  have lt0 : ∀ x ∈ p0, x.block < W.heap.size := by obtain ⟨m, hm⟩ := k0; exact DataW.trod_lt m _ _ _ hm
  obtain ⟨v0_0, v0_1, y0_0, y0_1, n0, rfl, _, _, t0_0, t0_1⟩ := open_agg2 Try.underlying31 (by kernel_rfl) (by kernel_rfl) (hval 0 31 v0 rfl rfl) h0
  obtain ⟨l0_0, ⟨A0_0, c0_0, e0_0, hc0_0, hr0_0⟩, g0_0⟩ := (Opens.slice (e' := 3) Try.underlying23 (by kernel_rfl) (Opens.int Try.underlying3)) _ _ _ t0_0
  obtain rfl : v0_0 = .slice A0_0 l0_0.length c0_0 := List.head_eq_of_cons_eq e0_0
  obtain ⟨l0_1, ⟨A0_1, c0_1, e0_1, hc0_1, hr0_1⟩, g0_1⟩ := (Opens.slice (e' := 54) Try.underlying29 (by kernel_rfl) (Opens.slice (e' := 53) Try.underlying54 (by kernel_rfl) opens53)) _ _ _ t0_1
  obtain rfl : v0_1 = .slice A0_1 l0_1.length c0_1 := List.head_eq_of_cons_eq e0_1
  have k1 := h1
  have lt1 : ∀ x ∈ p1, x.block < W.heap.size := by obtain ⟨m, hm⟩ := k1; exact DataW.trod_lt m _ _ _ hm
  obtain ⟨v1_0, v1_1, v1_2, v1_3, v1_4, y1_0, y1_1, y1_2, y1_3, y1_4, n1, rfl, _, _, t1_0, t1_1, t1_2, t1_3, t1_4⟩ := open_agg5 Try.underlying34 (by kernel_rfl) (by kernel_rfl) (hval 1 34 v1 rfl rfl) h1
  obtain ⟨l1_0, ⟨A1_0, c1_0, e1_0, hc1_0, hr1_0⟩, g1_0⟩ := (Opens.slice (e' := 3) Try.underlying23 (by kernel_rfl) (Opens.int Try.underlying3)) _ _ _ t1_0
  obtain rfl : v1_0 = .slice A1_0 l1_0.length c1_0 := List.head_eq_of_cons_eq e1_0
  obtain ⟨l1_1, ⟨A1_1, c1_1, e1_1, hc1_1, hr1_1⟩, g1_1⟩ := (Opens.slice (e' := 3) Try.underlying23 (by kernel_rfl) (Opens.int Try.underlying3)) _ _ _ t1_1
  obtain rfl : v1_1 = .slice A1_1 l1_1.length c1_1 := List.head_eq_of_cons_eq e1_1
  obtain ⟨l1_2, ⟨A1_2, c1_2, e1_2, hc1_2, hr1_2⟩, g1_2⟩ := (Opens.slice (e' := 23) Try.underlying32 (by kernel_rfl) (Opens.slice (e' := 3) Try.underlying23 (by kernel_rfl) (Opens.int Try.underlying3))) _ _ _ t1_2
  obtain rfl : v1_2 = .slice A1_2 l1_2.length c1_2 := List.head_eq_of_cons_eq e1_2
  obtain ⟨a1_3, e1_3, g1_3⟩ := (Opens.int Try.underlying3) _ _ _ t1_3
  obtain rfl : v1_3 = .int .i64 a1_3 := List.head_eq_of_cons_eq e1_3
  obtain ⟨a1_4, e1_4, g1_4⟩ := (Opens.int Try.underlying3) _ _ _ t1_4
  obtain rfl : v1_4 = .int .i64 a1_4 := List.head_eq_of_cons_eq e1_4
  clear hA0 hval0 hsz0
  have hp := Pure.ColumnsConfusionsLower l0_0 l0_1 l1_0 l1_1 l1_2 a1_3 a1_4 g0_0 g0_1 g1_0 g1_1 g1_2 g1_3 g1_4
  refine (emendatelaw35_ColumnsConfusionsLower.calls A0_0 c0_0 l0_0 A0_1 c0_1 l0_1 A1_0 c1_0 l1_0 A1_1 c1_1 l1_1 A1_2 c1_2 l1_2 a1_3 a1_4 true W hr0_0 hc0_0 hr0_1 hc0_1 hr1_0 hc1_0 hr1_1 hc1_1 hr1_2 hc1_2 hp).mono fun e W' ⟨he, bel⟩ => ?_
  subst he
  exact ⟨_, rfl, _, _, _, [], _, [], hW', trodAll_mk1 (shut_bool Try.underlying4 _), (trodAll_cons_mk (Below.trod laidOut (by kernel_rfl) (of_decide_eq_true (by kernel_rfl)) k0 bel lt0) (trodAll_cons_mk (Below.trod laidOut (by kernel_rfl) (of_decide_eq_true (by kernel_rfl)) k1 bel lt1) trodAll_mk0)), rfl, bel.frame _, fun h => by cases h⟩
theorem over : Rows.columnsConfusionsLowerRow.holds Try.pinned (OpenSpec.ofChange Rows.columnsConfusionsLowerSpec) :=
  OpenClaim.holds_of_wide 8 Try.f8 rfl rfl rfl rfl rfl rfl rfl ⟨rfl, rfl, rfl, rfl, rfl⟩ rfl rfl rfl rfl rfl (by kernel_rfl) Try.func8 (by kernel_rfl)
    (of_decide_eq_true (by kernel_rfl)) (by unfold Func.isWrapper; first | (rw [if_pos (by decide +kernel)]; kernel_rfl) | (rw [if_neg (by decide +kernel)]; exact ⟨rfl, rfl⟩))
    (fun os started H enc _ => lifted os started H enc)
theorem proved : Rows.ColumnsConfusionsLowerSaid := over
#print axioms proved
end Go.Proofs.Ytcigcacjjdpgfaa.columnsConfusionsLower
namespace Go.Proofs.Ytcigcacjjdpgfaa
/-- The row, under a short name, for the claim. -/
theorem columnsConfusionsLower_holds : Rows.ColumnsConfusionsLowerSaid := columnsConfusionsLower.proved
end Go.Proofs.Ytcigcacjjdpgfaa
