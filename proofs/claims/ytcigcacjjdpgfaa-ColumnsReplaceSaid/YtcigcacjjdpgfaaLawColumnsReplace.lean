/- ColumnsReplace: for every input the law returns true and leaves its arguments as they were. No condition. -/
import Derived.Test.YtcigcacjjdpgfaaRows
import Derived.Test.YtcigcacjjdpgfaaHandLawReplace
import Derived.Test.YtcigcacjjdpgfaaOpens
import Derived.Test.YtcigcacjjdpgfaaOpensT
import Derived.Test.YtcigcacjjdpgfaaPureColumnsReplace
import Derived.WalkKit
import Derived.ProofKit
import Derived.OpenShut
import Derived.ShutString
import Derived.ChangeOld
import Derived.Below
import Derived.SizedLaws
import Derived.Carry
namespace Go.Proofs.Ytcigcacjjdpgfaa.columnsReplace
open Go.ChangeShapes Go.WideShapes Go.ChangeAt Go.RowKit Go.Joins Go.Deep Go.Proofs.Ytcigcacjjdpgfaa.PA Go.Proofs.YtcigcacjjdpgfaaW.PrintWords Go.Proofs.YtcigcacjjdpgfaaW.Opening
open Go.ChangeMaps (open_string shut_string)
set_option linter.unusedVariables false
set_option linter.unusedSimpArgs false
theorem own : ownKnob Try.prog.godebug = none := by kernel_rfl
theorem laidOut : laidOutB Try.prog = true := by kernel_rfl
set_option maxRecDepth 100000 in
theorem lifted (os : Os) (started : os.Started) (H : Type) (enc : TypeId × Value → H) :
    ReturnsInHanded {} Try.checked os 6 .any (Rows.columnsReplaceSpec.pre6 enc Try.prog Try.f6 Rows.columnsReplaceRow.domain false) (Rows.columnsReplaceSpec.post enc Try.prog Try.f6 false true false false) := by
  refine returnsInHanded_of_change_sized (C := Try.checked) own started (by kernel_rfl) Try.func6
    (ChangeSpec.witness6 (enc := enc) (C := Try.checked) false ⟨#[], #[.agg #[.slice none 0 0, .slice none 0 0, .int .i64 0], .agg #[.int .i64 0, .int .i64 0, .int .i64 0], .slice none 0 0], []⟩ 8 (by kernel_rfl) (by kernel_rfl) (by kernel_rfl) (by kernel_rfl)) ?_
  intro W base args ds gs before hval0 hW hcnd hsz0 _
  have hval : ∀ (j : Nat) t v, Try.f6.params[j]? = some t → args[j]? = some v → Value.okWide Try.prog W .any base t v := hval0
  have hW' := hW
  obtain ⟨p, q, hA0, hV, rfl, hfz, hnd⟩ := hW
  have hA : DataW.TrodAll enc Try.prog W 0 (fun _ => true) true Try.f6.params.toList args.toList ds p := hA0
  rw [Try.params6] at hA hval
  obtain ⟨v0, vs0, d0, ds0, p0, q0, hargs, rfl, rfl, h0, r0⟩ := trodAll_cons hA
  obtain ⟨v1, vs1, d1, ds1, p1, q1, rfl, rfl, rfl, h1, r1⟩ := trodAll_cons r0
  obtain ⟨v2, vs2, d2, ds2, p2, q2, rfl, rfl, rfl, h2, r2⟩ := trodAll_cons r1
  obtain ⟨rfl, rfl, rfl⟩ := trodAll_nil r2
  obtain rfl : args = #[v0, v1, v2] := by cases args; simp_all
  obtain ⟨rfl, rfl⟩ := trodVars_none hV
  have k0 := h0
  have lt0 : ∀ x ∈ p0, x.block < W.heap.size := by obtain ⟨m, hm⟩ := k0; exact DataW.trod_lt m _ _ _ hm
  obtain ⟨v0_0, v0_1, v0_2, y0_0, y0_1, y0_2, n0, rfl, _, _, t0_0, t0_1, t0_2⟩ := open_agg3 Try.underlying25 (by kernel_rfl) (by kernel_rfl) (hval 0 25 v0 rfl rfl) h0
  obtain ⟨l0_0, ⟨A0_0, c0_0, e0_0, hc0_0, hr0_0⟩, g0_0⟩ := (Opens.slice (e' := 51) Try.underlying22 (by kernel_rfl) opens51) _ _ _ t0_0
  obtain rfl : v0_0 = .slice A0_0 l0_0.length c0_0 := List.head_eq_of_cons_eq e0_0
  obtain ⟨l0_1, ⟨A0_1, c0_1, e0_1, hc0_1, hr0_1⟩, g0_1⟩ := (Opens.slice (e' := 3) Try.underlying23 (by kernel_rfl) (Opens.int Try.underlying3)) _ _ _ t0_1
  obtain rfl : v0_1 = .slice A0_1 l0_1.length c0_1 := List.head_eq_of_cons_eq e0_1
  obtain ⟨a0_2, e0_2, g0_2⟩ := (Opens.int Try.underlying3) _ _ _ t0_2
  obtain rfl : v0_2 = .int .i64 a0_2 := List.head_eq_of_cons_eq e0_2
  have k1 := h1
  have lt1 : ∀ x ∈ p1, x.block < W.heap.size := by obtain ⟨m, hm⟩ := k1; exact DataW.trod_lt m _ _ _ hm
  obtain ⟨v1_0, v1_1, v1_2, y1_0, y1_1, y1_2, n1, rfl, _, _, t1_0, t1_1, t1_2⟩ := open_agg3 Try.underlying45 (by kernel_rfl) (by kernel_rfl) (hval 1 45 v1 rfl rfl) h1
  obtain ⟨a1_0, e1_0, g1_0⟩ := (Opens.int Try.underlying3) _ _ _ t1_0
  obtain rfl : v1_0 = .int .i64 a1_0 := List.head_eq_of_cons_eq e1_0
  obtain ⟨a1_1, e1_1, g1_1⟩ := (Opens.int Try.underlying3) _ _ _ t1_1
  obtain rfl : v1_1 = .int .i64 a1_1 := List.head_eq_of_cons_eq e1_1
  obtain ⟨a1_2, e1_2, g1_2⟩ := (Opens.int Try.underlying3) _ _ _ t1_2
  obtain rfl : v1_2 = .int .i64 a1_2 := List.head_eq_of_cons_eq e1_2
  have k2 := h2
  have lt2 : ∀ x ∈ p2, x.block < W.heap.size := by obtain ⟨m, hm⟩ := k2; exact DataW.trod_lt m _ _ _ hm
  obtain ⟨sa2, sl2, sc2, rfl⟩ := okWide_slice Try.underlying22 (hval 2 22 v2 rfl rfl)
  obtain ⟨fu2, tr2⟩ := h2
  obtain ⟨l2, ⟨A2, c2, e2, hc2, hr2⟩, g2⟩ := (Opens.slice (e' := 51) Try.underlying22 (by kernel_rfl) opens51) _ _ _ tr2
  obtain ⟨rfl, rfl, rfl⟩ : sa2 = A2 ∧ sl2 = l2.length ∧ sc2 = c2 := by have e_ : [Value.slice sa2 sl2 sc2] = [Value.slice A2 l2.length c2] := e2; simpa using e_
  clear hA0 hval0 hsz0
  have hp := Pure.ColumnsReplace l0_0 l0_1 a0_2 a1_0 a1_1 a1_2 l2 g0_0 g0_1 g0_2 g1_0 g1_1 g1_2 g2
  refine (emendatelaw35_ColumnsReplace.calls A0_0 c0_0 l0_0 A0_1 c0_1 l0_1 a0_2 a1_0 a1_1 a1_2 _ _ l2 true W hr0_0 hc0_0 hr0_1 hc0_1 hr2 hc2 hp).mono fun e W' ⟨he, bel⟩ => ?_
  subst he
  exact ⟨_, rfl, _, _, _, [], _, [], hW', trodAll_mk1 (shut_bool Try.underlying4 _), (trodAll_cons_mk (Below.trod laidOut (by kernel_rfl) (of_decide_eq_true (by kernel_rfl)) k0 bel lt0) (trodAll_cons_mk (Below.trod laidOut (by kernel_rfl) (of_decide_eq_true (by kernel_rfl)) k1 bel lt1) (trodAll_cons_mk (Below.trod laidOut (by kernel_rfl) (of_decide_eq_true (by kernel_rfl)) k2 bel lt2) trodAll_mk0))), rfl, bel.frame _, fun h => by cases h⟩
theorem over : Rows.columnsReplaceRow.holds Try.pinned (OpenSpec.ofChange Rows.columnsReplaceSpec) :=
  OpenClaim.holds_of_wide 6 Try.f6 rfl rfl rfl rfl rfl rfl rfl ⟨rfl, rfl, rfl, rfl, rfl⟩ rfl rfl rfl rfl rfl (by kernel_rfl) Try.func6 (by kernel_rfl)
    (of_decide_eq_true (by kernel_rfl)) (by unfold Func.isWrapper; first | (rw [if_pos (by decide +kernel)]; kernel_rfl) | (rw [if_neg (by decide +kernel)]; exact ⟨rfl, rfl⟩))
    (fun os started H enc _ => lifted os started H enc)
theorem proved : Rows.ColumnsReplaceSaid := over
#print axioms proved
end Go.Proofs.Ytcigcacjjdpgfaa.columnsReplace
namespace Go.Proofs.Ytcigcacjjdpgfaa
/-- The row, under a short name, for the claim. -/
theorem columnsReplace_holds : Rows.ColumnsReplaceSaid := columnsReplace.proved
end Go.Proofs.Ytcigcacjjdpgfaa
