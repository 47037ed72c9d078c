-- Written by wip/tools/wprint.py (a wrapper around the kit's printer) for this claim. Not trusted: Lean checks it.
import Derived.Test.YtkaedhooccpniaaHandAllN
import Derived.Test.YtkaedhooccpniaaPAx0
import Derived.Test.YtkaedhooccpniaaPAx8
import Derived.Test.YtkaedhooccpniaaPAx9
-- halved
namespace Go.Proofs.Ytkaedhooccpniaa.PA
open Go.RowKit Go.Proofs.YtkaedhooccpniaaW.PrintWords Go.Proofs.YtkaedhooccpniaaW.PrintLast Go.Proofs.YtkaedhooccpniaaW.PrintMore
attribute [local go_sem] max2_int min2_int max_two min_two max_three min_three max_four min_four   -- for this text's walks alone
set_option linter.unusedVariables false
set_option linter.unusedSimpArgs false

/-! ### emendateref21_first: function 44 -/
mutual
def emendateref21_first.l0 : Nat → Int → List Bool → List Bool → Bool → List ByteArray → List ByteArray → Int → List (S41) → Option (List Bool)
 | 0, _, _, _, _, _, _, _, _ => none
 | k + 1, x3, x4, x5, x6, x246000, x246001, x246002, x246003 => if x6 = true then (emendateref21_first.l1 k x3 x4 x5 false 0 x246000 x246001 x246002 x246003) else (some x5)
def emendateref21_first.l1 : Nat → Int → List Bool → List Bool → Bool → Int → List ByteArray → List ByteArray → Int → List (S41) → Option (List Bool)
 | 0, _, _, _, _, _, _, _, _, _ => none
 | k + 1, x3, x4, x5, x6, x7, x246000, x246001, x246002, x246003 => if x7 < (x246003.length : Int) then (if 0 ≤ x7 then (emendateref21_first.l2 k x3 x4 x5 x6 x7 0 x246000 x246001 x246002 x246003 ((rd_T41 x246003 x7).f0) ((rd_T41 x246003 x7).f1) ((rd_T41 x246003 x7).f2)) else (none)) else (emendateref21_first.l0 k x3 x4 x5 x6 x246000 x246001 x246002 x246003)
def emendateref21_first.l2 : Nat → Int → List Bool → List Bool → Bool → Int → Int → List ByteArray → List ByteArray → Int → List (S41) → Int → List Int → Int → Option (List Bool)
 | 0, _, _, _, _, _, _, _, _, _, _, _, _, _ => none
 | k + 1, x3, x4, x5, x6, x7, x9, x246000, x246001, x246002, x246003, x254000, x254001, x254002 => if x9 < (x254001.length : Int) then (if 0 ≤ x9 then (if x9 ≤ (x254001.length : Int) then ((emendateref21_all.f k (x254001.take (x9 : Int).toNat) x4 false).bind fun t255 => (emendateref21_first.j3 k x3 x4 x5 x6 x7 x9 t255 x246000 x246001 x246002 x246003 x254000 x254001 x254002)) else (none)) else (none)) else (emendateref21_first.j3 k x3 x4 x5 x6 x7 x9 false x246000 x246001 x246002 x246003 x254000 x254001 x254002)
def emendateref21_first.j3 : Nat → Int → List Bool → List Bool → Bool → Int → Int → Bool → List ByteArray → List ByteArray → Int → List (S41) → Int → List Int → Int → Option (List Bool)
 | 0, _, _, _, _, _, _, _, _, _, _, _, _, _, _ => none
 | k + 1, x3, x4, x5, x6, x7, x9, x48, x246000, x246001, x246002, x246003, x254000, x254001, x254002 => if x48 = true then (emendateref21_first.l3 k x3 x4 x5 x6 x7 x9 0 x246000 x246001 x246002 x246003 x254000 x254001 x254002) else (emendateref21_first.l1 k x3 x4 x5 x6 (wrap64 (x7 + 1)) x246000 x246001 x246002 x246003)
def emendateref21_first.l3 : Nat → Int → List Bool → List Bool → Bool → Int → Int → Int → List ByteArray → List ByteArray → Int → List (S41) → Int → List Int → Int → Option (List Bool)
 | 0, _, _, _, _, _, _, _, _, _, _, _, _, _, _ => none
 | k + 1, x3, x4, x5, x6, x7, x9, x10, x246000, x246001, x246002, x246003, x254000, x254001, x254002 => if x10 < x3 then (if 0 ≤ x9 then (if x9 < (x254001.length : Int) then (if (rd x254001 x9) = x10 then (if 0 ≤ (wrap64 ((wrap64 (x254000 * x3)) + x10)) then (if (wrap64 ((wrap64 (x254000 * x3)) + x10)) < (x5.length : Int) then (if (rdOf false x5 (wrap64 ((wrap64 (x254000 * x3)) + x10)) = true) then (emendateref21_first.l3 k x3 x4 x5 x6 x7 x9 (wrap64 (x10 + 1)) x246000 x246001 x246002 x246003 x254000 x254001 x254002) else (emendateref21_first.l3 k x3 x4 (x5.set ((wrap64 ((wrap64 (x254000 * x3)) + x10)) : Int).toNat true) true x7 x9 (wrap64 (x10 + 1)) x246000 x246001 x246002 x246003 x254000 x254001 x254002)) else (none)) else (none)) else (if (rd x254001 x9) < 0 then (if 0 ≤ (wrap64 ((wrap64 ((wrap64 ((-1) - (rd x254001 x9))) * x3)) + x10)) then (if (wrap64 ((wrap64 ((wrap64 ((-1) - (rd x254001 x9))) * x3)) + x10)) < (x5.length : Int) then (if rdOf false x5 (wrap64 ((wrap64 ((wrap64 ((-1) - (rd x254001 x9))) * x3)) + x10)) = true then (if 0 ≤ (wrap64 ((wrap64 (x254000 * x3)) + x10)) then (if (wrap64 ((wrap64 (x254000 * x3)) + x10)) < (x5.length : Int) then (if (rdOf false x5 (wrap64 ((wrap64 (x254000 * x3)) + x10)) = true) then (emendateref21_first.l3 k x3 x4 x5 x6 x7 x9 (wrap64 (x10 + 1)) x246000 x246001 x246002 x246003 x254000 x254001 x254002) else (emendateref21_first.l3 k x3 x4 (x5.set ((wrap64 ((wrap64 (x254000 * x3)) + x10)) : Int).toNat true) true x7 x9 (wrap64 (x10 + 1)) x246000 x246001 x246002 x246003 x254000 x254001 x254002)) else (none)) else (none)) else (emendateref21_first.l3 k x3 x4 x5 x6 x7 x9 (wrap64 (x10 + 1)) x246000 x246001 x246002 x246003 x254000 x254001 x254002)) else (none)) else (none)) else (emendateref21_first.l3 k x3 x4 x5 x6 x7 x9 (wrap64 (x10 + 1)) x246000 x246001 x246002 x246003 x254000 x254001 x254002))) else (none)) else (none)) else (emendateref21_first.l2 k x3 x4 x5 x6 x7 (wrap64 (x9 + 1)) x246000 x246001 x246002 x246003 x254000 x254001 x254002)
end
def emendateref21_first.f (k : Nat) (l0_0 : List ByteArray) (l0_1 : List ByteArray) (a0_2 : Int) (l0_3 : List (S41)) : Option (List Bool) := (emendateref21_Nullable.f k l0_0 l0_1 a0_2 l0_3).bind fun t246 => (if 0 ≤ (wrap64 ((l0_1.length : Int) * (l0_0.length : Int))) then (if (wrap64 ((l0_1.length : Int) * (l0_0.length : Int)) : Int).toNat ≤ 281474976710656 then (emendateref21_first.l0 k (l0_0.length : Int) t246 (List.replicate (wrap64 ((l0_1.length : Int) * (l0_0.length : Int)) : Int).toNat false) true l0_0 l0_1 a0_2 l0_3) else (none)) else (none))
theorem emendateref21_first.mono_l : ∀ k, (∀ y0 y1 y2 y3 y4 y5 y6 y7, LeO (emendateref21_first.l0 k y0 y1 y2 y3 y4 y5 y6 y7) (emendateref21_first.l0 (k + 1) y0 y1 y2 y3 y4 y5 y6 y7)) ∧ (∀ y0 y1 y2 y3 y4 y5 y6 y7 y8, LeO (emendateref21_first.l1 k y0 y1 y2 y3 y4 y5 y6 y7 y8) (emendateref21_first.l1 (k + 1) y0 y1 y2 y3 y4 y5 y6 y7 y8)) ∧ (∀ y0 y1 y2 y3 y4 y5 y6 y7 y8 y9 y10 y11 y12, LeO (emendateref21_first.l2 k y0 y1 y2 y3 y4 y5 y6 y7 y8 y9 y10 y11 y12) (emendateref21_first.l2 (k + 1) y0 y1 y2 y3 y4 y5 y6 y7 y8 y9 y10 y11 y12)) ∧ (∀ y0 y1 y2 y3 y4 y5 y6 y7 y8 y9 y10 y11 y12 y13, LeO (emendateref21_first.j3 k y0 y1 y2 y3 y4 y5 y6 y7 y8 y9 y10 y11 y12 y13) (emendateref21_first.j3 (k + 1) y0 y1 y2 y3 y4 y5 y6 y7 y8 y9 y10 y11 y12 y13)) ∧ (∀ y0 y1 y2 y3 y4 y5 y6 y7 y8 y9 y10 y11 y12 y13, LeO (emendateref21_first.l3 k y0 y1 y2 y3 y4 y5 y6 y7 y8 y9 y10 y11 y12 y13) (emendateref21_first.l3 (k + 1) y0 y1 y2 y3 y4 y5 y6 y7 y8 y9 y10 y11 y12 y13))
 | 0 => ⟨fun _ _ _ _ _ _ _ _ r h => by simp [emendateref21_first.l0] at h, fun _ _ _ _ _ _ _ _ _ r h => by simp [emendateref21_first.l1] at h, fun _ _ _ _ _ _ _ _ _ _ _ _ _ r h => by simp [emendateref21_first.l2] at h, fun _ _ _ _ _ _ _ _ _ _ _ _ _ _ r h => by simp [emendateref21_first.j3] at h, fun _ _ _ _ _ _ _ _ _ _ _ _ _ _ r h => by simp [emendateref21_first.l3] at h⟩
 | k + 1 => by
  obtain ⟨ih0, ih1, ih2, ih3, ih4⟩ := emendateref21_first.mono_l k
  refine ⟨?_, ?_, ?_, ?_, ?_⟩
  ·intro y0 y1 y2 y3 y4 y5 y6 y7
   unfold emendateref21_first.l0
   repeat' first
   | (with_reducible exact ih0 _ _ _ _ _ _ _ _)
   | (with_reducible exact ih1 _ _ _ _ _ _ _ _ _)
   | (with_reducible exact ih2 _ _ _ _ _ _ _ _ _ _ _ _ _)
   | (with_reducible exact ih3 _ _ _ _ _ _ _ _ _ _ _ _ _ _)
   | (with_reducible exact ih4 _ _ _ _ _ _ _ _ _ _ _ _ _ _)
   | (with_reducible exact emendateref21_Nullable.mono _ _ _ _ _)
   | (with_reducible exact emendateref21_all.mono _ _ _ _)
   | (with_reducible exact LeO.refl _)
   | (with_reducible exact LeO.none _)
   | (with_reducible refine LeO.ite ?_ ?_)
   | (with_reducible refine LeO.bind ?_ (fun _ => ?_))
   | exact ih0 _ _ _ _ _ _ _ _
   | exact ih1 _ _ _ _ _ _ _ _ _
   | exact ih2 _ _ _ _ _ _ _ _ _ _ _ _ _
   | exact ih3 _ _ _ _ _ _ _ _ _ _ _ _ _ _
   | exact ih4 _ _ _ _ _ _ _ _ _ _ _ _ _ _
   | exact emendateref21_Nullable.mono _ _ _ _ _
   | exact emendateref21_all.mono _ _ _ _
   | exact LeO.none _
   | refine LeO.ite ?_ ?_
   | refine LeO.bind ?_ (fun _ => ?_)
  ·intro y0 y1 y2 y3 y4 y5 y6 y7 y8
   unfold emendateref21_first.l1
   repeat' first
   | (with_reducible exact ih0 _ _ _ _ _ _ _ _)
   | (with_reducible exact ih1 _ _ _ _ _ _ _ _ _)
   | (with_reducible exact ih2 _ _ _ _ _ _ _ _ _ _ _ _ _)
   | (with_reducible exact ih3 _ _ _ _ _ _ _ _ _ _ _ _ _ _)
   | (with_reducible exact ih4 _ _ _ _ _ _ _ _ _ _ _ _ _ _)
   | (with_reducible exact emendateref21_Nullable.mono _ _ _ _ _)
   | (with_reducible exact emendateref21_all.mono _ _ _ _)
   | (with_reducible exact LeO.refl _)
   | (with_reducible exact LeO.none _)
   | (with_reducible refine LeO.ite ?_ ?_)
   | (with_reducible refine LeO.bind ?_ (fun _ => ?_))
   | exact ih0 _ _ _ _ _ _ _ _
   | exact ih1 _ _ _ _ _ _ _ _ _
   | exact ih2 _ _ _ _ _ _ _ _ _ _ _ _ _
   | exact ih3 _ _ _ _ _ _ _ _ _ _ _ _ _ _
   | exact ih4 _ _ _ _ _ _ _ _ _ _ _ _ _ _
   | exact emendateref21_Nullable.mono _ _ _ _ _
   | exact emendateref21_all.mono _ _ _ _
   | exact LeO.none _
   | refine LeO.ite ?_ ?_
   | refine LeO.bind ?_ (fun _ => ?_)
  ·intro y0 y1 y2 y3 y4 y5 y6 y7 y8 y9 y10 y11 y12
   unfold emendateref21_first.l2
   repeat' first
   | (with_reducible exact ih0 _ _ _ _ _ _ _ _)
   | (with_reducible exact ih1 _ _ _ _ _ _ _ _ _)
   | (with_reducible exact ih2 _ _ _ _ _ _ _ _ _ _ _ _ _)
   | (with_reducible exact ih3 _ _ _ _ _ _ _ _ _ _ _ _ _ _)
   | (with_reducible exact ih4 _ _ _ _ _ _ _ _ _ _ _ _ _ _)
   | (with_reducible exact emendateref21_Nullable.mono _ _ _ _ _)
   | (with_reducible exact emendateref21_all.mono _ _ _ _)
   | (with_reducible exact LeO.refl _)
   | (with_reducible exact LeO.none _)
   | (with_reducible refine LeO.ite ?_ ?_)
   | (with_reducible refine LeO.bind ?_ (fun _ => ?_))
   | exact ih0 _ _ _ _ _ _ _ _
   | exact ih1 _ _ _ _ _ _ _ _ _
   | exact ih2 _ _ _ _ _ _ _ _ _ _ _ _ _
   | exact ih3 _ _ _ _ _ _ _ _ _ _ _ _ _ _
   | exact ih4 _ _ _ _ _ _ _ _ _ _ _ _ _ _
   | exact emendateref21_Nullable.mono _ _ _ _ _
   | exact emendateref21_all.mono _ _ _ _
   | exact LeO.none _
   | refine LeO.ite ?_ ?_
   | refine LeO.bind ?_ (fun _ => ?_)
  ·intro y0 y1 y2 y3 y4 y5 y6 y7 y8 y9 y10 y11 y12 y13
   unfold emendateref21_first.j3
   repeat' first
   | (with_reducible exact ih0 _ _ _ _ _ _ _ _)
   | (with_reducible exact ih1 _ _ _ _ _ _ _ _ _)
   | (with_reducible exact ih2 _ _ _ _ _ _ _ _ _ _ _ _ _)
   | (with_reducible exact ih3 _ _ _ _ _ _ _ _ _ _ _ _ _ _)
   | (with_reducible exact ih4 _ _ _ _ _ _ _ _ _ _ _ _ _ _)
   | (with_reducible exact emendateref21_Nullable.mono _ _ _ _ _)
   | (with_reducible exact emendateref21_all.mono _ _ _ _)
   | (with_reducible exact LeO.refl _)
   | (with_reducible exact LeO.none _)
   | (with_reducible refine LeO.ite ?_ ?_)
   | (with_reducible refine LeO.bind ?_ (fun _ => ?_))
   | exact ih0 _ _ _ _ _ _ _ _
   | exact ih1 _ _ _ _ _ _ _ _ _
   | exact ih2 _ _ _ _ _ _ _ _ _ _ _ _ _
   | exact ih3 _ _ _ _ _ _ _ _ _ _ _ _ _ _
   | exact ih4 _ _ _ _ _ _ _ _ _ _ _ _ _ _
   | exact emendateref21_Nullable.mono _ _ _ _ _
   | exact emendateref21_all.mono _ _ _ _
   | exact LeO.none _
   | refine LeO.ite ?_ ?_
   | refine LeO.bind ?_ (fun _ => ?_)
  ·intro y0 y1 y2 y3 y4 y5 y6 y7 y8 y9 y10 y11 y12 y13
   unfold emendateref21_first.l3
   repeat' first
   | (with_reducible exact ih0 _ _ _ _ _ _ _ _)
   | (with_reducible exact ih1 _ _ _ _ _ _ _ _ _)
   | (with_reducible exact ih2 _ _ _ _ _ _ _ _ _ _ _ _ _)
   | (with_reducible exact ih3 _ _ _ _ _ _ _ _ _ _ _ _ _ _)
   | (with_reducible exact ih4 _ _ _ _ _ _ _ _ _ _ _ _ _ _)
   | (with_reducible exact emendateref21_Nullable.mono _ _ _ _ _)
   | (with_reducible exact emendateref21_all.mono _ _ _ _)
   | (with_reducible exact LeO.refl _)
   | (with_reducible exact LeO.none _)
   | (with_reducible refine LeO.ite ?_ ?_)
   | (with_reducible refine LeO.bind ?_ (fun _ => ?_))
   | exact ih0 _ _ _ _ _ _ _ _
   | exact ih1 _ _ _ _ _ _ _ _ _
   | exact ih2 _ _ _ _ _ _ _ _ _ _ _ _ _
   | exact ih3 _ _ _ _ _ _ _ _ _ _ _ _ _ _
   | exact ih4 _ _ _ _ _ _ _ _ _ _ _ _ _ _
   | exact emendateref21_Nullable.mono _ _ _ _ _
   | exact emendateref21_all.mono _ _ _ _
   | exact LeO.none _
   | refine LeO.ite ?_ ?_
   | refine LeO.bind ?_ (fun _ => ?_)
theorem emendateref21_first.mono : ∀ a0 a1 a2 a3 k, LeO (emendateref21_first.f k a0 a1 a2 a3) (emendateref21_first.f (k + 1) a0 a1 a2 a3) := by
 intro a0 a1 a2 a3 k
 obtain ⟨ih0, ih1, ih2, ih3, ih4⟩ := emendateref21_first.mono_l k
 unfold emendateref21_first.f
 repeat' first
   | (with_reducible exact ih0 _ _ _ _ _ _ _ _)
   | (with_reducible exact ih1 _ _ _ _ _ _ _ _ _)
   | (with_reducible exact ih2 _ _ _ _ _ _ _ _ _ _ _ _ _)
   | (with_reducible exact ih3 _ _ _ _ _ _ _ _ _ _ _ _ _ _)
   | (with_reducible exact ih4 _ _ _ _ _ _ _ _ _ _ _ _ _ _)
   | (with_reducible exact emendateref21_Nullable.mono _ _ _ _ _)
   | (with_reducible exact emendateref21_all.mono _ _ _ _)
   | (with_reducible exact LeO.refl _)
   | (with_reducible exact LeO.none _)
   | (with_reducible refine LeO.ite ?_ ?_)
   | (with_reducible refine LeO.bind ?_ (fun _ => ?_))
   | exact ih0 _ _ _ _ _ _ _ _
   | exact ih1 _ _ _ _ _ _ _ _ _
   | exact ih2 _ _ _ _ _ _ _ _ _ _ _ _ _
   | exact ih3 _ _ _ _ _ _ _ _ _ _ _ _ _ _
   | exact ih4 _ _ _ _ _ _ _ _ _ _ _ _ _ _
   | exact emendateref21_Nullable.mono _ _ _ _ _
   | exact emendateref21_all.mono _ _ _ _
   | exact LeO.none _
   | refine LeO.ite ?_ ?_
   | refine LeO.bind ?_ (fun _ => ?_)
set_option maxHeartbeats 8000000 in
set_option maxRecDepth 100000 in
theorem emendateref21_first.calls (k : Nat) (A0_0 : Option Addr) (c0_0 : Nat) (l0_0 : List ByteArray) (A0_1 : Option Addr) (c0_1 : Nat) (l0_1 : List ByteArray) (a0_2 : Int) (A0_3 : Option Addr) (c0_3 : Nat) (l0_3 : List (S41)) (r : List Bool) (w : World) (hr0_0 : Kd.C Kd.string w A0_0 l0_0.length l0_0) (hc0_0 : l0_0.length ≤ c0_0) (hr0_1 : Kd.C Kd.string w A0_1 l0_1.length l0_1) (hc0_1 : l0_1.length ≤ c0_1) (hr0_3 : Kd.C k41 w A0_3 l0_3.length l0_3) (hc0_3 : l0_3.length ≤ c0_3) (h : emendateref21_first.f k l0_0 l0_1 a0_2 l0_3 = some r) :
  Calls Try.prog 44 #[.agg #[.slice A0_0 l0_0.length c0_0, .slice A0_1 l0_1.length c0_1, .int .i64 a0_2, .slice A0_3 l0_3.length c0_3]] w fun e w' => ∃ v0_ : Value, e = .returned (v0_) ∧ Kd.R Kd.bool 4 w' w.heap.size (fun _ => True) v0_ r ∧ Below w.heap.size w w' := by
 have hu25 := Try.underlying25
 have hu41 := Try.underlying41
 have HR0_0 := Aside0.mk hr0_0
 have HC0_0 := Aside0.mk hc0_0
 clear hr0_0 hc0_0
 have HR0_1 := Aside0.mk hr0_1
 have HC0_1 := Aside0.mk hc0_1
 clear hr0_1 hc0_1
 have HR0_3 := Aside0.mk hr0_3
 have HC0_3 := Aside0.mk hc0_3
 clear hr0_3 hc0_3
 have HB := Aside0.mk (Below.refl w.heap.size w)
 have H : ((emendateref21_Nullable.f k l0_0 l0_1 a0_2 l0_3).bind fun t246 => (if 0 ≤ (wrap64 ((l0_1.length : Int) * (l0_0.length : Int))) then (if (wrap64 ((l0_1.length : Int) * (l0_0.length : Int)) : Int).toNat ≤ 281474976710656 then (emendateref21_first.l0 k (l0_0.length : Int) t246 (List.replicate (wrap64 ((l0_1.length : Int) * (l0_0.length : Int)) : Int).toNat false) true l0_0 l0_1 a0_2 l0_3) else (none)) else (none))) = some r := h
 clear h
 replace H := Option.bind_eq_some_iff.mp H
 obtain ⟨t246, A20, H⟩ := H
 replace H : (if 0 ≤ (wrap64 ((l0_1.length : Int) * (l0_0.length : Int))) then (if (wrap64 ((l0_1.length : Int) * (l0_0.length : Int)) : Int).toNat ≤ 281474976710656 then (emendateref21_first.l0 k (l0_0.length : Int) t246 (List.replicate (wrap64 ((l0_1.length : Int) * (l0_0.length : Int)) : Int).toNat false) true l0_0 l0_1 a0_2 l0_3) else (none)) else (none)) = some r := H
 have A2 := Aside0.mk A20
 clear A20
 obtain ⟨ji3, hji3⟩ : ∃ j_ : Int, (wrap64 ((l0_1.length : Int) * (l0_0.length : Int))) = j_ := ⟨_, rfl⟩
 replace H : (if 0 ≤ (ji3) then (if (ji3 : Int).toNat ≤ 281474976710656 then (emendateref21_first.l0 k (l0_0.length : Int) t246 (List.replicate (ji3 : Int).toNat false) true l0_0 l0_1 a0_2 l0_3) else (none)) else (none)) = some r := by first | (rw [hji3] at H; exact H) | (simp only [hji3] at H ⊢; exact H)
 (try rw [hji3] at A2)
 have hji3w : (IntKind.i64.wrap ((l0_1.length : Int) * (l0_0.length : Int))) = ji3 := (i64_w _).trans hji3
 by_cases c4 : 0 ≤ (ji3)
 ·rw [if_pos c4] at H
  have c4b0 := eq_true c4
  have c4b1 : decide (0 ≤ (ji3)) = true := decide_eq_true c4
  clear c4
  by_cases c5 : (ji3 : Int).toNat ≤ 281474976710656
  ·rw [if_pos c5] at H
   have c5b0 := eq_true c5
   have c5b1 : decide ((ji3 : Int).toNat ≤ 281474976710656) = true := decide_eq_true c5
   clear c5
   obtain ⟨y249, hy249⟩ : ∃ y_ : List Bool, y_ = (List.replicate (ji3 : Int).toNat false) := ⟨_, rfl⟩
   replace H : (emendateref21_first.l0 k (l0_0.length : Int) t246 y249 true l0_0 l0_1 a0_2 l0_3) = some r := by first | (rw [hy249]; with_reducible exact H) | (have H2_ := (Option.bind_some _ _).symm.trans H; rw [hy249]; with_reducible exact H2_) | (have H2_ := (Option.bind_some _ _).symm.trans H; with_reducible exact H2_) | with_reducible exact H | (rw [hy249]; exact H) | exact H
   have Ny249 := Aside0.mk hy249
   clear hy249
   have H' := Aside0.mk H
   clear H
   go_enter Try.func44, Try.ntmps44
   go_wp2_with (first | ((with_reducible refine gate_dst (N := 1) rfl ?_); refine box_event ?hg (N := 1) ?hd (cs := #[.slice A0_0 l0_0.length c0_0, .slice A0_1 l0_1.length c0_1, .int .i64 a0_2, .slice A0_3 l0_3.length c0_3]) (t := 25) ?hr ?_; (case hd => rfl); (case hg => rfl); (case hr => first | (go_simp; done) | (go_simp; rfl)); intro gb245 hg w6 hbox hb; have n0_ := Aside0.mk (below_step (by repeat (first | (with_reducible first | exact HB.out | apply below_alloc | apply pw_below_drewN | apply below_drew1) | exact HB.out)) hb); have n1_ := Aside0.mk (hbox); have n2_ := Aside0.mk ((by rw [hg]; exact (below_size (by repeat (first | (with_reducible first | exact HB.out | apply below_alloc | apply pw_below_drewN | apply below_drew1) | exact HB.out))) : w.heap.size ≤ gb245)); have n3_ := Aside0.mk ((by rw [hg]; exact (below_size (by repeat (first | (with_reducible first | exact HB.out | apply below_alloc | apply pw_below_drewN | apply below_drew1) | exact HB.out))) : w.heap.size ≤ gb245)); clear HB; have HB := n0_; have BK245 := n1_; have GW245 := n2_; have GE245 := n3_; clear n0_ n1_ n2_ n3_; clear hb hbox hg; have hcz7_0 : w6.cell? ⟨gb245, 0, none⟩ = some (.slice A0_0 l0_0.length c0_0) := (blk_cell BK245.out 0).trans rfl; have hcz7_1 : w6.cell? ⟨gb245, 1, none⟩ = some (.slice A0_1 l0_1.length c0_1) := (blk_cell BK245.out 1).trans rfl; have hcz7_2 : w6.cell? ⟨gb245, 2, none⟩ = some (.int .i64 a0_2) := (blk_cell BK245.out 2).trans rfl; have hcz7_3 : w6.cell? ⟨gb245, 3, none⟩ = some (.slice A0_3 l0_3.length c0_3) := (blk_cell BK245.out 3).trans rfl; have hfz7_0 := blk_frozen BK245.out 0; have hfz7_1 := blk_frozen BK245.out 1; have hfz7_2 := blk_frozen BK245.out 2; have hfz7_3 := blk_frozen BK245.out 3) | ((with_reducible refine gate_callee (f := 14) rfl ?_); refine goesL_ (some 16) rfl rfl Try.func14 (by kernel_rfl) rfl #[.agg #[.slice A0_0 l0_0.length c0_0, .slice A0_1 l0_1.length c0_1, .int .i64 a0_2, .slice A0_3 l0_3.length c0_3]] rfl (by (try simp only [List.map_toArray, List.map_cons, List.map_nil]); first | done | rfl | (simp only [List.length_drop, List.length_take]; rfl)) ?_; (with_reducible refine (emendateref21_Nullable.calls k _ _ l0_0 _ _ l0_1 a0_2 _ _ l0_3 t246 _ ?side1 ?side2 ?side3 ?side4 ?side5 ?side6 A2.out).mono ?_); (case side1 => repeat (first | exact (Kd.C_below HR0_0.out HB.out) | (with_reducible refine Kd.C_alloc ?_ _) | (with_reducible refine Kd.C_drewN ?_ _) | (with_reducible refine Kd.C_drew ?_))); (case side2 => exact HC0_0.out); (case side3 => repeat (first | exact (Kd.C_below HR0_1.out HB.out) | (with_reducible refine Kd.C_alloc ?_ _) | (with_reducible refine Kd.C_drewN ?_ _) | (with_reducible refine Kd.C_drew ?_))); (case side4 => exact HC0_1.out); (case side5 => repeat (first | exact (Kd.C_below HR0_3.out HB.out) | (with_reducible refine Kd.C_alloc ?_ _) | (with_reducible refine Kd.C_drewN ?_ _) | (with_reducible refine Kd.C_drew ?_))); (case side6 => exact HC0_3.out); rintro e w8 ⟨v247, rfl, ho0, hb⟩; refine ⟨_, rfl, ?_⟩; have n0_ := Aside0.mk (Kd.R_lower ho0 (below_size (by repeat (first | (with_reducible first | exact HB.out | apply below_alloc | apply pw_below_drewN | apply below_drew1 | refine below_set ?_ GE245.out) | exact HB.out)))); have n1_ := Aside0.mk (blk_below (g := gb245) (o := .cells #[.slice A0_0 l0_0.length c0_0, .slice A0_1 l0_1.length c0_1, .int .i64 a0_2, .slice A0_3 l0_3.length c0_3] 25 (0, 0)) (by (with_reducible repeat (first | refine blk_drewN ?_ _ | refine blk_drew ?_ | refine blk_alloc ?_ _)); exact BK245.out) hb); have n2_ := Aside0.mk (below_step (by repeat (first | (with_reducible first | exact HB.out | apply below_alloc | apply pw_below_drewN | apply below_drew1 | refine below_set ?_ GE245.out) | exact HB.out)) hb); clear BK245; clear HB; have HO248 := n0_; have BK245 := n1_; have HB := n2_; clear n0_ n1_ n2_; (try clear hb); (try clear hb2); (try clear hk); (try clear hi); (try clear ho0); have hcz9_0 : w8.cell? ⟨gb245, 0, none⟩ = some (.slice A0_0 l0_0.length c0_0) := (blk_cell BK245.out 0).trans rfl; have hcz9_1 : w8.cell? ⟨gb245, 1, none⟩ = some (.slice A0_1 l0_1.length c0_1) := (blk_cell BK245.out 1).trans rfl; have hcz9_2 : w8.cell? ⟨gb245, 2, none⟩ = some (.int .i64 a0_2) := (blk_cell BK245.out 2).trans rfl; have hcz9_3 : w8.cell? ⟨gb245, 3, none⟩ = some (.slice A0_3 l0_3.length c0_3) := (blk_cell BK245.out 3).trans rfl; have hfz9_0 := blk_frozen BK245.out 0; have hfz9_1 := blk_frozen BK245.out 1; have hfz9_2 := blk_frozen BK245.out 2; have hfz9_3 := blk_frozen BK245.out 3) | ((with_reducible refine gate_dst (N := 22) rfl ?_); refine Kd.R_make Kd.bool _ 4 rfl (N := 22) rfl 29 _ _ rfl ji3 rfl rfl Try.underlying29 (.bool false) 1 info4 rfl (by decide) (by omega) false (ok := fun _ => True) (okp := fun _ => True) rfl (fun _ hk => hk) trivial (of_decide_eq_true (by first | (with_reducible assumption) | assumption)) (Nat.le_trans (Nat.mul_le_mul_right _ (of_decide_eq_true (by first | (with_reducible assumption) | assumption) : ji3.toNat ≤ 281474976710656)) (by omega)) (Below.refl _ _) (Nat.le_refl _) ?_; intro v250 w10 ho11 hb hg_ hnew_; clear hg_ hnew_; (first | rw [← Ny249.out] at ho11 | (simp only [Int.reduceToNat] at ho11; rw [← Ny249.out] at ho11)); have n0_ := Aside0.mk (Kd.R_elder' (by (with_reducible repeat (first | apply Kd.R_alloc | apply Kd.R_drewN | apply Kd.R_drew)); exact HO248.out) (Kd.R_base ho11) hb); have n1_ := Aside0.mk (Kd.R_lower (Kd.R_new' ho11 (Kd.R_lt (by (with_reducible repeat (first | apply Kd.R_alloc | apply Kd.R_drewN | apply Kd.R_drew)); exact HO248.out))) (below_size (by repeat (first | (with_reducible first | exact HB.out | apply below_alloc | apply pw_below_drewN | apply below_drew1 | refine below_set ?_ GE245.out) | exact HB.out)))); have n2_ := Aside0.mk (blk_below (g := gb245) (o := .cells #[.slice A0_0 l0_0.length c0_0, .slice A0_1 l0_1.length c0_1, .int .i64 a0_2, .slice A0_3 l0_3.length c0_3] 25 (0, 0)) (by (with_reducible repeat (first | refine blk_drewN ?_ _ | refine blk_drew ?_ | refine blk_alloc ?_ _)); exact BK245.out) hb); have n3_ := Aside0.mk (below_step (by repeat (first | (with_reducible first | exact HB.out | apply below_alloc | apply pw_below_drewN | apply below_drew1 | refine below_set ?_ GE245.out) | exact HB.out)) hb); clear HO248; clear BK245; clear HB; have HO248 := n0_; have HO251 := n1_; have BK245 := n2_; have HB := n3_; clear n0_ n1_ n2_ n3_; clear hb ho11))
   go_loopg [6] k (fun kq v6 w' => ∃ (x5_1 : List Bool) (x6_1 : Bool), v6 = .bool x6_1 ∧ Aside0 (emendateref21_first.l0 kq (l0_0.length : Int) t246 x5_1 x6_1 l0_0 l0_1 a0_2 l0_3 = some r) ∧ Aside0 (kq ≤ k) ∧ Aside0 (Kd.R Kd.bool 4 w' w.heap.size (fun k_ => some k_ ≠ (v250 : Value).ownBlock) v247 t246) ∧ Aside0 (Kd.R Kd.bool 4 w' w.heap.size (fun k_ => some k_ ≠ (v247 : Value).ownBlock) v250 x5_1) ∧ Aside0 (w'.heap[gb245]? = some (.cells #[(.slice A0_0 l0_0.length c0_0), (.slice A0_1 l0_1.length c0_1), .int .i64 a0_2, (.slice A0_3 l0_3.length c0_3)] 25 (0, 0))) ∧ Aside0 (Below w.heap.size w w'))
   case atStart => exact ⟨(y249), (true), (by first | rfl | (simp; done) | (simp [*]; done)), H', ⟨Nat.le_refl _⟩, ⟨by (with_reducible repeat (first | apply Kd.R_alloc | apply Kd.R_drewN | apply Kd.R_drew)); exact Kd.R_mono HO248.out (fun _ hk => hk.2)⟩, ⟨by (with_reducible repeat (first | apply Kd.R_alloc | apply Kd.R_drewN | apply Kd.R_drew)); exact Kd.R_mono HO251.out (fun _ hk => hk.2)⟩, ⟨by (with_reducible repeat (first | refine blk_drewN ?_ _ | refine blk_drew ?_ | refine blk_alloc ?_ _)); exact BK245.out⟩, ⟨by repeat (first | (with_reducible first | exact HB.out | apply below_alloc | apply pw_below_drewN | apply below_drew1 | refine below_set ?_ GE245.out) | exact HB.out)⟩⟩
   case round =>
    clear H'
    try clear c1
    try clear p2
    try clear c4
    try clear c4b0
    try clear c4b1
    try clear c5
    try clear c5b0
    try clear c5b1
    try clear p6
    try clear hcz7_0
    try clear hcz7_1
    try clear hcz7_2
    try clear hcz7_3
    try clear hcz9_0
    try clear hcz9_1
    try clear hcz9_2
    try clear hcz9_3
    try clear hfz7_0
    try clear hfz7_1
    try clear hfz7_2
    try clear hfz7_3
    try clear hfz9_0
    try clear hfz9_1
    try clear hfz9_2
    try clear hfz9_3
    obtain ⟨x5_1, x6_1, rfl, HA, HK1, HO_4, HO_5, BK245, HB⟩ := hrel
    cases gk with
    | zero => exact absurd HA.out (by simp [emendateref21_first.l0])
    | succ k1 =>
     have H := HA.out
     clear HA
     simp only [emendateref21_first.l0] at H
     by_cases c12 : x6_1 = true
     ·subst c12
      have H1 : (emendateref21_first.l1 k1 (l0_0.length : Int) t246 x5_1 false 0 l0_0 l0_1 a0_2 l0_3) = some r := by rw [if_pos rfl] at H; exact H
      clear H
      have H := H1
      clear H1
      have H' := Aside0.mk H
      clear H
      go_wp2
      go_loopg [6, 7] k1 (fun kq v6 v7 w' => ∃ (x5_2 : List Bool) (x6_2 : Bool) (x7_2 : Int), v6 = .bool x6_2 ∧ v7 = .int .i64 x7_2 ∧ Aside0 (emendateref21_first.l1 kq (l0_0.length : Int) t246 x5_2 x6_2 x7_2 l0_0 l0_1 a0_2 l0_3 = some r) ∧ Aside0 (kq ≤ k1) ∧ Aside0 (Kd.R Kd.bool 4 w' w.heap.size (fun k_ => some k_ ≠ (v250 : Value).ownBlock) v247 t246) ∧ Aside0 (Kd.R Kd.bool 4 w' w.heap.size (fun k_ => some k_ ≠ (v247 : Value).ownBlock) v250 x5_2) ∧ Aside0 (w'.heap[gb245]? = some (.cells #[(.slice A0_0 l0_0.length c0_0), (.slice A0_1 l0_1.length c0_1), .int .i64 a0_2, (.slice A0_3 l0_3.length c0_3)] 25 (0, 0))) ∧ Aside0 (Below w.heap.size w w'))
      case atStart => exact ⟨(x5_1), (false), (0), (by first | rfl | (simp; done) | (simp [*]; done)), (by first | rfl | (simp; done) | (simp [*]; done)), H', ⟨Nat.le_refl _⟩, ⟨by (with_reducible repeat (first | apply Kd.R_alloc | apply Kd.R_drewN | apply Kd.R_drew)); exact HO_4.out⟩, ⟨by (with_reducible repeat (first | apply Kd.R_alloc | apply Kd.R_drewN | apply Kd.R_drew)); exact HO_5.out⟩, ⟨by (with_reducible repeat (first | refine blk_drewN ?_ _ | refine blk_drew ?_ | refine blk_alloc ?_ _)); exact BK245.out⟩, ⟨by repeat (first | (with_reducible first | exact HB.out | apply below_alloc | apply pw_below_drewN | apply below_drew1 | refine below_set ?_ GE245.out) | exact HB.out)⟩⟩
      case round =>
       clear H'
       try clear c1
       try clear p2
       try clear c4
       try clear c4b0
       try clear c4b1
       try clear c5
       try clear c5b0
       try clear c5b1
       try clear p6
       try clear c12
       try clear hcz7_0
       try clear hcz7_1
       try clear hcz7_2
       try clear hcz7_3
       try clear hcz9_0
       try clear hcz9_1
       try clear hcz9_2
       try clear hcz9_3
       try clear hfz7_0
       try clear hfz7_1
       try clear hfz7_2
       try clear hfz7_3
       try clear hfz9_0
       try clear hfz9_1
       try clear hfz9_2
       try clear hfz9_3
       try clear p2
       try clear p6
       obtain ⟨x5_2, x6_2, x7_2, rfl, rfl, HA, HK2, HO_4, HO_5, BK245, HB⟩ := hrel
       cases gk with
       | zero => exact absurd HA.out (by simp [emendateref21_first.l1])
       | succ k2 =>
        have H := HA.out
        clear HA
        simp only [emendateref21_first.l1] at H
        by_cases c13 : x7_2 < (l0_3.length : Int)
        ·rw [if_pos c13] at H
         have c13b0 : decide (x7_2 < (l0_3.length : Int)) = true := decide_eq_true c13
         clear c13
         by_cases c14 : 0 ≤ x7_2
         ·rw [if_pos c14] at H
          have c14b0 : decide (0 ≤ x7_2) = true := decide_eq_true c14
          clear c14
          have H' := Aside0.mk H
          clear H
          have hcz15_0 : wr.cell? ⟨gb245, 0, none⟩ = some (.slice A0_0 l0_0.length c0_0) := (blk_cell BK245.out 0).trans rfl
          have hcz15_1 : wr.cell? ⟨gb245, 1, none⟩ = some (.slice A0_1 l0_1.length c0_1) := (blk_cell BK245.out 1).trans rfl
          have hcz15_2 : wr.cell? ⟨gb245, 2, none⟩ = some (.int .i64 a0_2) := (blk_cell BK245.out 2).trans rfl
          have hcz15_3 : wr.cell? ⟨gb245, 3, none⟩ = some (.slice A0_3 l0_3.length c0_3) := (blk_cell BK245.out 3).trans rfl
          have hfz15_0 := blk_frozen BK245.out 0
          have hfz15_1 := blk_frozen BK245.out 1
          have hfz15_2 := blk_frozen BK245.out 2
          have hfz15_3 := blk_frozen BK245.out 3
          have p252 : 0 ≤ (x7_2 : Int) := of_decide_eq_true (by first | (with_reducible assumption) | assumption)
          have q252 : x7_2 < (l0_3.length : Int) := of_decide_eq_true (by first | (with_reducible assumption) | assumption)
          obtain ⟨ad252, A252_1, c252_1, e252, hx252_0, hx252_1, hx252_2, hl252_1, hi252_1⟩ := at_T41 HR0_3.out x7_2 p252 q252
          cases e252
          replace hx252_0 := (HB.out.cell (World.block_lt_of_cell? w _ hx252_0)).trans hx252_0
          replace hx252_1 := (HB.out.cell (World.block_lt_of_cell? w _ hx252_1)).trans hx252_1
          replace hx252_2 := (HB.out.cell (World.block_lt_of_cell? w _ hx252_2)).trans hx252_2
          have HR252_1 := Aside0.mk hi252_1
          have HC252_1 := Aside0.mk hl252_1
          clear hi252_1 hl252_1
          replace p252 := eq_true p252
          replace q252 := eq_true q252
          go_wp2_with (first | ((with_reducible refine gate_dst (N := 8) rfl ?_); refine box_event ?hg (N := 8) ?hd (cs := #[.int .i64 0, .slice none 0 0, .int .i64 0]) (t := 41) ?hr ?_; (case hd => rfl); (case hg => rfl); (case hr => first | (go_simp; done) | (go_simp; rfl)); intro gb253 hg w16 hbox hb; have n0_ := Aside0.mk (Kd.R_below (by (with_reducible repeat (first | apply Kd.R_alloc | apply Kd.R_drewN | apply Kd.R_drew)); exact HO_4.out) hb); have n1_ := Aside0.mk (Kd.R_below (by (with_reducible repeat (first | apply Kd.R_alloc | apply Kd.R_drewN | apply Kd.R_drew)); exact HO_5.out) hb); have n2_ := Aside0.mk (blk_below (g := gb245) (o := .cells #[.slice A0_0 l0_0.length c0_0, .slice A0_1 l0_1.length c0_1, .int .i64 a0_2, .slice (some ad252) l0_3.length c0_3] 25 (0, 0)) (by (with_reducible repeat (first | refine blk_drewN ?_ _ | refine blk_drew ?_ | refine blk_alloc ?_ _)); exact BK245.out) hb); have n3_ := Aside0.mk (below_step (by repeat (first | (with_reducible first | exact HB.out | apply below_alloc | apply pw_below_drewN | apply below_drew1 | refine below_set ?_ GE245.out) | exact HB.out)) hb); have n4_ := Aside0.mk (hbox); have n5_ := Aside0.mk ((by rw [hg]; exact (below_size (by repeat (first | (with_reducible first | exact HB.out | apply below_alloc | apply pw_below_drewN | apply below_drew1 | refine below_set ?_ GE245.out) | exact HB.out))) : w.heap.size ≤ gb253)); have n6_ := Aside0.mk ((by rw [hg]; exact (below_size (by repeat (first | (with_reducible first | exact HB.out | apply below_alloc | apply pw_below_drewN | apply below_drew1 | refine below_set ?_ GE245.out) | exact HB.out))) : w.heap.size ≤ gb253)); have n7_ := Aside0.mk ((by rw [hg]; exact Nat.ne_of_lt (blk_lt (g := gb245) (o := .cells #[.slice A0_0 l0_0.length c0_0, .slice A0_1 l0_1.length c0_1, .int .i64 a0_2, .slice (some ad252) l0_3.length c0_3] 25 (0, 0)) (by (with_reducible repeat (first | refine blk_drewN ?_ _ | refine blk_drew ?_ | refine blk_alloc ?_ _)); exact BK245.out)) : gb245 ≠ gb253)); have n8_ := Aside0.mk ((by rw [hg]; exact Nat.ne_of_gt (blk_lt (g := gb245) (o := .cells #[.slice A0_0 l0_0.length c0_0, .slice A0_1 l0_1.length c0_1, .int .i64 a0_2, .slice (some ad252) l0_3.length c0_3] 25 (0, 0)) (by (with_reducible repeat (first | refine blk_drewN ?_ _ | refine blk_drew ?_ | refine blk_alloc ?_ _)); exact BK245.out)) : gb253 ≠ gb245)); clear HO_4; clear HO_5; clear BK245; clear HB; have HO_4 := n0_; have HO_5 := n1_; have BK245 := n2_; have HB := n3_; have BK253 := n4_; have GW253 := n5_; have GE253 := n6_; have NB245_253 := n7_; have NB253_245 := n8_; clear n0_ n1_ n2_ n3_ n4_ n5_ n6_ n7_ n8_; clear hb hbox hg; have hnb17 := NB253_245.out; have hnc17 := NB245_253.out; have hcz18_0 : w16.cell? ⟨gb253, 0, none⟩ = some (.int .i64 0) := (blk_cell BK253.out 0).trans rfl; have hcz18_1 : w16.cell? ⟨gb253, 1, none⟩ = some (.slice none 0 0) := (blk_cell BK253.out 1).trans rfl; have hcz18_2 : w16.cell? ⟨gb253, 2, none⟩ = some (.int .i64 0) := (blk_cell BK253.out 2).trans rfl; have hfz18_0 := blk_frozen BK253.out 0; have hfz18_1 := blk_frozen BK253.out 1; have hfz18_2 := blk_frozen BK253.out 2))
          go_loopg [6, 9] k2 (fun kq v6 v9 w' => ∃ (x5_3 : List Bool) (x6_3 : Bool) (x9_3 : Int), v6 = .bool x6_3 ∧ v9 = .int .i64 x9_3 ∧ Aside0 (emendateref21_first.l2 kq (l0_0.length : Int) t246 x5_3 x6_3 x7_2 x9_3 l0_0 l0_1 a0_2 l0_3 ((rd_T41 l0_3 x7_2).f0) ((rd_T41 l0_3 x7_2).f1) ((rd_T41 l0_3 x7_2).f2) = some r) ∧ Aside0 (kq ≤ k2) ∧ Aside0 (Kd.R Kd.bool 4 w' w.heap.size (fun k_ => some k_ ≠ (v250 : Value).ownBlock) v247 t246) ∧ Aside0 (Kd.R Kd.bool 4 w' w.heap.size (fun k_ => some k_ ≠ (v247 : Value).ownBlock) v250 x5_3) ∧ Aside0 (w'.heap[gb245]? = some (.cells #[(.slice A0_0 l0_0.length c0_0), (.slice A0_1 l0_1.length c0_1), .int .i64 a0_2, (.slice (some ad252) l0_3.length c0_3)] 25 (0, 0))) ∧ Aside0 (w'.heap[gb253]? = some (.cells #[.int .i64 ((rd_T41 l0_3 x7_2).f0), (.slice A252_1 ((rd_T41 l0_3 x7_2).f1).length c252_1), .int .i64 ((rd_T41 l0_3 x7_2).f2)] 41 (0, 0))) ∧ Aside0 (Below w.heap.size w w'))
          case atStart => exact ⟨(x5_2), (x6_2), (0), (by first | rfl | (simp; done) | (simp [*]; done)), (by first | rfl | (simp; done) | (simp [*]; done)), H', ⟨Nat.le_refl _⟩, ⟨by (with_reducible repeat (first | apply Kd.R_alloc | apply Kd.R_drewN | apply Kd.R_drew)); exact Kd.R_mono (Kd.R_far (p := ⟨gb253, 2, none⟩) (Kd.R_far (p := ⟨gb253, 1, none⟩) (Kd.R_far (p := ⟨gb253, 0, none⟩) (Kd.R_types HO_4.out BK253.out (by decide)) (fun _ hk => hk.2) (.int .i64 ((rd_T41 l0_3 x7_2).f0))) (fun _ hk => hk.2) (.slice A252_1 ((rd_T41 l0_3 x7_2).f1).length c252_1)) (fun _ hk => hk.2) (.int .i64 ((rd_T41 l0_3 x7_2).f2))) (fun _ hk => hk.1)⟩, ⟨by (with_reducible repeat (first | apply Kd.R_alloc | apply Kd.R_drewN | apply Kd.R_drew)); exact Kd.R_mono (Kd.R_far (p := ⟨gb253, 2, none⟩) (Kd.R_far (p := ⟨gb253, 1, none⟩) (Kd.R_far (p := ⟨gb253, 0, none⟩) (Kd.R_types HO_5.out BK253.out (by decide)) (fun _ hk => hk.2) (.int .i64 ((rd_T41 l0_3 x7_2).f0))) (fun _ hk => hk.2) (.slice A252_1 ((rd_T41 l0_3 x7_2).f1).length c252_1)) (fun _ hk => hk.2) (.int .i64 ((rd_T41 l0_3 x7_2).f2))) (fun _ hk => hk.1)⟩, ⟨by (with_reducible repeat (first | refine blk_drewN ?_ _ | refine blk_drew ?_ | refine blk_alloc ?_ _)); refine blk_far ?_ NB245_253.out _; (with_reducible repeat (first | refine blk_drewN ?_ _ | refine blk_drew ?_ | refine blk_alloc ?_ _)); refine blk_far ?_ NB245_253.out _; (with_reducible repeat (first | refine blk_drewN ?_ _ | refine blk_drew ?_ | refine blk_alloc ?_ _)); refine blk_far ?_ NB245_253.out _; (with_reducible repeat (first | refine blk_drewN ?_ _ | refine blk_drew ?_ | refine blk_alloc ?_ _)); exact BK245.out⟩, ⟨by (with_reducible repeat (first | refine blk_drewN ?_ _ | refine blk_drew ?_ | refine blk_alloc ?_ _)); refine blk_put (cs := #[.int .i64 ((rd_T41 l0_3 x7_2).f0), .slice A252_1 ((rd_T41 l0_3 x7_2).f1).length c252_1, .int .i64 0]) ?_ 2 _ rfl; (with_reducible repeat (first | refine blk_drewN ?_ _ | refine blk_drew ?_ | refine blk_alloc ?_ _)); refine blk_put (cs := #[.int .i64 ((rd_T41 l0_3 x7_2).f0), .slice none 0 0, .int .i64 0]) ?_ 1 _ rfl; (with_reducible repeat (first | refine blk_drewN ?_ _ | refine blk_drew ?_ | refine blk_alloc ?_ _)); refine blk_put (cs := #[.int .i64 0, .slice none 0 0, .int .i64 0]) ?_ 0 _ rfl; (with_reducible repeat (first | refine blk_drewN ?_ _ | refine blk_drew ?_ | refine blk_alloc ?_ _)); exact BK253.out⟩, ⟨by repeat (first | (with_reducible first | exact HB.out | apply below_alloc | apply pw_below_drewN | apply below_drew1 | refine below_set ?_ GE245.out | refine below_set ?_ GE253.out) | exact HB.out)⟩⟩
          case round =>
           clear H'
           try clear c1
           try clear c2
           try clear p2
           try clear q2
           try clear hx2
           try clear c4
           try clear c4b0
           try clear c4b1
           try clear c5
           try clear c5b0
           try clear c5b1
           try clear p6
           try clear c12
           try clear c13
           try clear c13b0
           try clear c14
           try clear c14b0
           try clear c17
           try clear hcz15_0
           try clear hcz15_1
           try clear hcz15_2
           try clear hcz15_3
           try clear hcz18_0
           try clear hcz18_1
           try clear hcz18_2
           try clear hcz7_0
           try clear hcz7_1
           try clear hcz7_2
           try clear hcz7_3
           try clear hcz9_0
           try clear hcz9_1
           try clear hcz9_2
           try clear hcz9_3
           try clear hfz15_0
           try clear hfz15_1
           try clear hfz15_2
           try clear hfz15_3
           try clear hfz18_0
           try clear hfz18_1
           try clear hfz18_2
           try clear hfz7_0
           try clear hfz7_1
           try clear hfz7_2
           try clear hfz7_3
           try clear hfz9_0
           try clear hfz9_1
           try clear hfz9_2
           try clear hfz9_3
           try clear hx252_0
           try clear hx252_1
           try clear hx252_2
           try clear p2
           try clear p252
           try clear p6
           try clear q252
           obtain ⟨x5_3, x6_3, x9_3, rfl, rfl, HA, HK3, HO_4, HO_5, BK245, BK253, HB⟩ := hrel
           cases gk with
           | zero => exact absurd HA.out (by simp [emendateref21_first.l2])
           | succ k3 =>
            have H := HA.out
            clear HA
            simp only [emendateref21_first.l2] at H
            have HC19 := Aside0.mk H
            clear H
            go_upto_region 12 with (fail)
            go_cut [48] (fun v48 wc => ∃ (kq : Nat) (x48_18 : Bool), v48 = .bool x48_18 ∧ Aside0 (emendateref21_first.j3 kq (l0_0.length : Int) t246 x5_3 x6_3 x7_2 x9_3 x48_18 l0_0 l0_1 a0_2 l0_3 ((rd_T41 l0_3 x7_2).f0) ((rd_T41 l0_3 x7_2).f1) ((rd_T41 l0_3 x7_2).f2) = some r) ∧ Aside0 (kq ≤ k3) ∧ Aside0 (Kd.R Kd.bool 4 wc w.heap.size (fun k_ => some k_ ≠ (v250 : Value).ownBlock) v247 t246) ∧ Aside0 (Kd.R Kd.bool 4 wc w.heap.size (fun k_ => some k_ ≠ (v247 : Value).ownBlock) v250 x5_3) ∧ Aside0 (wc.heap[gb245]? = some (.cells #[(.slice A0_0 l0_0.length c0_0), (.slice A0_1 l0_1.length c0_1), .int .i64 a0_2, (.slice (some ad252) l0_3.length c0_3)] 25 (0, 0))) ∧ Aside0 (wc.heap[gb253]? = some (.cells #[.int .i64 ((rd_T41 l0_3 x7_2).f0), (.slice A252_1 ((rd_T41 l0_3 x7_2).f1).length c252_1), .int .i64 ((rd_T41 l0_3 x7_2).f2)] 41 (0, 0))) ∧ Aside0 (Below w.heap.size w wc))
            case first =>
             have H := HC19.out
             clear HC19
             by_cases c20 : x9_3 < (((rd_T41 l0_3 x7_2).f1).length : Int)
             ·rw [if_pos c20] at H
              have c20b0 : decide (x9_3 < (((rd_T41 l0_3 x7_2).f1).length : Int)) = true := decide_eq_true c20
              clear c20
              (first | rw [c20b0] | (simp only [i64_w, i32_w]; rw [c20b0]) | skip)
              by_cases c21 : 0 ≤ x9_3
              ·rw [if_pos c21] at H
               have c21b0 := eq_true c21
               have c21b1 : decide (0 ≤ x9_3) = true := decide_eq_true c21
               clear c21
               by_cases c22 : x9_3 ≤ (((rd_T41 l0_3 x7_2).f1).length : Int)
               ·rw [if_pos c22] at H
                have c22b0 := eq_true c22
                have c22b1 : decide (x9_3 ≤ (((rd_T41 l0_3 x7_2).f1).length : Int)) = true := decide_eq_true c22
                clear c22
                replace H := Option.bind_eq_some_iff.mp H
                obtain ⟨t255, A230, H⟩ := H
                replace H : (emendateref21_first.j3 k3 (l0_0.length : Int) t246 x5_3 x6_3 x7_2 x9_3 t255 l0_0 l0_1 a0_2 l0_3 ((rd_T41 l0_3 x7_2).f0) ((rd_T41 l0_3 x7_2).f1) ((rd_T41 l0_3 x7_2).f2)) = some r := H
                have A23 := Aside0.mk A230
                clear A230
                have H' := Aside0.mk H
                clear H
                have hnb24 := NB253_245.out
                have hnc24 := NB245_253.out
                have hcz25_0 : wr.cell? ⟨gb253, 0, none⟩ = some (.int .i64 ((rd_T41 l0_3 x7_2).f0)) := (blk_cell BK253.out 0).trans rfl
                have hcz25_1 : wr.cell? ⟨gb253, 1, none⟩ = some (.slice A252_1 ((rd_T41 l0_3 x7_2).f1).length c252_1) := (blk_cell BK253.out 1).trans rfl
                have hcz25_2 : wr.cell? ⟨gb253, 2, none⟩ = some (.int .i64 ((rd_T41 l0_3 x7_2).f2)) := (blk_cell BK253.out 2).trans rfl
                have hfz25_0 := blk_frozen BK253.out 0
                have hfz25_1 := blk_frozen BK253.out 1
                have hfz25_2 := blk_frozen BK253.out 2
                obtain ⟨i026, hi026, _, hsz26, _⟩ := info_parts info3
                obtain ⟨hcut26, hA26, hC26⟩ := print_take_of (P := Try.prog) (Value.int .i64) 0 39 3 .i64 Try.underlying39 hi026 hsz26 A252_1 c252_1 ((rd_T41 l0_3 x7_2).f1) x9_3 (of_decide_eq_true (by first | (with_reducible assumption) | assumption)) (of_decide_eq_true (by first | (with_reducible assumption) | assumption)) HC252_1.out
                have HLN26 := Aside0.mk (len_take_n ((rd_T41 l0_3 x7_2).f1) (x9_3) (of_decide_eq_true (by first | (with_reducible assumption) | assumption)) (of_decide_eq_true (by first | (with_reducible assumption) | assumption)))
                have HR254 := Aside0.mk (Kd.C_of_reads (h1 := fun _ => rfl) (hA26 _ (Kd.reads_of_C HR252_1.out)))
                have HC254 := Aside0.mk hC26
                clear hA26 hC26 hi026 hsz26
                obtain ⟨Ao27, co27, eo27⟩ := Kd.R_slice HO_4.out
                subst eo27
                go_wp2_with (first | (go_at_call 40; (with_reducible refine (emendateref21_all.callsN k3 _ _ (((rd_T41 l0_3 x7_2).f1).take (x9_3 : Int).toNat) HLN26.out _ _ t246 false t255 _ ?side1 ?side2 ?side3 ?side4 A23.out).mono ?_); (case side1 => repeat (first | exact (Kd.C_below HR254.out HB.out) | (with_reducible refine Kd.C_alloc ?_ _) | (with_reducible refine Kd.C_drewN ?_ _) | (with_reducible refine Kd.C_drew ?_))); (case side2 => exact HC254.out); (case side3 => repeat (first | exact (Kd.R_reads' HO_4.out).2.2 | (with_reducible refine Kd.C_alloc ?_ _) | (with_reducible refine Kd.C_drewN ?_ _) | (with_reducible refine Kd.C_drew ?_))); (case side4 => exact (Kd.R_reads' HO_4.out).2.1); rintro e w' ⟨rfl, ⟨nd, rfl⟩⟩))
                go_meet
                case rel => exact ⟨_, (t255), (by first | rfl | (simp; done) | (simp [*]; done)), H', ⟨by have := HK1.out; have := HK2.out; have := HK3.out; first | omega | exact Nat.le_refl _⟩, ⟨by (with_reducible repeat (first | apply Kd.R_alloc | apply Kd.R_drewN | apply Kd.R_drew)); exact HO_4.out⟩, ⟨by (with_reducible repeat (first | apply Kd.R_alloc | apply Kd.R_drewN | apply Kd.R_drew)); exact HO_5.out⟩, ⟨by (with_reducible repeat (first | refine blk_drewN ?_ _ | refine blk_drew ?_ | refine blk_alloc ?_ _)); exact BK245.out⟩, ⟨by (with_reducible repeat (first | refine blk_drewN ?_ _ | refine blk_drew ?_ | refine blk_alloc ?_ _)); exact BK253.out⟩, ⟨by repeat (first | (with_reducible first | exact HB.out | apply below_alloc | apply pw_below_drewN | apply below_drew1 | refine below_set ?_ GE245.out | refine below_set ?_ GE253.out) | exact HB.out)⟩⟩
               ·rw [if_neg c22] at H
                exact absurd H (by simp)
              ·rw [if_neg c21] at H
               exact absurd H (by simp)
             ·rw [if_neg c20] at H
              have c20b0 : decide (x9_3 < (((rd_T41 l0_3 x7_2).f1).length : Int)) = false := decide_eq_false c20
              clear c20
              (first | rw [c20b0] | (simp only [i64_w, i32_w]; rw [c20b0]) | skip)
              have H' := Aside0.mk H
              clear H
              have hnb28 := NB253_245.out
              have hnc28 := NB245_253.out
              have hcz29_0 : wr.cell? ⟨gb253, 0, none⟩ = some (.int .i64 ((rd_T41 l0_3 x7_2).f0)) := (blk_cell BK253.out 0).trans rfl
              have hcz29_1 : wr.cell? ⟨gb253, 1, none⟩ = some (.slice A252_1 ((rd_T41 l0_3 x7_2).f1).length c252_1) := (blk_cell BK253.out 1).trans rfl
              have hcz29_2 : wr.cell? ⟨gb253, 2, none⟩ = some (.int .i64 ((rd_T41 l0_3 x7_2).f2)) := (blk_cell BK253.out 2).trans rfl
              have hfz29_0 := blk_frozen BK253.out 0
              have hfz29_1 := blk_frozen BK253.out 1
              have hfz29_2 := blk_frozen BK253.out 2
              go_wp2
              go_meet
              case rel => exact ⟨_, (false), (by first | rfl | (simp; done) | (simp [*]; done)), H', ⟨by have := HK1.out; have := HK2.out; have := HK3.out; first | omega | exact Nat.le_refl _⟩, ⟨by (with_reducible repeat (first | apply Kd.R_alloc | apply Kd.R_drewN | apply Kd.R_drew)); exact HO_4.out⟩, ⟨by (with_reducible repeat (first | apply Kd.R_alloc | apply Kd.R_drewN | apply Kd.R_drew)); exact HO_5.out⟩, ⟨by (with_reducible repeat (first | refine blk_drewN ?_ _ | refine blk_drew ?_ | refine blk_alloc ?_ _)); exact BK245.out⟩, ⟨by (with_reducible repeat (first | refine blk_drewN ?_ _ | refine blk_drew ?_ | refine blk_alloc ?_ _)); exact BK253.out⟩, ⟨by repeat (first | (with_reducible first | exact HB.out | apply below_alloc | apply pw_below_drewN | apply below_drew1 | refine below_set ?_ GE245.out | refine below_set ?_ GE253.out) | exact HB.out)⟩⟩
            case rest =>
             clear HC19
             try clear c1
             try clear c2
             try clear p2
             try clear q2
             try clear hx2
             try clear c4
             try clear c4b0
             try clear c4b1
             try clear c5
             try clear c5b0
             try clear c5b1
             try clear p6
             try clear c12
             try clear c13
             try clear c13b0
             try clear c14
             try clear c14b0
             try clear c17
             try clear c20
             try clear c20b0
             try clear c21
             try clear c21b0
             try clear c21b1
             try clear c22
             try clear c22b0
             try clear c22b1
             try clear c24
             try clear c25
             try clear p25
             try clear q25
             try clear hx25
             try clear c28
             try clear hcz15_0
             try clear hcz15_1
             try clear hcz15_2
             try clear hcz15_3
             try clear hcz18_0
             try clear hcz18_1
             try clear hcz18_2
             try clear hcz25_0
             try clear hcz25_1
             try clear hcz25_2
             try clear hcz29_0
             try clear hcz29_1
             try clear hcz29_2
             try clear hcz7_0
             try clear hcz7_1
             try clear hcz7_2
             try clear hcz7_3
             try clear hcz9_0
             try clear hcz9_1
             try clear hcz9_2
             try clear hcz9_3
             try clear hfz15_0
             try clear hfz15_1
             try clear hfz15_2
             try clear hfz15_3
             try clear hfz18_0
             try clear hfz18_1
             try clear hfz18_2
             try clear hfz25_0
             try clear hfz25_1
             try clear hfz25_2
             try clear hfz29_0
             try clear hfz29_1
             try clear hfz29_2
             try clear hfz7_0
             try clear hfz7_1
             try clear hfz7_2
             try clear hfz7_3
             try clear hfz9_0
             try clear hfz9_1
             try clear hfz9_2
             try clear hfz9_3
             try clear hx252_0
             try clear hx252_1
             try clear hx252_2
             try clear p2
             try clear p252
             try clear p6
             try clear q2
             try clear q252
             obtain ⟨kq, x48_18, rfl, HA, HJ18, HO_4, HO_5, BK245, BK253, HB⟩ := hcut
             cases kq with
             | zero => exact absurd HA.out (by simp [emendateref21_first.j3])
             | succ kj18 =>
              have H := HA.out
              clear HA
              simp only [emendateref21_first.j3] at H
              by_cases c30 : x48_18 = true
              ·subst c30
               have H1 : (emendateref21_first.l3 kj18 (l0_0.length : Int) t246 x5_3 x6_3 x7_2 x9_3 0 l0_0 l0_1 a0_2 l0_3 ((rd_T41 l0_3 x7_2).f0) ((rd_T41 l0_3 x7_2).f1) ((rd_T41 l0_3 x7_2).f2)) = some r := by rw [if_pos rfl] at H; exact H
               clear H
               have H := H1
               clear H1
               have H' := Aside0.mk H
               clear H
               go_wp2
               go_loopg [6, 10] kj18 (fun kq v6 v10 w' => ∃ (x5_5 : List Bool) (x6_5 : Bool) (x10_5 : Int), v6 = .bool x6_5 ∧ v10 = .int .i64 x10_5 ∧ Aside0 (emendateref21_first.l3 kq (l0_0.length : Int) t246 x5_5 x6_5 x7_2 x9_3 x10_5 l0_0 l0_1 a0_2 l0_3 ((rd_T41 l0_3 x7_2).f0) ((rd_T41 l0_3 x7_2).f1) ((rd_T41 l0_3 x7_2).f2) = some r) ∧ Aside0 (kq ≤ kj18) ∧ Aside0 (Kd.R Kd.bool 4 w' w.heap.size (fun k_ => some k_ ≠ (v250 : Value).ownBlock) v247 t246) ∧ Aside0 (Kd.R Kd.bool 4 w' w.heap.size (fun k_ => some k_ ≠ (v247 : Value).ownBlock) v250 x5_5) ∧ Aside0 (w'.heap[gb245]? = some (.cells #[(.slice A0_0 l0_0.length c0_0), (.slice A0_1 l0_1.length c0_1), .int .i64 a0_2, (.slice (some ad252) l0_3.length c0_3)] 25 (0, 0))) ∧ Aside0 (w'.heap[gb253]? = some (.cells #[.int .i64 ((rd_T41 l0_3 x7_2).f0), (.slice A252_1 ((rd_T41 l0_3 x7_2).f1).length c252_1), .int .i64 ((rd_T41 l0_3 x7_2).f2)] 41 (0, 0))) ∧ Aside0 (Below w.heap.size w w'))
               case atStart => exact ⟨(x5_3), (x6_3), (0), (by first | rfl | (simp; done) | (simp [*]; done)), (by first | rfl | (simp; done) | (simp [*]; done)), H', ⟨Nat.le_refl _⟩, ⟨by (with_reducible repeat (first | apply Kd.R_alloc | apply Kd.R_drewN | apply Kd.R_drew)); exact HO_4.out⟩, ⟨by (with_reducible repeat (first | apply Kd.R_alloc | apply Kd.R_drewN | apply Kd.R_drew)); exact HO_5.out⟩, ⟨by (with_reducible repeat (first | refine blk_drewN ?_ _ | refine blk_drew ?_ | refine blk_alloc ?_ _)); exact BK245.out⟩, ⟨by (with_reducible repeat (first | refine blk_drewN ?_ _ | refine blk_drew ?_ | refine blk_alloc ?_ _)); exact BK253.out⟩, ⟨by repeat (first | (with_reducible first | exact HB.out | apply below_alloc | apply pw_below_drewN | apply below_drew1 | refine below_set ?_ GE245.out | refine below_set ?_ GE253.out) | exact HB.out)⟩⟩
               case round =>
                clear H'
                try clear c1
                try clear c2
                try clear p2
                try clear q2
                try clear hx2
                try clear c3
                try clear c4
                try clear c4b0
                try clear c4b1
                try clear c5
                try clear c5b0
                try clear c5b1
                try clear p6
                try clear c12
                try clear c13
                try clear c13b0
                try clear c14
                try clear c14b0
                try clear c17
                try clear c20
                try clear c20b0
                try clear c21
                try clear c21b0
                try clear c21b1
                try clear c22
                try clear c22b0
                try clear c22b1
                try clear c24
                try clear c25
                try clear p25
                try clear q25
                try clear hx25
                try clear c28
                try clear c30
                try clear hcz15_0
                try clear hcz15_1
                try clear hcz15_2
                try clear hcz15_3
                try clear hcz18_0
                try clear hcz18_1
                try clear hcz18_2
                try clear hcz25_0
                try clear hcz25_1
                try clear hcz25_2
                try clear hcz29_0
                try clear hcz29_1
                try clear hcz29_2
                try clear hcz7_0
                try clear hcz7_1
                try clear hcz7_2
                try clear hcz7_3
                try clear hcz9_0
                try clear hcz9_1
                try clear hcz9_2
                try clear hcz9_3
                try clear hfz15_0
                try clear hfz15_1
                try clear hfz15_2
                try clear hfz15_3
                try clear hfz18_0
                try clear hfz18_1
                try clear hfz18_2
                try clear hfz25_0
                try clear hfz25_1
                try clear hfz25_2
                try clear hfz29_0
                try clear hfz29_1
                try clear hfz29_2
                try clear hfz7_0
                try clear hfz7_1
                try clear hfz7_2
                try clear hfz7_3
                try clear hfz9_0
                try clear hfz9_1
                try clear hfz9_2
                try clear hfz9_3
                try clear hx252_0
                try clear hx252_1
                try clear hx252_2
                try clear p2
                try clear p25
                try clear p252
                try clear p6
                try clear q2
                try clear q25
                try clear q252
                obtain ⟨x5_5, x6_5, x10_5, rfl, rfl, HA, HK5, HO_4, HO_5, BK245, BK253, HB⟩ := hrel
                cases gk with
                | zero => exact absurd HA.out (by simp [emendateref21_first.l3])
                | succ k5 =>
                 have H := HA.out
                 clear HA
                 simp only [emendateref21_first.l3] at H
                 by_cases c31 : x10_5 < (l0_0.length : Int)
                 ·rw [if_pos c31] at H
                  have c31b0 : decide (x10_5 < (l0_0.length : Int)) = true := decide_eq_true c31
                  clear c31
                  by_cases c32 : 0 ≤ x9_3
                  ·rw [if_pos c32] at H
                   have c32b0 : decide (0 ≤ x9_3) = true := decide_eq_true c32
                   clear c32
                   by_cases c33 : x9_3 < (((rd_T41 l0_3 x7_2).f1).length : Int)
                   ·rw [if_pos c33] at H
                    have c33b0 : decide (x9_3 < (((rd_T41 l0_3 x7_2).f1).length : Int)) = true := decide_eq_true c33
                    clear c33
                    by_cases c34 : (rd ((rd_T41 l0_3 x7_2).f1) x9_3) = x10_5
                    ·rw [if_pos c34] at H
                     have c34b0 : ((rd ((rd_T41 l0_3 x7_2).f1) x9_3) == x10_5) = true := beq_iff_eq.mpr c34
                     have c34b1 : ((rd ((rd_T41 l0_3 x7_2).f1) x9_3) != x10_5) = false := bne_eq_false_iff_eq.mpr c34
                     clear c34
                     obtain ⟨ji35, hji35⟩ : ∃ j_ : Int, (wrap64 ((wrap64 (((rd_T41 l0_3 x7_2).f0) * (l0_0.length : Int))) + x10_5)) = j_ := ⟨_, rfl⟩
                     replace H : (if 0 ≤ (ji35) then (if (ji35) < (x5_5.length : Int) then (if (rdOf false x5_5 (ji35) = true) then (emendateref21_first.l3 k5 (l0_0.length : Int) t246 x5_5 x6_5 x7_2 x9_3 (wrap64 (x10_5 + 1)) l0_0 l0_1 a0_2 l0_3 ((rd_T41 l0_3 x7_2).f0) ((rd_T41 l0_3 x7_2).f1) ((rd_T41 l0_3 x7_2).f2)) else (emendateref21_first.l3 k5 (l0_0.length : Int) t246 (x5_5.set ((ji35) : Int).toNat true) true x7_2 x9_3 (wrap64 (x10_5 + 1)) l0_0 l0_1 a0_2 l0_3 ((rd_T41 l0_3 x7_2).f0) ((rd_T41 l0_3 x7_2).f1) ((rd_T41 l0_3 x7_2).f2))) else (none)) else (none)) = some r := by first | (rw [hji35] at H; exact H) | (simp only [hji35] at H ⊢; exact H)
                     have hji35w : (IntKind.i64.wrap ((wrap64 (((rd_T41 l0_3 x7_2).f0) * (l0_0.length : Int))) + x10_5)) = ji35 := (i64_w _).trans hji35
                     by_cases c36 : 0 ≤ (ji35)
                     ·rw [if_pos c36] at H
                      have c36b0 : decide (0 ≤ (ji35)) = true := decide_eq_true c36
                      clear c36
                      by_cases c37 : (ji35) < (x5_5.length : Int)
                      ·rw [if_pos c37] at H
                       have c37b0 : decide ((ji35) < (x5_5.length : Int)) = true := decide_eq_true c37
                       clear c37
                       obtain ⟨bq38, hbq38⟩ : ∃ b_ : Bool, b_ = (rdOf false x5_5 (ji35)) := ⟨_, rfl⟩
                       replace H : (if (bq38 = true) then (emendateref21_first.l3 k5 (l0_0.length : Int) t246 x5_5 x6_5 x7_2 x9_3 (wrap64 (x10_5 + 1)) l0_0 l0_1 a0_2 l0_3 ((rd_T41 l0_3 x7_2).f0) ((rd_T41 l0_3 x7_2).f1) ((rd_T41 l0_3 x7_2).f2)) else (emendateref21_first.l3 k5 (l0_0.length : Int) t246 (x5_5.set ((ji35) : Int).toNat true) true x7_2 x9_3 (wrap64 (x10_5 + 1)) l0_0 l0_1 a0_2 l0_3 ((rd_T41 l0_3 x7_2).f0) ((rd_T41 l0_3 x7_2).f1) ((rd_T41 l0_3 x7_2).f2))) = some r := by rw [← hbq38] at H; exact H
                       have Nbq38 := Aside0.mk hbq38
                       clear hbq38
                       by_cases c39 : (bq38 = true)
                       ·subst c39
                        have H1 : (emendateref21_first.l3 k5 (l0_0.length : Int) t246 x5_5 x6_5 x7_2 x9_3 (wrap64 (x10_5 + 1)) l0_0 l0_1 a0_2 l0_3 ((rd_T41 l0_3 x7_2).f0) ((rd_T41 l0_3 x7_2).f1) ((rd_T41 l0_3 x7_2).f2)) = some r := by rw [if_pos rfl] at H; exact H
                        clear H
                        have H := H1
                        clear H1
                        have H' := Aside0.mk H
                        clear H
                        have hnb40 := NB253_245.out
                        have hnc40 := NB245_253.out
                        have hcz41_0 : wr.cell? ⟨gb253, 0, none⟩ = some (.int .i64 ((rd_T41 l0_3 x7_2).f0)) := (blk_cell BK253.out 0).trans rfl
                        have hcz41_1 : wr.cell? ⟨gb253, 1, none⟩ = some (.slice A252_1 ((rd_T41 l0_3 x7_2).f1).length c252_1) := (blk_cell BK253.out 1).trans rfl
                        have hcz41_2 : wr.cell? ⟨gb253, 2, none⟩ = some (.int .i64 ((rd_T41 l0_3 x7_2).f2)) := (blk_cell BK253.out 2).trans rfl
                        have hfz41_0 := blk_frozen BK253.out 0
                        have hfz41_1 := blk_frozen BK253.out 1
                        have hfz41_2 := blk_frozen BK253.out 2
                        have p256 : 0 ≤ (x9_3 : Int) := of_decide_eq_true (by first | (with_reducible assumption) | assumption)
                        have q256 : x9_3 < (((rd_T41 l0_3 x7_2).f1).length : Int) := of_decide_eq_true (by first | (with_reducible assumption) | assumption)
                        obtain ⟨ad256, e256, hx256_0⟩ := Kd.at_int HR252_1.out x9_3 p256 q256
                        cases e256
                        replace hx256_0 := (HB.out.cell (World.block_lt_of_cell? w _ hx256_0)).trans hx256_0
                        replace p256 := eq_true p256
                        replace q256 := eq_true q256
                        obtain ⟨Ao42, co42, eo42⟩ := Kd.R_slice HO_5.out
                        subst eo42
                        have p257 : 0 ≤ ((ji35) : Int) := of_decide_eq_true (by first | (with_reducible assumption) | assumption)
                        have q257 : (ji35) < (x5_5.length : Int) := of_decide_eq_true (by first | (with_reducible assumption) | assumption)
                        obtain ⟨ad257, e257, hx257_0⟩ := Kd.at_bool (Kd.R_reads' HO_5.out).2.2 (ji35) p257 q257
                        (try rw [← Nbq38.out] at hx257_0)
                        cases e257
                        replace p257 := eq_true p257
                        replace q257 := eq_true q257
                        go_wp2
                        go_roundg k5
                        case measure => have := HK1.out; have := HK2.out; have := HK3.out; have := HJ18.out; have := HK5.out; omega
                        case rel => exact ⟨(x5_5), (x6_5), (wrap64 (x10_5 + 1)), (by first | rfl | (simp; done) | (simp [*]; done)), (by first | rfl | (simp; done) | (simp [*]; done)), H', ⟨by have := HK1.out; have := HK2.out; have := HK3.out; have := HJ18.out; have := HK5.out; omega⟩, ⟨by (with_reducible repeat (first | apply Kd.R_alloc | apply Kd.R_drewN | apply Kd.R_drew)); exact HO_4.out⟩, ⟨by (with_reducible repeat (first | apply Kd.R_alloc | apply Kd.R_drewN | apply Kd.R_drew)); exact HO_5.out⟩, ⟨by (with_reducible repeat (first | refine blk_drewN ?_ _ | refine blk_drew ?_ | refine blk_alloc ?_ _)); exact BK245.out⟩, ⟨by (with_reducible repeat (first | refine blk_drewN ?_ _ | refine blk_drew ?_ | refine blk_alloc ?_ _)); exact BK253.out⟩, ⟨by repeat (first | (with_reducible first | exact HB.out | apply below_alloc | apply pw_below_drewN | apply below_drew1 | refine below_set ?_ GE245.out | refine below_set ?_ GE253.out) | exact HB.out)⟩⟩
                       ·replace c39 := Bool.eq_false_iff.mpr c39
                        subst c39
                        have H1 : (emendateref21_first.l3 k5 (l0_0.length : Int) t246 (x5_5.set ((ji35) : Int).toNat true) true x7_2 x9_3 (wrap64 (x10_5 + 1)) l0_0 l0_1 a0_2 l0_3 ((rd_T41 l0_3 x7_2).f0) ((rd_T41 l0_3 x7_2).f1) ((rd_T41 l0_3 x7_2).f2)) = some r := by rw [if_neg (show ¬ (false = true) by decide)] at H; exact H
                        clear H
                        have H := H1
                        clear H1
                        obtain ⟨y258, hy258⟩ : ∃ y_ : List Bool, y_ = (x5_5.set ((ji35) : Int).toNat true) := ⟨_, rfl⟩
                        replace H : (emendateref21_first.l3 k5 (l0_0.length : Int) t246 y258 true x7_2 x9_3 (wrap64 (x10_5 + 1)) l0_0 l0_1 a0_2 l0_3 ((rd_T41 l0_3 x7_2).f0) ((rd_T41 l0_3 x7_2).f1) ((rd_T41 l0_3 x7_2).f2)) = some r := by first | (rw [hy258]; with_reducible exact H) | (have H2_ := (Option.bind_some _ _).symm.trans H; rw [hy258]; with_reducible exact H2_) | (have H2_ := (Option.bind_some _ _).symm.trans H; with_reducible exact H2_) | with_reducible exact H | (rw [hy258]; exact H) | exact H
                        have Ny258 := Aside0.mk hy258
                        clear hy258
                        have H' := Aside0.mk H
                        clear H
                        have hnb44 := NB253_245.out
                        have hnc44 := NB245_253.out
                        have hcz45_0 : wr.cell? ⟨gb253, 0, none⟩ = some (.int .i64 ((rd_T41 l0_3 x7_2).f0)) := (blk_cell BK253.out 0).trans rfl
                        have hcz45_1 : wr.cell? ⟨gb253, 1, none⟩ = some (.slice A252_1 ((rd_T41 l0_3 x7_2).f1).length c252_1) := (blk_cell BK253.out 1).trans rfl
                        have hcz45_2 : wr.cell? ⟨gb253, 2, none⟩ = some (.int .i64 ((rd_T41 l0_3 x7_2).f2)) := (blk_cell BK253.out 2).trans rfl
                        have hfz45_0 := blk_frozen BK253.out 0
                        have hfz45_1 := blk_frozen BK253.out 1
                        have hfz45_2 := blk_frozen BK253.out 2
                        have p256 : 0 ≤ (x9_3 : Int) := of_decide_eq_true (by first | (with_reducible assumption) | assumption)
                        have q256 : x9_3 < (((rd_T41 l0_3 x7_2).f1).length : Int) := of_decide_eq_true (by first | (with_reducible assumption) | assumption)
                        obtain ⟨ad256, e256, hx256_0⟩ := Kd.at_int HR252_1.out x9_3 p256 q256
                        cases e256
                        replace hx256_0 := (HB.out.cell (World.block_lt_of_cell? w _ hx256_0)).trans hx256_0
                        replace p256 := eq_true p256
                        replace q256 := eq_true q256
                        obtain ⟨Ao46, co46, eo46⟩ := Kd.R_slice HO_5.out
                        subst eo46
                        have p257 : 0 ≤ ((ji35) : Int) := of_decide_eq_true (by first | (with_reducible assumption) | assumption)
                        have q257 : (ji35) < (x5_5.length : Int) := of_decide_eq_true (by first | (with_reducible assumption) | assumption)
                        obtain ⟨ad257, e257, hx257_0⟩ := Kd.at_bool (Kd.R_reads' HO_5.out).2.2 (ji35) p257 q257
                        (try rw [← Nbq38.out] at hx257_0)
                        cases e257
                        replace p257 := eq_true p257
                        replace q257 := eq_true q257
                        have p43 : 0 ≤ ((ji35) : Int) := of_decide_eq_true (by first | (with_reducible assumption) | assumption)
                        have q43 : ((ji35) : Int) < ((x5_5.length : Int) : Int) := of_decide_eq_true (by first | (with_reducible assumption) | assumption)
                        obtain ⟨go43, co43, eo43, gb43, gl43, cl43, HG43⟩ := Kd.R_form HO_5.out (by omega)
                        (first | cases eo43 | (injection eo43 with ea_ en_ ec_; (first | subst ea_ | (injection ea_ with ea_; subst ea_)); subst ec_; clear en_))
                        have GB43 := Aside0.mk gb43
                        have GG43 := Aside0.mk HG43
                        clear gb43 gl43 HG43
                        (first | simp only [add_plain] at hx257_0 | skip)
                        obtain ⟨hx43_0, hf43_0⟩ := Kd.R_celln false HO_5.out ((ji35) : Int) p43 q43
                        replace p43 := eq_true p43
                        replace q43 := eq_true q43
                        have HP47 := Kd.R_putg HO_5.out ((ji35) : Int) true
                        go_wp2_with (first | ((with_reducible refine gate_store (t := 4) (p := 106) rfl ?_); refine store_event (t := 4) (p := 106) (v := ?vo_w48) (w1 := (wr.setCell ⟨go43, ((ji35) : Int).toNat, none⟩ (.bool true))) ?hg ?ho ?hn ?hr ?_; (case ho => rfl); (case hg => rfl); (case hn => rfl); (case hr => first | (go_simp; done) | (go_simp; rfl)); intro w48 hw; have hg : wr.grownBy w48 (some go43) := (by rw [hw]; exact HP47.2); have hp_ : Kd.R Kd.bool 4 w48 w.heap.size (fun k_ => some k_ ≠ (v247 : Value).ownBlock) (.slice (some ⟨go43, 0, none⟩) x5_5.length co46) y258 := (by rw [hw, Ny258.out]; exact HP47.1); clear HP47; have n0_ := Aside0.mk (Kd.R_after (v := (.slice (some ⟨go43, 0, none⟩) x5_5.length co46)) (v1 := (.slice (some ⟨go43, 0, none⟩) x5_5.length co46)) (ok := (fun _ => True)) (by (with_reducible repeat (first | apply Kd.R_alloc | apply Kd.R_drewN | apply Kd.R_drew)); exact Kd.R_mono HO_4.out (fun _ hk => ⟨trivial, hk⟩)) hg (.inl rfl)); have n1_ := Aside0.mk (hp_); have n2_ := Aside0.mk (blk_grown (g := gb245) (o := .cells #[.slice A0_0 l0_0.length c0_0, .slice A0_1 l0_1.length c0_1, .int .i64 a0_2, .slice (some ad252) l0_3.length c0_3] 25 (0, 0)) (by (with_reducible repeat (first | refine blk_drewN ?_ _ | refine blk_drew ?_ | refine blk_alloc ?_ _)); exact BK245.out) hg (Kd.R_ne HO_5.out BK245.out (by decide))); have n3_ := Aside0.mk (blk_grown (g := gb253) (o := .cells #[.int .i64 ((rd_T41 l0_3 x7_2).f0), .slice (some ad256) ((rd_T41 l0_3 x7_2).f1).length c252_1, .int .i64 ((rd_T41 l0_3 x7_2).f2)] 41 (0, 0)) (by (with_reducible repeat (first | refine blk_drewN ?_ _ | refine blk_drew ?_ | refine blk_alloc ?_ _)); exact BK253.out) hg (Kd.R_ne HO_5.out BK253.out (by decide))); have n4_ := Aside0.mk ((by rw [hw]; exact below_set (HB.out) GB43.out : Below w.heap.size w w48)); clear HO_4; clear HO_5; clear BK245; clear BK253; clear HB; have HO_4 := n0_; have HO_5 := n1_; have BK245 := n2_; have BK253 := n3_; have HB := n4_; clear n0_ n1_ n2_ n3_ n4_; clear hg hw hp_))
                        go_roundg k5
                        case measure => have := HK1.out; have := HK2.out; have := HK3.out; have := HJ18.out; have := HK5.out; omega
                        case rel => exact ⟨(y258), (true), (wrap64 (x10_5 + 1)), (by first | rfl | (simp; done) | (simp [*]; done)), (by first | rfl | (simp; done) | (simp [*]; done)), H', ⟨by have := HK1.out; have := HK2.out; have := HK3.out; have := HJ18.out; have := HK5.out; omega⟩, ⟨by (with_reducible repeat (first | apply Kd.R_alloc | apply Kd.R_drewN | apply Kd.R_drew)); exact Kd.R_mono HO_4.out (fun _ hk => hk.2)⟩, ⟨by (with_reducible repeat (first | apply Kd.R_alloc | apply Kd.R_drewN | apply Kd.R_drew)); exact HO_5.out⟩, ⟨by (with_reducible repeat (first | refine blk_drewN ?_ _ | refine blk_drew ?_ | refine blk_alloc ?_ _)); exact BK245.out⟩, ⟨by (with_reducible repeat (first | refine blk_drewN ?_ _ | refine blk_drew ?_ | refine blk_alloc ?_ _)); exact BK253.out⟩, ⟨by repeat (first | (with_reducible first | exact HB.out | apply below_alloc | apply pw_below_drewN | apply below_drew1 | refine below_set ?_ GE245.out | refine below_set ?_ GE253.out) | exact HB.out)⟩⟩
                      ·rw [if_neg c37] at H
                       exact absurd H (by simp)
                     ·rw [if_neg c36] at H
                      exact absurd H (by simp)
                    ·rw [if_neg c34] at H
                     have c34b0 : ((rd ((rd_T41 l0_3 x7_2).f1) x9_3) == x10_5) = false := beq_eq_false_iff_ne.mpr c34
                     have c34b1 : ((rd ((rd_T41 l0_3 x7_2).f1) x9_3) != x10_5) = true := bne_iff_ne.mpr c34
                     by_cases c49 : (rd ((rd_T41 l0_3 x7_2).f1) x9_3) < 0
                     ·rw [if_pos c49] at H
                      have c49b0 : decide ((rd ((rd_T41 l0_3 x7_2).f1) x9_3) < 0) = true := decide_eq_true c49
                      clear c49
                      obtain ⟨ji50, hji50⟩ : ∃ j_ : Int, (wrap64 ((wrap64 ((wrap64 ((-1) - (rd ((rd_T41 l0_3 x7_2).f1) x9_3))) * (l0_0.length : Int))) + x10_5)) = j_ := ⟨_, rfl⟩
                      replace H : (if 0 ≤ (ji50) then (if (ji50) < (x5_5.length : Int) then (if rdOf false x5_5 (ji50) = true then (if 0 ≤ (wrap64 ((wrap64 (((rd_T41 l0_3 x7_2).f0) * (l0_0.length : Int))) + x10_5)) then (if (wrap64 ((wrap64 (((rd_T41 l0_3 x7_2).f0) * (l0_0.length : Int))) + x10_5)) < (x5_5.length : Int) then (if (rdOf false x5_5 (wrap64 ((wrap64 (((rd_T41 l0_3 x7_2).f0) * (l0_0.length : Int))) + x10_5)) = true) then (emendateref21_first.l3 k5 (l0_0.length : Int) t246 x5_5 x6_5 x7_2 x9_3 (wrap64 (x10_5 + 1)) l0_0 l0_1 a0_2 l0_3 ((rd_T41 l0_3 x7_2).f0) ((rd_T41 l0_3 x7_2).f1) ((rd_T41 l0_3 x7_2).f2)) else (emendateref21_first.l3 k5 (l0_0.length : Int) t246 (x5_5.set ((wrap64 ((wrap64 (((rd_T41 l0_3 x7_2).f0) * (l0_0.length : Int))) + x10_5)) : Int).toNat true) true x7_2 x9_3 (wrap64 (x10_5 + 1)) l0_0 l0_1 a0_2 l0_3 ((rd_T41 l0_3 x7_2).f0) ((rd_T41 l0_3 x7_2).f1) ((rd_T41 l0_3 x7_2).f2))) else (none)) else (none)) else (emendateref21_first.l3 k5 (l0_0.length : Int) t246 x5_5 x6_5 x7_2 x9_3 (wrap64 (x10_5 + 1)) l0_0 l0_1 a0_2 l0_3 ((rd_T41 l0_3 x7_2).f0) ((rd_T41 l0_3 x7_2).f1) ((rd_T41 l0_3 x7_2).f2))) else (none)) else (none)) = some r := by first | (rw [hji50] at H; exact H) | (simp only [hji50] at H ⊢; exact H)
                      have hji50w : (IntKind.i64.wrap ((wrap64 ((wrap64 ((-1) - (rd ((rd_T41 l0_3 x7_2).f1) x9_3))) * (l0_0.length : Int))) + x10_5)) = ji50 := (i64_w _).trans hji50
                      by_cases c51 : 0 ≤ (ji50)
                      ·rw [if_pos c51] at H
                       have c51b0 : decide (0 ≤ (ji50)) = true := decide_eq_true c51
                       clear c51
                       by_cases c52 : (ji50) < (x5_5.length : Int)
                       ·rw [if_pos c52] at H
                        have c52b0 : decide ((ji50) < (x5_5.length : Int)) = true := decide_eq_true c52
                        clear c52
                        obtain ⟨bq53, hbq53⟩ : ∃ b_ : Bool, b_ = (rdOf false x5_5 (ji50)) := ⟨_, rfl⟩
                        replace H : (if bq53 = true then (if 0 ≤ (wrap64 ((wrap64 (((rd_T41 l0_3 x7_2).f0) * (l0_0.length : Int))) + x10_5)) then (if (wrap64 ((wrap64 (((rd_T41 l0_3 x7_2).f0) * (l0_0.length : Int))) + x10_5)) < (x5_5.length : Int) then (if (rdOf false x5_5 (wrap64 ((wrap64 (((rd_T41 l0_3 x7_2).f0) * (l0_0.length : Int))) + x10_5)) = true) then (emendateref21_first.l3 k5 (l0_0.length : Int) t246 x5_5 x6_5 x7_2 x9_3 (wrap64 (x10_5 + 1)) l0_0 l0_1 a0_2 l0_3 ((rd_T41 l0_3 x7_2).f0) ((rd_T41 l0_3 x7_2).f1) ((rd_T41 l0_3 x7_2).f2)) else (emendateref21_first.l3 k5 (l0_0.length : Int) t246 (x5_5.set ((wrap64 ((wrap64 (((rd_T41 l0_3 x7_2).f0) * (l0_0.length : Int))) + x10_5)) : Int).toNat true) true x7_2 x9_3 (wrap64 (x10_5 + 1)) l0_0 l0_1 a0_2 l0_3 ((rd_T41 l0_3 x7_2).f0) ((rd_T41 l0_3 x7_2).f1) ((rd_T41 l0_3 x7_2).f2))) else (none)) else (none)) else (emendateref21_first.l3 k5 (l0_0.length : Int) t246 x5_5 x6_5 x7_2 x9_3 (wrap64 (x10_5 + 1)) l0_0 l0_1 a0_2 l0_3 ((rd_T41 l0_3 x7_2).f0) ((rd_T41 l0_3 x7_2).f1) ((rd_T41 l0_3 x7_2).f2))) = some r := by rw [← hbq53] at H; exact H
                        have Nbq53 := Aside0.mk hbq53
                        clear hbq53
                        by_cases c54 : bq53 = true
                        ·subst c54
                         have H1 : (if 0 ≤ (wrap64 ((wrap64 (((rd_T41 l0_3 x7_2).f0) * (l0_0.length : Int))) + x10_5)) then (if (wrap64 ((wrap64 (((rd_T41 l0_3 x7_2).f0) * (l0_0.length : Int))) + x10_5)) < (x5_5.length : Int) then (if (rdOf false x5_5 (wrap64 ((wrap64 (((rd_T41 l0_3 x7_2).f0) * (l0_0.length : Int))) + x10_5)) = true) then (emendateref21_first.l3 k5 (l0_0.length : Int) t246 x5_5 x6_5 x7_2 x9_3 (wrap64 (x10_5 + 1)) l0_0 l0_1 a0_2 l0_3 ((rd_T41 l0_3 x7_2).f0) ((rd_T41 l0_3 x7_2).f1) ((rd_T41 l0_3 x7_2).f2)) else (emendateref21_first.l3 k5 (l0_0.length : Int) t246 (x5_5.set ((wrap64 ((wrap64 (((rd_T41 l0_3 x7_2).f0) * (l0_0.length : Int))) + x10_5)) : Int).toNat true) true x7_2 x9_3 (wrap64 (x10_5 + 1)) l0_0 l0_1 a0_2 l0_3 ((rd_T41 l0_3 x7_2).f0) ((rd_T41 l0_3 x7_2).f1) ((rd_T41 l0_3 x7_2).f2))) else (none)) else (none)) = some r := by rw [if_pos rfl] at H; exact H
                         clear H
                         have H := H1
                         clear H1
                         obtain ⟨ji55, hji55⟩ : ∃ j_ : Int, (wrap64 ((wrap64 (((rd_T41 l0_3 x7_2).f0) * (l0_0.length : Int))) + x10_5)) = j_ := ⟨_, rfl⟩
                         replace H : (if 0 ≤ (ji55) then (if (ji55) < (x5_5.length : Int) then (if (rdOf false x5_5 (ji55) = true) then (emendateref21_first.l3 k5 (l0_0.length : Int) t246 x5_5 x6_5 x7_2 x9_3 (wrap64 (x10_5 + 1)) l0_0 l0_1 a0_2 l0_3 ((rd_T41 l0_3 x7_2).f0) ((rd_T41 l0_3 x7_2).f1) ((rd_T41 l0_3 x7_2).f2)) else (emendateref21_first.l3 k5 (l0_0.length : Int) t246 (x5_5.set ((ji55) : Int).toNat true) true x7_2 x9_3 (wrap64 (x10_5 + 1)) l0_0 l0_1 a0_2 l0_3 ((rd_T41 l0_3 x7_2).f0) ((rd_T41 l0_3 x7_2).f1) ((rd_T41 l0_3 x7_2).f2))) else (none)) else (none)) = some r := by first | (rw [hji55] at H; exact H) | (simp only [hji55] at H ⊢; exact H)
                         have hji55w : (IntKind.i64.wrap ((wrap64 (((rd_T41 l0_3 x7_2).f0) * (l0_0.length : Int))) + x10_5)) = ji55 := (i64_w _).trans hji55
                         by_cases c56 : 0 ≤ (ji55)
                         ·rw [if_pos c56] at H
                          have c56b0 : decide (0 ≤ (ji55)) = true := decide_eq_true c56
                          clear c56
                          by_cases c57 : (ji55) < (x5_5.length : Int)
                          ·rw [if_pos c57] at H
                           have c57b0 : decide ((ji55) < (x5_5.length : Int)) = true := decide_eq_true c57
                           clear c57
                           obtain ⟨bq58, hbq58⟩ : ∃ b_ : Bool, b_ = (rdOf false x5_5 (ji55)) := ⟨_, rfl⟩
                           replace H : (if (bq58 = true) then (emendateref21_first.l3 k5 (l0_0.length : Int) t246 x5_5 x6_5 x7_2 x9_3 (wrap64 (x10_5 + 1)) l0_0 l0_1 a0_2 l0_3 ((rd_T41 l0_3 x7_2).f0) ((rd_T41 l0_3 x7_2).f1) ((rd_T41 l0_3 x7_2).f2)) else (emendateref21_first.l3 k5 (l0_0.length : Int) t246 (x5_5.set ((ji55) : Int).toNat true) true x7_2 x9_3 (wrap64 (x10_5 + 1)) l0_0 l0_1 a0_2 l0_3 ((rd_T41 l0_3 x7_2).f0) ((rd_T41 l0_3 x7_2).f1) ((rd_T41 l0_3 x7_2).f2))) = some r := by rw [← hbq58] at H; exact H
                           have Nbq58 := Aside0.mk hbq58
                           clear hbq58
                           by_cases c59 : (bq58 = true)
                           ·subst c59
                            have H1 : (emendateref21_first.l3 k5 (l0_0.length : Int) t246 x5_5 x6_5 x7_2 x9_3 (wrap64 (x10_5 + 1)) l0_0 l0_1 a0_2 l0_3 ((rd_T41 l0_3 x7_2).f0) ((rd_T41 l0_3 x7_2).f1) ((rd_T41 l0_3 x7_2).f2)) = some r := by rw [if_pos rfl] at H; exact H
                            clear H
                            have H := H1
                            clear H1
                            have H' := Aside0.mk H
                            clear H
                            have hnb60 := NB253_245.out
                            have hnc60 := NB245_253.out
                            have hcz61_0 : wr.cell? ⟨gb253, 0, none⟩ = some (.int .i64 ((rd_T41 l0_3 x7_2).f0)) := (blk_cell BK253.out 0).trans rfl
                            have hcz61_1 : wr.cell? ⟨gb253, 1, none⟩ = some (.slice A252_1 ((rd_T41 l0_3 x7_2).f1).length c252_1) := (blk_cell BK253.out 1).trans rfl
                            have hcz61_2 : wr.cell? ⟨gb253, 2, none⟩ = some (.int .i64 ((rd_T41 l0_3 x7_2).f2)) := (blk_cell BK253.out 2).trans rfl
                            have hfz61_0 := blk_frozen BK253.out 0
                            have hfz61_1 := blk_frozen BK253.out 1
                            have hfz61_2 := blk_frozen BK253.out 2
                            have p256 : 0 ≤ (x9_3 : Int) := of_decide_eq_true (by first | (with_reducible assumption) | assumption)
                            have q256 : x9_3 < (((rd_T41 l0_3 x7_2).f1).length : Int) := of_decide_eq_true (by first | (with_reducible assumption) | assumption)
                            obtain ⟨ad256, e256, hx256_0⟩ := Kd.at_int HR252_1.out x9_3 p256 q256
                            cases e256
                            replace hx256_0 := (HB.out.cell (World.block_lt_of_cell? w _ hx256_0)).trans hx256_0
                            replace p256 := eq_true p256
                            replace q256 := eq_true q256
                            have p259 : 0 ≤ (x9_3 : Int) := of_decide_eq_true (by first | (with_reducible assumption) | assumption)
                            have q259 : x9_3 < (((rd_T41 l0_3 x7_2).f1).length : Int) := of_decide_eq_true (by first | (with_reducible assumption) | assumption)
                            obtain ⟨ad259, e259, hx259_0⟩ := Kd.at_int HR252_1.out x9_3 p259 q259
                            obtain rfl : ad256 = ad259 := (by injection e259)
                            replace hx259_0 := (HB.out.cell (World.block_lt_of_cell? w _ hx259_0)).trans hx259_0
                            replace p259 := eq_true p259
                            replace q259 := eq_true q259
                            have p260 : 0 ≤ (x9_3 : Int) := of_decide_eq_true (by first | (with_reducible assumption) | assumption)
                            have q260 : x9_3 < (((rd_T41 l0_3 x7_2).f1).length : Int) := of_decide_eq_true (by first | (with_reducible assumption) | assumption)
                            obtain ⟨ad260, e260, hx260_0⟩ := Kd.at_int HR252_1.out x9_3 p260 q260
                            obtain rfl : ad256 = ad260 := (by injection e260)
                            replace hx260_0 := (HB.out.cell (World.block_lt_of_cell? w _ hx260_0)).trans hx260_0
                            replace p260 := eq_true p260
                            replace q260 := eq_true q260
                            obtain ⟨Ao62, co62, eo62⟩ := Kd.R_slice HO_5.out
                            subst eo62
                            have p261 : 0 ≤ ((ji50) : Int) := of_decide_eq_true (by first | (with_reducible assumption) | assumption)
                            have q261 : (ji50) < (x5_5.length : Int) := of_decide_eq_true (by first | (with_reducible assumption) | assumption)
                            obtain ⟨ad261, e261, hx261_0⟩ := Kd.at_bool (Kd.R_reads' HO_5.out).2.2 (ji50) p261 q261
                            (try rw [← Nbq53.out] at hx261_0)
                            (try rw [← Nbq58.out] at hx261_0)
                            cases e261
                            replace p261 := eq_true p261
                            replace q261 := eq_true q261
                            have p262 : 0 ≤ ((ji55) : Int) := of_decide_eq_true (by first | (with_reducible assumption) | assumption)
                            have q262 : (ji55) < (x5_5.length : Int) := of_decide_eq_true (by first | (with_reducible assumption) | assumption)
                            obtain ⟨ad262, e262, hx262_0⟩ := Kd.at_bool (Kd.R_reads' HO_5.out).2.2 (ji55) p262 q262
                            (try rw [← Nbq53.out] at hx262_0)
                            (try rw [← Nbq58.out] at hx262_0)
                            obtain rfl : ad261 = ad262 := (by injection e262)
                            replace p262 := eq_true p262
                            replace q262 := eq_true q262
                            go_wp2
                            go_roundg k5
                            case measure => have := HK1.out; have := HK2.out; have := HK3.out; have := HJ18.out; have := HK5.out; omega
                            case rel => exact ⟨(x5_5), (x6_5), (wrap64 (x10_5 + 1)), (by first | rfl | (simp; done) | (simp [*]; done)), (by first | rfl | (simp; done) | (simp [*]; done)), H', ⟨by have := HK1.out; have := HK2.out; have := HK3.out; have := HJ18.out; have := HK5.out; omega⟩, ⟨by (with_reducible repeat (first | apply Kd.R_alloc | apply Kd.R_drewN | apply Kd.R_drew)); exact HO_4.out⟩, ⟨by (with_reducible repeat (first | apply Kd.R_alloc | apply Kd.R_drewN | apply Kd.R_drew)); exact HO_5.out⟩, ⟨by (with_reducible repeat (first | refine blk_drewN ?_ _ | refine blk_drew ?_ | refine blk_alloc ?_ _)); exact BK245.out⟩, ⟨by (with_reducible repeat (first | refine blk_drewN ?_ _ | refine blk_drew ?_ | refine blk_alloc ?_ _)); exact BK253.out⟩, ⟨by repeat (first | (with_reducible first | exact HB.out | apply below_alloc | apply pw_below_drewN | apply below_drew1 | refine below_set ?_ GE245.out | refine below_set ?_ GE253.out) | exact HB.out)⟩⟩
                           ·replace c59 := Bool.eq_false_iff.mpr c59
                            subst c59
                            have H1 : (emendateref21_first.l3 k5 (l0_0.length : Int) t246 (x5_5.set ((ji55) : Int).toNat true) true x7_2 x9_3 (wrap64 (x10_5 + 1)) l0_0 l0_1 a0_2 l0_3 ((rd_T41 l0_3 x7_2).f0) ((rd_T41 l0_3 x7_2).f1) ((rd_T41 l0_3 x7_2).f2)) = some r := by rw [if_neg (show ¬ (false = true) by decide)] at H; exact H
                            clear H
                            have H := H1
                            clear H1
                            obtain ⟨y263, hy263⟩ : ∃ y_ : List Bool, y_ = (x5_5.set ((ji55) : Int).toNat true) := ⟨_, rfl⟩
                            replace H : (emendateref21_first.l3 k5 (l0_0.length : Int) t246 y263 true x7_2 x9_3 (wrap64 (x10_5 + 1)) l0_0 l0_1 a0_2 l0_3 ((rd_T41 l0_3 x7_2).f0) ((rd_T41 l0_3 x7_2).f1) ((rd_T41 l0_3 x7_2).f2)) = some r := by first | (rw [hy263]; with_reducible exact H) | (have H2_ := (Option.bind_some _ _).symm.trans H; rw [hy263]; with_reducible exact H2_) | (have H2_ := (Option.bind_some _ _).symm.trans H; with_reducible exact H2_) | with_reducible exact H | (rw [hy263]; exact H) | exact H
                            have Ny263 := Aside0.mk hy263
                            clear hy263
                            have H' := Aside0.mk H
                            clear H
                            have hnb64 := NB253_245.out
                            have hnc64 := NB245_253.out
                            have hcz65_0 : wr.cell? ⟨gb253, 0, none⟩ = some (.int .i64 ((rd_T41 l0_3 x7_2).f0)) := (blk_cell BK253.out 0).trans rfl
                            have hcz65_1 : wr.cell? ⟨gb253, 1, none⟩ = some (.slice A252_1 ((rd_T41 l0_3 x7_2).f1).length c252_1) := (blk_cell BK253.out 1).trans rfl
                            have hcz65_2 : wr.cell? ⟨gb253, 2, none⟩ = some (.int .i64 ((rd_T41 l0_3 x7_2).f2)) := (blk_cell BK253.out 2).trans rfl
                            have hfz65_0 := blk_frozen BK253.out 0
                            have hfz65_1 := blk_frozen BK253.out 1
                            have hfz65_2 := blk_frozen BK253.out 2
                            have p256 : 0 ≤ (x9_3 : Int) := of_decide_eq_true (by first | (with_reducible assumption) | assumption)
                            have q256 : x9_3 < (((rd_T41 l0_3 x7_2).f1).length : Int) := of_decide_eq_true (by first | (with_reducible assumption) | assumption)
                            obtain ⟨ad256, e256, hx256_0⟩ := Kd.at_int HR252_1.out x9_3 p256 q256
                            cases e256
                            replace hx256_0 := (HB.out.cell (World.block_lt_of_cell? w _ hx256_0)).trans hx256_0
                            replace p256 := eq_true p256
                            replace q256 := eq_true q256
                            have p259 : 0 ≤ (x9_3 : Int) := of_decide_eq_true (by first | (with_reducible assumption) | assumption)
                            have q259 : x9_3 < (((rd_T41 l0_3 x7_2).f1).length : Int) := of_decide_eq_true (by first | (with_reducible assumption) | assumption)
                            obtain ⟨ad259, e259, hx259_0⟩ := Kd.at_int HR252_1.out x9_3 p259 q259
                            obtain rfl : ad256 = ad259 := (by injection e259)
                            replace hx259_0 := (HB.out.cell (World.block_lt_of_cell? w _ hx259_0)).trans hx259_0
                            replace p259 := eq_true p259
                            replace q259 := eq_true q259
                            have p260 : 0 ≤ (x9_3 : Int) := of_decide_eq_true (by first | (with_reducible assumption) | assumption)
                            have q260 : x9_3 < (((rd_T41 l0_3 x7_2).f1).length : Int) := of_decide_eq_true (by first | (with_reducible assumption) | assumption)
                            obtain ⟨ad260, e260, hx260_0⟩ := Kd.at_int HR252_1.out x9_3 p260 q260
                            obtain rfl : ad256 = ad260 := (by injection e260)
                            replace hx260_0 := (HB.out.cell (World.block_lt_of_cell? w _ hx260_0)).trans hx260_0
                            replace p260 := eq_true p260
                            replace q260 := eq_true q260
                            obtain ⟨Ao66, co66, eo66⟩ := Kd.R_slice HO_5.out
                            subst eo66
                            have p261 : 0 ≤ ((ji50) : Int) := of_decide_eq_true (by first | (with_reducible assumption) | assumption)
                            have q261 : (ji50) < (x5_5.length : Int) := of_decide_eq_true (by first | (with_reducible assumption) | assumption)
                            obtain ⟨ad261, e261, hx261_0⟩ := Kd.at_bool (Kd.R_reads' HO_5.out).2.2 (ji50) p261 q261
                            (try rw [← Nbq53.out] at hx261_0)
                            (try rw [← Nbq58.out] at hx261_0)
                            cases e261
                            replace p261 := eq_true p261
                            replace q261 := eq_true q261
                            have p262 : 0 ≤ ((ji55) : Int) := of_decide_eq_true (by first | (with_reducible assumption) | assumption)
                            have q262 : (ji55) < (x5_5.length : Int) := of_decide_eq_true (by first | (with_reducible assumption) | assumption)
                            obtain ⟨ad262, e262, hx262_0⟩ := Kd.at_bool (Kd.R_reads' HO_5.out).2.2 (ji55) p262 q262
                            (try rw [← Nbq53.out] at hx262_0)
                            (try rw [← Nbq58.out] at hx262_0)
                            obtain rfl : ad261 = ad262 := (by injection e262)
                            replace p262 := eq_true p262
                            replace q262 := eq_true q262
                            have p63 : 0 ≤ ((ji55) : Int) := of_decide_eq_true (by first | (with_reducible assumption) | assumption)
                            have q63 : ((ji55) : Int) < ((x5_5.length : Int) : Int) := of_decide_eq_true (by first | (with_reducible assumption) | assumption)
                            obtain ⟨go63, co63, eo63, gb63, gl63, cl63, HG63⟩ := Kd.R_form HO_5.out (by omega)
                            (first | cases eo63 | (injection eo63 with ea_ en_ ec_; (first | subst ea_ | (injection ea_ with ea_; subst ea_)); subst ec_; clear en_))
                            have GB63 := Aside0.mk gb63
                            have GG63 := Aside0.mk HG63
                            clear gb63 gl63 HG63
                            (first | simp only [add_plain] at hx261_0 | skip)
                            (first | simp only [add_plain] at hx262_0 | skip)
                            obtain ⟨hx63_0, hf63_0⟩ := Kd.R_celln false HO_5.out ((ji55) : Int) p63 q63
                            replace p63 := eq_true p63
                            replace q63 := eq_true q63
                            have HP67 := Kd.R_putg HO_5.out ((ji55) : Int) true
                            go_wp2_with (first | ((with_reducible refine gate_store (t := 4) (p := 106) rfl ?_); refine store_event (t := 4) (p := 106) (v := ?vo_w68) (w1 := (wr.setCell ⟨go63, ((ji55) : Int).toNat, none⟩ (.bool true))) ?hg ?ho ?hn ?hr ?_; (case ho => rfl); (case hg => rfl); (case hn => rfl); (case hr => first | (go_simp; done) | (go_simp; rfl)); intro w68 hw; have hg : wr.grownBy w68 (some go63) := (by rw [hw]; exact HP67.2); have hp_ : Kd.R Kd.bool 4 w68 w.heap.size (fun k_ => some k_ ≠ (v247 : Value).ownBlock) (.slice (some ⟨go63, 0, none⟩) x5_5.length co66) y263 := (by rw [hw, Ny263.out]; exact HP67.1); clear HP67; have n0_ := Aside0.mk (Kd.R_after (v := (.slice (some ⟨go63, 0, none⟩) x5_5.length co66)) (v1 := (.slice (some ⟨go63, 0, none⟩) x5_5.length co66)) (ok := (fun _ => True)) (by (with_reducible repeat (first | apply Kd.R_alloc | apply Kd.R_drewN | apply Kd.R_drew)); exact Kd.R_mono HO_4.out (fun _ hk => ⟨trivial, hk⟩)) hg (.inl rfl)); have n1_ := Aside0.mk (hp_); have n2_ := Aside0.mk (blk_grown (g := gb245) (o := .cells #[.slice A0_0 l0_0.length c0_0, .slice A0_1 l0_1.length c0_1, .int .i64 a0_2, .slice (some ad252) l0_3.length c0_3] 25 (0, 0)) (by (with_reducible repeat (first | refine blk_drewN ?_ _ | refine blk_drew ?_ | refine blk_alloc ?_ _)); exact BK245.out) hg (Kd.R_ne HO_5.out BK245.out (by decide))); have n3_ := Aside0.mk (blk_grown (g := gb253) (o := .cells #[.int .i64 ((rd_T41 l0_3 x7_2).f0), .slice (some ad256) ((rd_T41 l0_3 x7_2).f1).length c252_1, .int .i64 ((rd_T41 l0_3 x7_2).f2)] 41 (0, 0)) (by (with_reducible repeat (first | refine blk_drewN ?_ _ | refine blk_drew ?_ | refine blk_alloc ?_ _)); exact BK253.out) hg (Kd.R_ne HO_5.out BK253.out (by decide))); have n4_ := Aside0.mk ((by rw [hw]; exact below_set (HB.out) GB63.out : Below w.heap.size w w68)); clear HO_4; clear HO_5; clear BK245; clear BK253; clear HB; have HO_4 := n0_; have HO_5 := n1_; have BK245 := n2_; have BK253 := n3_; have HB := n4_; clear n0_ n1_ n2_ n3_ n4_; clear hg hw hp_))
                            go_roundg k5
                            case measure => have := HK1.out; have := HK2.out; have := HK3.out; have := HJ18.out; have := HK5.out; omega
                            case rel => exact ⟨(y263), (true), (wrap64 (x10_5 + 1)), (by first | rfl | (simp; done) | (simp [*]; done)), (by first | rfl | (simp; done) | (simp [*]; done)), H', ⟨by have := HK1.out; have := HK2.out; have := HK3.out; have := HJ18.out; have := HK5.out; omega⟩, ⟨by (with_reducible repeat (first | apply Kd.R_alloc | apply Kd.R_drewN | apply Kd.R_drew)); exact Kd.R_mono HO_4.out (fun _ hk => hk.2)⟩, ⟨by (with_reducible repeat (first | apply Kd.R_alloc | apply Kd.R_drewN | apply Kd.R_drew)); exact HO_5.out⟩, ⟨by (with_reducible repeat (first | refine blk_drewN ?_ _ | refine blk_drew ?_ | refine blk_alloc ?_ _)); exact BK245.out⟩, ⟨by (with_reducible repeat (first | refine blk_drewN ?_ _ | refine blk_drew ?_ | refine blk_alloc ?_ _)); exact BK253.out⟩, ⟨by repeat (first | (with_reducible first | exact HB.out | apply below_alloc | apply pw_below_drewN | apply below_drew1 | refine below_set ?_ GE245.out | refine below_set ?_ GE253.out) | exact HB.out)⟩⟩
                          ·rw [if_neg c57] at H
                           exact absurd H (by simp)
                         ·rw [if_neg c56] at H
                          exact absurd H (by simp)
                        ·replace c54 := Bool.eq_false_iff.mpr c54
                         subst c54
                         have H1 : (emendateref21_first.l3 k5 (l0_0.length : Int) t246 x5_5 x6_5 x7_2 x9_3 (wrap64 (x10_5 + 1)) l0_0 l0_1 a0_2 l0_3 ((rd_T41 l0_3 x7_2).f0) ((rd_T41 l0_3 x7_2).f1) ((rd_T41 l0_3 x7_2).f2)) = some r := by rw [if_neg (show ¬ (false = true) by decide)] at H; exact H
                         clear H
                         have H := H1
                         clear H1
                         have H' := Aside0.mk H
                         clear H
                         have hnb69 := NB253_245.out
                         have hnc69 := NB245_253.out
                         have hcz70_0 : wr.cell? ⟨gb253, 0, none⟩ = some (.int .i64 ((rd_T41 l0_3 x7_2).f0)) := (blk_cell BK253.out 0).trans rfl
                         have hcz70_1 : wr.cell? ⟨gb253, 1, none⟩ = some (.slice A252_1 ((rd_T41 l0_3 x7_2).f1).length c252_1) := (blk_cell BK253.out 1).trans rfl
                         have hcz70_2 : wr.cell? ⟨gb253, 2, none⟩ = some (.int .i64 ((rd_T41 l0_3 x7_2).f2)) := (blk_cell BK253.out 2).trans rfl
                         have hfz70_0 := blk_frozen BK253.out 0
                         have hfz70_1 := blk_frozen BK253.out 1
                         have hfz70_2 := blk_frozen BK253.out 2
                         have p256 : 0 ≤ (x9_3 : Int) := of_decide_eq_true (by first | (with_reducible assumption) | assumption)
                         have q256 : x9_3 < (((rd_T41 l0_3 x7_2).f1).length : Int) := of_decide_eq_true (by first | (with_reducible assumption) | assumption)
                         obtain ⟨ad256, e256, hx256_0⟩ := Kd.at_int HR252_1.out x9_3 p256 q256
                         cases e256
                         replace hx256_0 := (HB.out.cell (World.block_lt_of_cell? w _ hx256_0)).trans hx256_0
                         replace p256 := eq_true p256
                         replace q256 := eq_true q256
                         have p259 : 0 ≤ (x9_3 : Int) := of_decide_eq_true (by first | (with_reducible assumption) | assumption)
                         have q259 : x9_3 < (((rd_T41 l0_3 x7_2).f1).length : Int) := of_decide_eq_true (by first | (with_reducible assumption) | assumption)
                         obtain ⟨ad259, e259, hx259_0⟩ := Kd.at_int HR252_1.out x9_3 p259 q259
                         obtain rfl : ad256 = ad259 := (by injection e259)
                         replace hx259_0 := (HB.out.cell (World.block_lt_of_cell? w _ hx259_0)).trans hx259_0
                         replace p259 := eq_true p259
                         replace q259 := eq_true q259
                         have p260 : 0 ≤ (x9_3 : Int) := of_decide_eq_true (by first | (with_reducible assumption) | assumption)
                         have q260 : x9_3 < (((rd_T41 l0_3 x7_2).f1).length : Int) := of_decide_eq_true (by first | (with_reducible assumption) | assumption)
                         obtain ⟨ad260, e260, hx260_0⟩ := Kd.at_int HR252_1.out x9_3 p260 q260
                         obtain rfl : ad256 = ad260 := (by injection e260)
                         replace hx260_0 := (HB.out.cell (World.block_lt_of_cell? w _ hx260_0)).trans hx260_0
                         replace p260 := eq_true p260
                         replace q260 := eq_true q260
                         obtain ⟨Ao71, co71, eo71⟩ := Kd.R_slice HO_5.out
                         subst eo71
                         have p261 : 0 ≤ ((ji50) : Int) := of_decide_eq_true (by first | (with_reducible assumption) | assumption)
                         have q261 : (ji50) < (x5_5.length : Int) := of_decide_eq_true (by first | (with_reducible assumption) | assumption)
                         obtain ⟨ad261, e261, hx261_0⟩ := Kd.at_bool (Kd.R_reads' HO_5.out).2.2 (ji50) p261 q261
                         (try rw [← Nbq53.out] at hx261_0)
                         cases e261
                         replace p261 := eq_true p261
                         replace q261 := eq_true q261
                         go_wp2
                         go_roundg k5
                         case measure => have := HK1.out; have := HK2.out; have := HK3.out; have := HJ18.out; have := HK5.out; omega
                         case rel => exact ⟨(x5_5), (x6_5), (wrap64 (x10_5 + 1)), (by first | rfl | (simp; done) | (simp [*]; done)), (by first | rfl | (simp; done) | (simp [*]; done)), H', ⟨by have := HK1.out; have := HK2.out; have := HK3.out; have := HJ18.out; have := HK5.out; omega⟩, ⟨by (with_reducible repeat (first | apply Kd.R_alloc | apply Kd.R_drewN | apply Kd.R_drew)); exact HO_4.out⟩, ⟨by (with_reducible repeat (first | apply Kd.R_alloc | apply Kd.R_drewN | apply Kd.R_drew)); exact HO_5.out⟩, ⟨by (with_reducible repeat (first | refine blk_drewN ?_ _ | refine blk_drew ?_ | refine blk_alloc ?_ _)); exact BK245.out⟩, ⟨by (with_reducible repeat (first | refine blk_drewN ?_ _ | refine blk_drew ?_ | refine blk_alloc ?_ _)); exact BK253.out⟩, ⟨by repeat (first | (with_reducible first | exact HB.out | apply below_alloc | apply pw_below_drewN | apply below_drew1 | refine below_set ?_ GE245.out | refine below_set ?_ GE253.out) | exact HB.out)⟩⟩
                       ·rw [if_neg c52] at H
                        exact absurd H (by simp)
                      ·rw [if_neg c51] at H
                       exact absurd H (by simp)
                     ·rw [if_neg c49] at H
                      have c49b0 : decide ((rd ((rd_T41 l0_3 x7_2).f1) x9_3) < 0) = false := decide_eq_false c49
                      clear c49
                      have H' := Aside0.mk H
                      clear H
                      have hnb72 := NB253_245.out
                      have hnc72 := NB245_253.out
                      have hcz73_0 : wr.cell? ⟨gb253, 0, none⟩ = some (.int .i64 ((rd_T41 l0_3 x7_2).f0)) := (blk_cell BK253.out 0).trans rfl
                      have hcz73_1 : wr.cell? ⟨gb253, 1, none⟩ = some (.slice A252_1 ((rd_T41 l0_3 x7_2).f1).length c252_1) := (blk_cell BK253.out 1).trans rfl
                      have hcz73_2 : wr.cell? ⟨gb253, 2, none⟩ = some (.int .i64 ((rd_T41 l0_3 x7_2).f2)) := (blk_cell BK253.out 2).trans rfl
                      have hfz73_0 := blk_frozen BK253.out 0
                      have hfz73_1 := blk_frozen BK253.out 1
                      have hfz73_2 := blk_frozen BK253.out 2
                      have p256 : 0 ≤ (x9_3 : Int) := of_decide_eq_true (by first | (with_reducible assumption) | assumption)
                      have q256 : x9_3 < (((rd_T41 l0_3 x7_2).f1).length : Int) := of_decide_eq_true (by first | (with_reducible assumption) | assumption)
                      obtain ⟨ad256, e256, hx256_0⟩ := Kd.at_int HR252_1.out x9_3 p256 q256
                      cases e256
                      replace hx256_0 := (HB.out.cell (World.block_lt_of_cell? w _ hx256_0)).trans hx256_0
                      replace p256 := eq_true p256
                      replace q256 := eq_true q256
                      have p259 : 0 ≤ (x9_3 : Int) := of_decide_eq_true (by first | (with_reducible assumption) | assumption)
                      have q259 : x9_3 < (((rd_T41 l0_3 x7_2).f1).length : Int) := of_decide_eq_true (by first | (with_reducible assumption) | assumption)
                      obtain ⟨ad259, e259, hx259_0⟩ := Kd.at_int HR252_1.out x9_3 p259 q259
                      obtain rfl : ad256 = ad259 := (by injection e259)
                      replace hx259_0 := (HB.out.cell (World.block_lt_of_cell? w _ hx259_0)).trans hx259_0
                      replace p259 := eq_true p259
                      replace q259 := eq_true q259
                      go_wp2
                      go_roundg k5
                      case measure => have := HK1.out; have := HK2.out; have := HK3.out; have := HJ18.out; have := HK5.out; omega
                      case rel => exact ⟨(x5_5), (x6_5), (wrap64 (x10_5 + 1)), (by first | rfl | (simp; done) | (simp [*]; done)), (by first | rfl | (simp; done) | (simp [*]; done)), H', ⟨by have := HK1.out; have := HK2.out; have := HK3.out; have := HJ18.out; have := HK5.out; omega⟩, ⟨by (with_reducible repeat (first | apply Kd.R_alloc | apply Kd.R_drewN | apply Kd.R_drew)); exact HO_4.out⟩, ⟨by (with_reducible repeat (first | apply Kd.R_alloc | apply Kd.R_drewN | apply Kd.R_drew)); exact HO_5.out⟩, ⟨by (with_reducible repeat (first | refine blk_drewN ?_ _ | refine blk_drew ?_ | refine blk_alloc ?_ _)); exact BK245.out⟩, ⟨by (with_reducible repeat (first | refine blk_drewN ?_ _ | refine blk_drew ?_ | refine blk_alloc ?_ _)); exact BK253.out⟩, ⟨by repeat (first | (with_reducible first | exact HB.out | apply below_alloc | apply pw_below_drewN | apply below_drew1 | refine below_set ?_ GE245.out | refine below_set ?_ GE253.out) | exact HB.out)⟩⟩
                   ·rw [if_neg c33] at H
                    exact absurd H (by simp)
                  ·rw [if_neg c32] at H
                   exact absurd H (by simp)
                 ·rw [if_neg c31] at H
                  have c31b0 : decide (x10_5 < (l0_0.length : Int)) = false := decide_eq_false c31
                  clear c31
                  have H' := Aside0.mk H
                  clear H
                  go_wp2
                  go_roundg k5
                  case measure => have := HK1.out; have := HK2.out; have := HK3.out; have := HJ18.out; have := HK5.out; omega
                  case rel => exact ⟨(x5_5), (x6_5), (wrap64 (x9_3 + 1)), (by first | rfl | (simp; done) | (simp [*]; done)), (by first | rfl | (simp; done) | (simp [*]; done)), H', ⟨by have := HK1.out; have := HK2.out; have := HK3.out; have := HJ18.out; have := HK5.out; omega⟩, ⟨by (with_reducible repeat (first | apply Kd.R_alloc | apply Kd.R_drewN | apply Kd.R_drew)); exact HO_4.out⟩, ⟨by (with_reducible repeat (first | apply Kd.R_alloc | apply Kd.R_drewN | apply Kd.R_drew)); exact HO_5.out⟩, ⟨by (with_reducible repeat (first | refine blk_drewN ?_ _ | refine blk_drew ?_ | refine blk_alloc ?_ _)); exact BK245.out⟩, ⟨by (with_reducible repeat (first | refine blk_drewN ?_ _ | refine blk_drew ?_ | refine blk_alloc ?_ _)); exact BK253.out⟩, ⟨by repeat (first | (with_reducible first | exact HB.out | apply below_alloc | apply pw_below_drewN | apply below_drew1 | refine below_set ?_ GE245.out | refine below_set ?_ GE253.out) | exact HB.out)⟩⟩
              ·replace c30 := Bool.eq_false_iff.mpr c30
               subst c30
               have H1 : (emendateref21_first.l1 kj18 (l0_0.length : Int) t246 x5_3 x6_3 (wrap64 (x7_2 + 1)) l0_0 l0_1 a0_2 l0_3) = some r := by rw [if_neg (show ¬ (false = true) by decide)] at H; exact H
               clear H
               have H := H1
               clear H1
               have H' := Aside0.mk H
               clear H
               go_wp2
               go_roundg kj18
               case measure => have := HK1.out; have := HK2.out; have := HK3.out; have := HJ18.out; omega
               case rel => exact ⟨(x5_3), (x6_3), (wrap64 (x7_2 + 1)), (by first | rfl | (simp; done) | (simp [*]; done)), (by first | rfl | (simp; done) | (simp [*]; done)), H', ⟨by have := HK1.out; have := HK2.out; have := HK3.out; have := HJ18.out; omega⟩, ⟨by (with_reducible repeat (first | apply Kd.R_alloc | apply Kd.R_drewN | apply Kd.R_drew)); exact HO_4.out⟩, ⟨by (with_reducible repeat (first | apply Kd.R_alloc | apply Kd.R_drewN | apply Kd.R_drew)); exact HO_5.out⟩, ⟨by (with_reducible repeat (first | refine blk_drewN ?_ _ | refine blk_drew ?_ | refine blk_alloc ?_ _)); exact BK245.out⟩, ⟨by repeat (first | (with_reducible first | exact HB.out | apply below_alloc | apply pw_below_drewN | apply below_drew1 | refine below_set ?_ GE245.out | refine below_set ?_ GE253.out) | exact HB.out)⟩⟩
         ·rw [if_neg c14] at H
          exact absurd H (by simp)
        ·rw [if_neg c13] at H
         have c13b0 : decide (x7_2 < (l0_3.length : Int)) = false := decide_eq_false c13
         clear c13
         have H' := Aside0.mk H
         clear H
         have hcz74_0 : wr.cell? ⟨gb245, 0, none⟩ = some (.slice A0_0 l0_0.length c0_0) := (blk_cell BK245.out 0).trans rfl
         have hcz74_1 : wr.cell? ⟨gb245, 1, none⟩ = some (.slice A0_1 l0_1.length c0_1) := (blk_cell BK245.out 1).trans rfl
         have hcz74_2 : wr.cell? ⟨gb245, 2, none⟩ = some (.int .i64 a0_2) := (blk_cell BK245.out 2).trans rfl
         have hcz74_3 : wr.cell? ⟨gb245, 3, none⟩ = some (.slice A0_3 l0_3.length c0_3) := (blk_cell BK245.out 3).trans rfl
         have hfz74_0 := blk_frozen BK245.out 0
         have hfz74_1 := blk_frozen BK245.out 1
         have hfz74_2 := blk_frozen BK245.out 2
         have hfz74_3 := blk_frozen BK245.out 3
         go_wp2
         go_roundg k2
         case measure => have := HK1.out; have := HK2.out; omega
         case rel => exact ⟨(x5_2), (x6_2), (by first | rfl | (simp; done) | (simp [*]; done)), H', ⟨by have := HK1.out; have := HK2.out; omega⟩, ⟨by (with_reducible repeat (first | apply Kd.R_alloc | apply Kd.R_drewN | apply Kd.R_drew)); exact HO_4.out⟩, ⟨by (with_reducible repeat (first | apply Kd.R_alloc | apply Kd.R_drewN | apply Kd.R_drew)); exact HO_5.out⟩, ⟨by (with_reducible repeat (first | refine blk_drewN ?_ _ | refine blk_drew ?_ | refine blk_alloc ?_ _)); exact BK245.out⟩, ⟨by repeat (first | (with_reducible first | exact HB.out | apply below_alloc | apply pw_below_drewN | apply below_drew1 | refine below_set ?_ GE245.out) | exact HB.out)⟩⟩
     ·replace c12 := Bool.eq_false_iff.mpr c12
      subst c12
      have H1 : (some x5_1) = some r := by rw [if_neg (show ¬ (false = true) by decide)] at H; exact H
      clear H
      have H := H1
      clear H1
      obtain rfl := Option.some.inj H
      go_wp2
      go_ret
      exact ⟨_, by first | rfl | (simp [errW_none, errW_some] <;> rfl) | (simp only [← hji3]; first | rfl | (simp [errW_none, errW_some] <;> rfl)) | (simp [*, errW_none, errW_some] <;> rfl), by (with_reducible repeat (first | apply Kd.R_alloc | apply Kd.R_drewN | apply Kd.R_drew)); exact Kd.R_mono HO_5.out (fun _ hk => trivial), by repeat (first | (with_reducible first | exact HB.out | apply below_alloc | apply pw_below_drewN | apply below_drew1 | refine below_set ?_ GE245.out) | exact HB.out)⟩
  ·rw [if_neg c5] at H
   exact absurd H (by simp)
 ·rw [if_neg c4] at H
  exact absurd H (by simp)

end Go.Proofs.Ytkaedhooccpniaa.PA
