-- Written by wip/tools/wprint.py (a wrapper around the kit's printer) for this claim. Not trusted: Lean checks it.
import Derived.Test.YtkaedhooccpniaaHandAllN
import Derived.Test.YtkaedhooccpniaaPAx0
import Derived.Test.YtkaedhooccpniaaPAx8
import Derived.Test.YtkaedhooccpniaaPAx9
-- halved
namespace Go.Proofs.Ytkaedhooccpniaa.PA
open Go.RowKit Go.Proofs.YtkaedhooccpniaaW.PrintWords Go.Proofs.YtkaedhooccpniaaW.PrintLast Go.Proofs.YtkaedhooccpniaaW.PrintMore
attribute [local go_sem] max2_int min2_int max_two min_two max_three min_three max_four min_four   -- for this text's walks alone
set_option linter.unusedVariables false
set_option linter.unusedSimpArgs false

/-! ### emendateref21_Cyclic: function 20 -/
mutual
def emendateref21_Cyclic.l0 : Nat → Int → List Bool → List Bool → Int → List ByteArray → List ByteArray → Int → List (S41) → Option (List Bool)
 | 0, _, _, _, _, _, _, _, _ => none
 | k + 1, x3, x4, x5, x6, x214000, x214001, x214002, x214003 => if x6 < (x214003.length : Int) then (if 0 ≤ x6 then (emendateref21_Cyclic.l1 k x3 x4 x5 x6 0 x214000 x214001 x214002 x214003 ((rd_T41 x214003 x6).f0) ((rd_T41 x214003 x6).f1) ((rd_T41 x214003 x6).f2)) else (none)) else (emendateref21_Cyclic.l2 k x3 x5 0)
def emendateref21_Cyclic.l1 : Nat → Int → List Bool → List Bool → Int → Int → List ByteArray → List ByteArray → Int → List (S41) → Int → List Int → Int → Option (List Bool)
 | 0, _, _, _, _, _, _, _, _, _, _, _, _ => none
 | k + 1, x3, x4, x5, x6, x8, x214000, x214001, x214002, x214003, x222000, x222001, x222002 => if x8 < (x222001.length : Int) then (if 0 ≤ x8 then (if (rd x222001 x8) < 0 then (if x8 ≤ (x222001.length : Int) then ((emendateref21_all.f k (x222001.take (x8 : Int).toNat) x4 false).bind fun t224 => (if t224 = true then (if 0 ≤ (wrap64 (x8 + 1)) then (if (wrap64 (x8 + 1)) ≤ (x222001.length : Int) then ((emendateref21_all.f k (x222001.drop ((wrap64 (x8 + 1)) : Int).toNat) x4 false).bind fun t226 => (if t226 = true then (if 0 ≤ (wrap64 ((wrap64 ((wrap64 (x222000 * x3)) - 1)) - (rd x222001 x8))) then (if (wrap64 ((wrap64 ((wrap64 (x222000 * x3)) - 1)) - (rd x222001 x8))) < (x5.length : Int) then (emendateref21_Cyclic.l1 k x3 x4 (x5.set ((wrap64 ((wrap64 ((wrap64 (x222000 * x3)) - 1)) - (rd x222001 x8))) : Int).toNat true) x6 (wrap64 (x8 + 1)) x214000 x214001 x214002 x214003 x222000 x222001 x222002) else (none)) else (none)) else (emendateref21_Cyclic.l1 k x3 x4 x5 x6 (wrap64 (x8 + 1)) x214000 x214001 x214002 x214003 x222000 x222001 x222002))) else (none)) else (none)) else (emendateref21_Cyclic.l1 k x3 x4 x5 x6 (wrap64 (x8 + 1)) x214000 x214001 x214002 x214003 x222000 x222001 x222002))) else (none)) else (emendateref21_Cyclic.l1 k x3 x4 x5 x6 (wrap64 (x8 + 1)) x214000 x214001 x214002 x214003 x222000 x222001 x222002)) else (none)) else (emendateref21_Cyclic.l0 k x3 x4 x5 (wrap64 (x6 + 1)) x214000 x214001 x214002 x214003)
def emendateref21_Cyclic.l2 : Nat → Int → List Bool → Int → Option (List Bool)
 | 0, _, _, _ => none
 | k + 1, x3, x5, x9 => if x9 < x3 then (emendateref21_Cyclic.l3 k x3 x5 x9 0) else (if 0 ≤ x3 then (if (x3 : Int).toNat ≤ 281474976710656 then (emendateref21_Cyclic.l5 k x3 x5 (List.replicate (x3 : Int).toNat false) 0) else (none)) else (none))
def emendateref21_Cyclic.l3 : Nat → Int → List Bool → Int → Int → Option (List Bool)
 | 0, _, _, _, _ => none
 | k + 1, x3, x5, x9, x10 => if x10 < x3 then (emendateref21_Cyclic.l4 k x3 x5 x9 x10 0) else (emendateref21_Cyclic.l2 k x3 x5 (wrap64 (x9 + 1)))
def emendateref21_Cyclic.l4 : Nat → Int → List Bool → Int → Int → Int → Option (List Bool)
 | 0, _, _, _, _, _ => none
 | k + 1, x3, x5, x9, x10, x11 => if x11 < x3 then (if 0 ≤ (wrap64 ((wrap64 (x10 * x3)) + x9)) then (if (wrap64 ((wrap64 (x10 * x3)) + x9)) < (x5.length : Int) then (if rdOf false x5 (wrap64 ((wrap64 (x10 * x3)) + x9)) = true then (if 0 ≤ (wrap64 ((wrap64 (x9 * x3)) + x11)) then (if (wrap64 ((wrap64 (x9 * x3)) + x11)) < (x5.length : Int) then (if rdOf false x5 (wrap64 ((wrap64 (x9 * x3)) + x11)) = true then (if 0 ≤ (wrap64 ((wrap64 (x10 * x3)) + x11)) then (if (wrap64 ((wrap64 (x10 * x3)) + x11)) < (x5.length : Int) then (emendateref21_Cyclic.l4 k x3 (x5.set ((wrap64 ((wrap64 (x10 * x3)) + x11)) : Int).toNat true) x9 x10 (wrap64 (x11 + 1))) else (none)) else (none)) else (emendateref21_Cyclic.l4 k x3 x5 x9 x10 (wrap64 (x11 + 1)))) else (none)) else (none)) else (emendateref21_Cyclic.l4 k x3 x5 x9 x10 (wrap64 (x11 + 1)))) else (none)) else (none)) else (emendateref21_Cyclic.l3 k x3 x5 x9 (wrap64 (x10 + 1)))
def emendateref21_Cyclic.l5 : Nat → Int → List Bool → List Bool → Int → Option (List Bool)
 | 0, _, _, _, _ => none
 | k + 1, x3, x5, x12, x13 => if x13 < x3 then (if 0 ≤ (wrap64 ((wrap64 (x13 * x3)) + x13)) then (if (wrap64 ((wrap64 (x13 * x3)) + x13)) < (x5.length : Int) then (if 0 ≤ x13 then (if x13 < (x12.length : Int) then (emendateref21_Cyclic.l5 k x3 x5 (x12.set (x13 : Int).toNat (rdOf false x5 (wrap64 ((wrap64 (x13 * x3)) + x13)))) (wrap64 (x13 + 1))) else (none)) else (none)) else (none)) else (none)) else (some x12)
end
def emendateref21_Cyclic.f (k : Nat) (l0_0 : List ByteArray) (l0_1 : List ByteArray) (a0_2 : Int) (l0_3 : List (S41)) : Option (List Bool) := (emendateref21_Nullable.f k l0_0 l0_1 a0_2 l0_3).bind fun t214 => (if 0 ≤ (wrap64 ((l0_1.length : Int) * (l0_1.length : Int))) then (if (wrap64 ((l0_1.length : Int) * (l0_1.length : Int)) : Int).toNat ≤ 281474976710656 then (emendateref21_Cyclic.l0 k (l0_1.length : Int) t214 (List.replicate (wrap64 ((l0_1.length : Int) * (l0_1.length : Int)) : Int).toNat false) 0 l0_0 l0_1 a0_2 l0_3) else (none)) else (none))
theorem emendateref21_Cyclic.mono_l : ∀ k, (∀ y0 y1 y2 y3 y4 y5 y6 y7, LeO (emendateref21_Cyclic.l0 k y0 y1 y2 y3 y4 y5 y6 y7) (emendateref21_Cyclic.l0 (k + 1) y0 y1 y2 y3 y4 y5 y6 y7)) ∧ (∀ y0 y1 y2 y3 y4 y5 y6 y7 y8 y9 y10 y11, LeO (emendateref21_Cyclic.l1 k y0 y1 y2 y3 y4 y5 y6 y7 y8 y9 y10 y11) (emendateref21_Cyclic.l1 (k + 1) y0 y1 y2 y3 y4 y5 y6 y7 y8 y9 y10 y11)) ∧ (∀ y0 y1 y2, LeO (emendateref21_Cyclic.l2 k y0 y1 y2) (emendateref21_Cyclic.l2 (k + 1) y0 y1 y2)) ∧ (∀ y0 y1 y2 y3, LeO (emendateref21_Cyclic.l3 k y0 y1 y2 y3) (emendateref21_Cyclic.l3 (k + 1) y0 y1 y2 y3)) ∧ (∀ y0 y1 y2 y3 y4, LeO (emendateref21_Cyclic.l4 k y0 y1 y2 y3 y4) (emendateref21_Cyclic.l4 (k + 1) y0 y1 y2 y3 y4)) ∧ (∀ y0 y1 y2 y3, LeO (emendateref21_Cyclic.l5 k y0 y1 y2 y3) (emendateref21_Cyclic.l5 (k + 1) y0 y1 y2 y3))
 | 0 => ⟨fun _ _ _ _ _ _ _ _ r h => by simp [emendateref21_Cyclic.l0] at h, fun _ _ _ _ _ _ _ _ _ _ _ _ r h => by simp [emendateref21_Cyclic.l1] at h, fun _ _ _ r h => by simp [emendateref21_Cyclic.l2] at h, fun _ _ _ _ r h => by simp [emendateref21_Cyclic.l3] at h, fun _ _ _ _ _ r h => by simp [emendateref21_Cyclic.l4] at h, fun _ _ _ _ r h => by simp [emendateref21_Cyclic.l5] at h⟩
 | k + 1 => by
  obtain ⟨ih0, ih1, ih2, ih3, ih4, ih5⟩ := emendateref21_Cyclic.mono_l k
  refine ⟨?_, ?_, ?_, ?_, ?_, ?_⟩
  ·intro y0 y1 y2 y3 y4 y5 y6 y7
   unfold emendateref21_Cyclic.l0
   repeat' first
   | (with_reducible exact ih0 _ _ _ _ _ _ _ _)
   | (with_reducible exact ih1 _ _ _ _ _ _ _ _ _ _ _ _)
   | (with_reducible exact ih2 _ _ _)
   | (with_reducible exact ih3 _ _ _ _)
   | (with_reducible exact ih4 _ _ _ _ _)
   | (with_reducible exact ih5 _ _ _ _)
   | (with_reducible exact emendateref21_Nullable.mono _ _ _ _ _)
   | (with_reducible exact emendateref21_all.mono _ _ _ _)
   | (with_reducible exact LeO.refl _)
   | (with_reducible exact LeO.none _)
   | (with_reducible refine LeO.ite ?_ ?_)
   | (with_reducible refine LeO.bind ?_ (fun _ => ?_))
   | exact ih0 _ _ _ _ _ _ _ _
   | exact ih1 _ _ _ _ _ _ _ _ _ _ _ _
   | exact ih2 _ _ _
   | exact ih3 _ _ _ _
   | exact ih4 _ _ _ _ _
   | exact ih5 _ _ _ _
   | exact emendateref21_Nullable.mono _ _ _ _ _
   | exact emendateref21_all.mono _ _ _ _
   | exact LeO.none _
   | refine LeO.ite ?_ ?_
   | refine LeO.bind ?_ (fun _ => ?_)
  ·intro y0 y1 y2 y3 y4 y5 y6 y7 y8 y9 y10 y11
   unfold emendateref21_Cyclic.l1
   repeat' first
   | (with_reducible exact ih0 _ _ _ _ _ _ _ _)
   | (with_reducible exact ih1 _ _ _ _ _ _ _ _ _ _ _ _)
   | (with_reducible exact ih2 _ _ _)
   | (with_reducible exact ih3 _ _ _ _)
   | (with_reducible exact ih4 _ _ _ _ _)
   | (with_reducible exact ih5 _ _ _ _)
   | (with_reducible exact emendateref21_Nullable.mono _ _ _ _ _)
   | (with_reducible exact emendateref21_all.mono _ _ _ _)
   | (with_reducible exact LeO.refl _)
   | (with_reducible exact LeO.none _)
   | (with_reducible refine LeO.ite ?_ ?_)
   | (with_reducible refine LeO.bind ?_ (fun _ => ?_))
   | exact ih0 _ _ _ _ _ _ _ _
   | exact ih1 _ _ _ _ _ _ _ _ _ _ _ _
   | exact ih2 _ _ _
   | exact ih3 _ _ _ _
   | exact ih4 _ _ _ _ _
   | exact ih5 _ _ _ _
   | exact emendateref21_Nullable.mono _ _ _ _ _
   | exact emendateref21_all.mono _ _ _ _
   | exact LeO.none _
   | refine LeO.ite ?_ ?_
   | refine LeO.bind ?_ (fun _ => ?_)
  ·intro y0 y1 y2
   unfold emendateref21_Cyclic.l2
   repeat' first
   | (with_reducible exact ih0 _ _ _ _ _ _ _ _)
   | (with_reducible exact ih1 _ _ _ _ _ _ _ _ _ _ _ _)
   | (with_reducible exact ih2 _ _ _)
   | (with_reducible exact ih3 _ _ _ _)
   | (with_reducible exact ih4 _ _ _ _ _)
   | (with_reducible exact ih5 _ _ _ _)
   | (with_reducible exact emendateref21_Nullable.mono _ _ _ _ _)
   | (with_reducible exact emendateref21_all.mono _ _ _ _)
   | (with_reducible exact LeO.refl _)
   | (with_reducible exact LeO.none _)
   | (with_reducible refine LeO.ite ?_ ?_)
   | (with_reducible refine LeO.bind ?_ (fun _ => ?_))
   | exact ih0 _ _ _ _ _ _ _ _
   | exact ih1 _ _ _ _ _ _ _ _ _ _ _ _
   | exact ih2 _ _ _
   | exact ih3 _ _ _ _
   | exact ih4 _ _ _ _ _
   | exact ih5 _ _ _ _
   | exact emendateref21_Nullable.mono _ _ _ _ _
   | exact emendateref21_all.mono _ _ _ _
   | exact LeO.none _
   | refine LeO.ite ?_ ?_
   | refine LeO.bind ?_ (fun _ => ?_)
  ·intro y0 y1 y2 y3
   unfold emendateref21_Cyclic.l3
   repeat' first
   | (with_reducible exact ih0 _ _ _ _ _ _ _ _)
   | (with_reducible exact ih1 _ _ _ _ _ _ _ _ _ _ _ _)
   | (with_reducible exact ih2 _ _ _)
   | (with_reducible exact ih3 _ _ _ _)
   | (with_reducible exact ih4 _ _ _ _ _)
   | (with_reducible exact ih5 _ _ _ _)
   | (with_reducible exact emendateref21_Nullable.mono _ _ _ _ _)
   | (with_reducible exact emendateref21_all.mono _ _ _ _)
   | (with_reducible exact LeO.refl _)
   | (with_reducible exact LeO.none _)
   | (with_reducible refine LeO.ite ?_ ?_)
   | (with_reducible refine LeO.bind ?_ (fun _ => ?_))
   | exact ih0 _ _ _ _ _ _ _ _
   | exact ih1 _ _ _ _ _ _ _ _ _ _ _ _
   | exact ih2 _ _ _
   | exact ih3 _ _ _ _
   | exact ih4 _ _ _ _ _
   | exact ih5 _ _ _ _
   | exact emendateref21_Nullable.mono _ _ _ _ _
   | exact emendateref21_all.mono _ _ _ _
   | exact LeO.none _
   | refine LeO.ite ?_ ?_
   | refine LeO.bind ?_ (fun _ => ?_)
  ·intro y0 y1 y2 y3 y4
   unfold emendateref21_Cyclic.l4
   repeat' first
   | (with_reducible exact ih0 _ _ _ _ _ _ _ _)
   | (with_reducible exact ih1 _ _ _ _ _ _ _ _ _ _ _ _)
   | (with_reducible exact ih2 _ _ _)
   | (with_reducible exact ih3 _ _ _ _)
   | (with_reducible exact ih4 _ _ _ _ _)
   | (with_reducible exact ih5 _ _ _ _)
   | (with_reducible exact emendateref21_Nullable.mono _ _ _ _ _)
   | (with_reducible exact emendateref21_all.mono _ _ _ _)
   | (with_reducible exact LeO.refl _)
   | (with_reducible exact LeO.none _)
   | (with_reducible refine LeO.ite ?_ ?_)
   | (with_reducible refine LeO.bind ?_ (fun _ => ?_))
   | exact ih0 _ _ _ _ _ _ _ _
   | exact ih1 _ _ _ _ _ _ _ _ _ _ _ _
   | exact ih2 _ _ _
   | exact ih3 _ _ _ _
   | exact ih4 _ _ _ _ _
   | exact ih5 _ _ _ _
   | exact emendateref21_Nullable.mono _ _ _ _ _
   | exact emendateref21_all.mono _ _ _ _
   | exact LeO.none _
   | refine LeO.ite ?_ ?_
   | refine LeO.bind ?_ (fun _ => ?_)
  ·intro y0 y1 y2 y3
   unfold emendateref21_Cyclic.l5
   repeat' first
   | (with_reducible exact ih0 _ _ _ _ _ _ _ _)
   | (with_reducible exact ih1 _ _ _ _ _ _ _ _ _ _ _ _)
   | (with_reducible exact ih2 _ _ _)
   | (with_reducible exact ih3 _ _ _ _)
   | (with_reducible exact ih4 _ _ _ _ _)
   | (with_reducible exact ih5 _ _ _ _)
   | (with_reducible exact emendateref21_Nullable.mono _ _ _ _ _)
   | (with_reducible exact emendateref21_all.mono _ _ _ _)
   | (with_reducible exact LeO.refl _)
   | (with_reducible exact LeO.none _)
   | (with_reducible refine LeO.ite ?_ ?_)
   | (with_reducible refine LeO.bind ?_ (fun _ => ?_))
   | exact ih0 _ _ _ _ _ _ _ _
   | exact ih1 _ _ _ _ _ _ _ _ _ _ _ _
   | exact ih2 _ _ _
   | exact ih3 _ _ _ _
   | exact ih4 _ _ _ _ _
   | exact ih5 _ _ _ _
   | exact emendateref21_Nullable.mono _ _ _ _ _
   | exact emendateref21_all.mono _ _ _ _
   | exact LeO.none _
   | refine LeO.ite ?_ ?_
   | refine LeO.bind ?_ (fun _ => ?_)
theorem emendateref21_Cyclic.mono : ∀ a0 a1 a2 a3 k, LeO (emendateref21_Cyclic.f k a0 a1 a2 a3) (emendateref21_Cyclic.f (k + 1) a0 a1 a2 a3) := by
 intro a0 a1 a2 a3 k
 obtain ⟨ih0, ih1, ih2, ih3, ih4, ih5⟩ := emendateref21_Cyclic.mono_l k
 unfold emendateref21_Cyclic.f
 repeat' first
   | (with_reducible exact ih0 _ _ _ _ _ _ _ _)
   | (with_reducible exact ih1 _ _ _ _ _ _ _ _ _ _ _ _)
   | (with_reducible exact ih2 _ _ _)
   | (with_reducible exact ih3 _ _ _ _)
   | (with_reducible exact ih4 _ _ _ _ _)
   | (with_reducible exact ih5 _ _ _ _)
   | (with_reducible exact emendateref21_Nullable.mono _ _ _ _ _)
   | (with_reducible exact emendateref21_all.mono _ _ _ _)
   | (with_reducible exact LeO.refl _)
   | (with_reducible exact LeO.none _)
   | (with_reducible refine LeO.ite ?_ ?_)
   | (with_reducible refine LeO.bind ?_ (fun _ => ?_))
   | exact ih0 _ _ _ _ _ _ _ _
   | exact ih1 _ _ _ _ _ _ _ _ _ _ _ _
   | exact ih2 _ _ _
   | exact ih3 _ _ _ _
   | exact ih4 _ _ _ _ _
   | exact ih5 _ _ _ _
   | exact emendateref21_Nullable.mono _ _ _ _ _
   | exact emendateref21_all.mono _ _ _ _
   | exact LeO.none _
   | refine LeO.ite ?_ ?_
   | refine LeO.bind ?_ (fun _ => ?_)
def emendateref21_Cyclic.T12 : Bool × List (List Nat × List Nat) := (true, [([], []), ([], []), ([1], [1]), ([], []), ([2, 3], [2, 3]), ([4], [4]), ([], []), ([6], [6]), ([], []), ([7, 8], [7, 8]), ([9], [9]), ([5, 10], [5, 10]), ([0, 11, 0, 1, 2, 3, 4, 5, 6, 7, 8, 9, 10, 11], [0, 11]), ([12, 0, 1, 2, 3, 4, 5, 6, 7, 8, 9, 10, 11], [12])])
def emendateref21_Cyclic.B12 : List Nat := [0, 0, 2, 0, 14, 30, 0, 64, 0, 448, 960, 2046, 4095, 8191]
theorem emendateref21_Cyclic.tab12 : rtab .any (opsOf Try.f20 12) = emendateref21_Cyclic.T12 := by kernel_rfl
theorem emendateref21_Cyclic.bits12 : waitsOk emendateref21_Cyclic.T12.2 emendateref21_Cyclic.B12 = true := by kernel_rfl
set_option maxHeartbeats 8000000 in
set_option maxRecDepth 100000 in
theorem emendateref21_Cyclic.calls (k : Nat) (A0_0 : Option Addr) (c0_0 : Nat) (l0_0 : List ByteArray) (A0_1 : Option Addr) (c0_1 : Nat) (l0_1 : List ByteArray) (a0_2 : Int) (A0_3 : Option Addr) (c0_3 : Nat) (l0_3 : List (S41)) (r : List Bool) (w : World) (hr0_0 : Kd.C Kd.string w A0_0 l0_0.length l0_0) (hc0_0 : l0_0.length ≤ c0_0) (hr0_1 : Kd.C Kd.string w A0_1 l0_1.length l0_1) (hc0_1 : l0_1.length ≤ c0_1) (hr0_3 : Kd.C k41 w A0_3 l0_3.length l0_3) (hc0_3 : l0_3.length ≤ c0_3) (h : emendateref21_Cyclic.f k l0_0 l0_1 a0_2 l0_3 = some r) :
  Calls Try.prog 20 #[.agg #[.slice A0_0 l0_0.length c0_0, .slice A0_1 l0_1.length c0_1, .int .i64 a0_2, .slice A0_3 l0_3.length c0_3]] w fun e w' => ∃ v0_ : Value, e = .returned (v0_) ∧ Kd.R Kd.bool 4 w' w.heap.size (fun _ => True) v0_ r ∧ Below w.heap.size w w' := by
 have hu25 := Try.underlying25
 have hu41 := Try.underlying41
 have HR0_0 := Aside0.mk hr0_0
 have HC0_0 := Aside0.mk hc0_0
 clear hr0_0 hc0_0
 have HR0_1 := Aside0.mk hr0_1
 have HC0_1 := Aside0.mk hc0_1
 clear hr0_1 hc0_1
 have HR0_3 := Aside0.mk hr0_3
 have HC0_3 := Aside0.mk hc0_3
 clear hr0_3 hc0_3
 have HB := Aside0.mk (Below.refl w.heap.size w)
 have H : ((emendateref21_Nullable.f k l0_0 l0_1 a0_2 l0_3).bind fun t214 => (if 0 ≤ (wrap64 ((l0_1.length : Int) * (l0_1.length : Int))) then (if (wrap64 ((l0_1.length : Int) * (l0_1.length : Int)) : Int).toNat ≤ 281474976710656 then (emendateref21_Cyclic.l0 k (l0_1.length : Int) t214 (List.replicate (wrap64 ((l0_1.length : Int) * (l0_1.length : Int)) : Int).toNat false) 0 l0_0 l0_1 a0_2 l0_3) else (none)) else (none))) = some r := h
 clear h
 replace H := Option.bind_eq_some_iff.mp H
 obtain ⟨t214, A20, H⟩ := H
 replace H : (if 0 ≤ (wrap64 ((l0_1.length : Int) * (l0_1.length : Int))) then (if (wrap64 ((l0_1.length : Int) * (l0_1.length : Int)) : Int).toNat ≤ 281474976710656 then (emendateref21_Cyclic.l0 k (l0_1.length : Int) t214 (List.replicate (wrap64 ((l0_1.length : Int) * (l0_1.length : Int)) : Int).toNat false) 0 l0_0 l0_1 a0_2 l0_3) else (none)) else (none)) = some r := H
 have A2 := Aside0.mk A20
 clear A20
 obtain ⟨ji3, hji3⟩ : ∃ j_ : Int, (wrap64 ((l0_1.length : Int) * (l0_1.length : Int))) = j_ := ⟨_, rfl⟩
 replace H : (if 0 ≤ (ji3) then (if (ji3 : Int).toNat ≤ 281474976710656 then (emendateref21_Cyclic.l0 k (l0_1.length : Int) t214 (List.replicate (ji3 : Int).toNat false) 0 l0_0 l0_1 a0_2 l0_3) else (none)) else (none)) = some r := by first | (rw [hji3] at H; exact H) | (simp only [hji3] at H ⊢; exact H)
 (try rw [hji3] at A2)
 have hji3w : (IntKind.i64.wrap ((l0_1.length : Int) * (l0_1.length : Int))) = ji3 := (i64_w _).trans hji3
 by_cases c4 : 0 ≤ (ji3)
 ·rw [if_pos c4] at H
  have c4b0 := eq_true c4
  have c4b1 : decide (0 ≤ (ji3)) = true := decide_eq_true c4
  clear c4
  by_cases c5 : (ji3 : Int).toNat ≤ 281474976710656
  ·rw [if_pos c5] at H
   have c5b0 := eq_true c5
   have c5b1 : decide ((ji3 : Int).toNat ≤ 281474976710656) = true := decide_eq_true c5
   clear c5
   obtain ⟨y217, hy217⟩ : ∃ y_ : List Bool, y_ = (List.replicate (ji3 : Int).toNat false) := ⟨_, rfl⟩
   replace H : (emendateref21_Cyclic.l0 k (l0_1.length : Int) t214 y217 0 l0_0 l0_1 a0_2 l0_3) = some r := by first | (rw [hy217]; with_reducible exact H) | (have H2_ := (Option.bind_some _ _).symm.trans H; rw [hy217]; with_reducible exact H2_) | (have H2_ := (Option.bind_some _ _).symm.trans H; with_reducible exact H2_) | with_reducible exact H | (rw [hy217]; exact H) | exact H
   have Ny217 := Aside0.mk hy217
   clear hy217
   have H' := Aside0.mk H
   clear H
   go_enter Try.func20, Try.ntmps20
   go_wp2_with (first | ((with_reducible refine gate_dst (N := 1) rfl ?_); refine box_event ?hg (N := 1) ?hd (cs := #[.slice A0_0 l0_0.length c0_0, .slice A0_1 l0_1.length c0_1, .int .i64 a0_2, .slice A0_3 l0_3.length c0_3]) (t := 25) ?hr ?_; (case hd => rfl); (case hg => rfl); (case hr => first | (go_simp; done) | (go_simp; rfl)); intro gb213 hg w6 hbox hb; have n0_ := Aside0.mk (below_step (by repeat (first | (with_reducible first | exact HB.out | apply below_alloc | apply pw_below_drewN | apply below_drew1) | exact HB.out)) hb); have n1_ := Aside0.mk (hbox); have n2_ := Aside0.mk ((by rw [hg]; exact (below_size (by repeat (first | (with_reducible first | exact HB.out | apply below_alloc | apply pw_below_drewN | apply below_drew1) | exact HB.out))) : w.heap.size ≤ gb213)); have n3_ := Aside0.mk ((by rw [hg]; exact (below_size (by repeat (first | (with_reducible first | exact HB.out | apply below_alloc | apply pw_below_drewN | apply below_drew1) | exact HB.out))) : w.heap.size ≤ gb213)); clear HB; have HB := n0_; have BK213 := n1_; have GW213 := n2_; have GE213 := n3_; clear n0_ n1_ n2_ n3_; clear hb hbox hg; have hcz7_0 : w6.cell? ⟨gb213, 0, none⟩ = some (.slice A0_0 l0_0.length c0_0) := (blk_cell BK213.out 0).trans rfl; have hcz7_1 : w6.cell? ⟨gb213, 1, none⟩ = some (.slice A0_1 l0_1.length c0_1) := (blk_cell BK213.out 1).trans rfl; have hcz7_2 : w6.cell? ⟨gb213, 2, none⟩ = some (.int .i64 a0_2) := (blk_cell BK213.out 2).trans rfl; have hcz7_3 : w6.cell? ⟨gb213, 3, none⟩ = some (.slice A0_3 l0_3.length c0_3) := (blk_cell BK213.out 3).trans rfl; have hfz7_0 := blk_frozen BK213.out 0; have hfz7_1 := blk_frozen BK213.out 1; have hfz7_2 := blk_frozen BK213.out 2; have hfz7_3 := blk_frozen BK213.out 3) | ((with_reducible refine gate_callee (f := 14) rfl ?_); refine goesL_ (some 18) rfl rfl Try.func14 (by kernel_rfl) rfl #[.agg #[.slice A0_0 l0_0.length c0_0, .slice A0_1 l0_1.length c0_1, .int .i64 a0_2, .slice A0_3 l0_3.length c0_3]] rfl (by (try simp only [List.map_toArray, List.map_cons, List.map_nil]); first | done | rfl | (simp only [List.length_drop, List.length_take]; rfl)) ?_; (with_reducible refine (emendateref21_Nullable.calls k _ _ l0_0 _ _ l0_1 a0_2 _ _ l0_3 t214 _ ?side1 ?side2 ?side3 ?side4 ?side5 ?side6 A2.out).mono ?_); (case side1 => repeat (first | exact (Kd.C_below HR0_0.out HB.out) | (with_reducible refine Kd.C_alloc ?_ _) | (with_reducible refine Kd.C_drewN ?_ _) | (with_reducible refine Kd.C_drew ?_))); (case side2 => exact HC0_0.out); (case side3 => repeat (first | exact (Kd.C_below HR0_1.out HB.out) | (with_reducible refine Kd.C_alloc ?_ _) | (with_reducible refine Kd.C_drewN ?_ _) | (with_reducible refine Kd.C_drew ?_))); (case side4 => exact HC0_1.out); (case side5 => repeat (first | exact (Kd.C_below HR0_3.out HB.out) | (with_reducible refine Kd.C_alloc ?_ _) | (with_reducible refine Kd.C_drewN ?_ _) | (with_reducible refine Kd.C_drew ?_))); (case side6 => exact HC0_3.out); rintro e w8 ⟨v215, rfl, ho0, hb⟩; refine ⟨_, rfl, ?_⟩; have n0_ := Aside0.mk (Kd.R_lower ho0 (below_size (by repeat (first | (with_reducible first | exact HB.out | apply below_alloc | apply pw_below_drewN | apply below_drew1 | refine below_set ?_ GE213.out) | exact HB.out)))); have n1_ := Aside0.mk (blk_below (g := gb213) (o := .cells #[.slice A0_0 l0_0.length c0_0, .slice A0_1 l0_1.length c0_1, .int .i64 a0_2, .slice A0_3 l0_3.length c0_3] 25 (0, 0)) (by (with_reducible repeat (first | refine blk_drewN ?_ _ | refine blk_drew ?_ | refine blk_alloc ?_ _)); exact BK213.out) hb); have n2_ := Aside0.mk (below_step (by repeat (first | (with_reducible first | exact HB.out | apply below_alloc | apply pw_below_drewN | apply below_drew1 | refine below_set ?_ GE213.out) | exact HB.out)) hb); clear BK213; clear HB; have HO216 := n0_; have BK213 := n1_; have HB := n2_; clear n0_ n1_ n2_; (try clear hb); (try clear hb2); (try clear hk); (try clear hi); (try clear ho0)) | ((with_reducible refine gate_dst (N := 22) rfl ?_); refine Kd.R_make Kd.bool _ 4 rfl (N := 22) rfl 29 _ _ rfl ji3 rfl rfl Try.underlying29 (.bool false) 1 info4 rfl (by decide) (by omega) false (ok := fun _ => True) (okp := fun _ => True) rfl (fun _ hk => hk) trivial (of_decide_eq_true (by first | (with_reducible assumption) | assumption)) (Nat.le_trans (Nat.mul_le_mul_right _ (of_decide_eq_true (by first | (with_reducible assumption) | assumption) : ji3.toNat ≤ 281474976710656)) (by omega)) (Below.refl _ _) (Nat.le_refl _) ?_; intro v218 w9 ho10 hb hg_ hnew_; clear hg_ hnew_; (first | rw [← Ny217.out] at ho10 | (simp only [Int.reduceToNat] at ho10; rw [← Ny217.out] at ho10)); have n0_ := Aside0.mk (Kd.R_elder' (by (with_reducible repeat (first | apply Kd.R_alloc | apply Kd.R_drewN | apply Kd.R_drew)); exact HO216.out) (Kd.R_base ho10) hb); have n1_ := Aside0.mk (Kd.R_lower (Kd.R_new' ho10 (Kd.R_lt (by (with_reducible repeat (first | apply Kd.R_alloc | apply Kd.R_drewN | apply Kd.R_drew)); exact HO216.out))) (below_size (by repeat (first | (with_reducible first | exact HB.out | apply below_alloc | apply pw_below_drewN | apply below_drew1 | refine below_set ?_ GE213.out) | exact HB.out)))); have n2_ := Aside0.mk (blk_below (g := gb213) (o := .cells #[.slice A0_0 l0_0.length c0_0, .slice A0_1 l0_1.length c0_1, .int .i64 a0_2, .slice A0_3 l0_3.length c0_3] 25 (0, 0)) (by (with_reducible repeat (first | refine blk_drewN ?_ _ | refine blk_drew ?_ | refine blk_alloc ?_ _)); exact BK213.out) hb); have n3_ := Aside0.mk (below_step (by repeat (first | (with_reducible first | exact HB.out | apply below_alloc | apply pw_below_drewN | apply below_drew1 | refine below_set ?_ GE213.out) | exact HB.out)) hb); clear HO216; clear BK213; clear HB; have HO216 := n0_; have HO219 := n1_; have BK213 := n2_; have HB := n3_; clear n0_ n1_ n2_ n3_; clear hb ho10))
   go_loopg [6] k (fun kq v6 w' => ∃ (x5_1 : List Bool) (x6_1 : Int), v6 = .int .i64 x6_1 ∧ Aside0 (emendateref21_Cyclic.l0 kq (l0_1.length : Int) t214 x5_1 x6_1 l0_0 l0_1 a0_2 l0_3 = some r) ∧ Aside0 (kq ≤ k) ∧ Aside0 (Kd.R Kd.bool 4 w' w.heap.size (fun k_ => some k_ ≠ (v218 : Value).ownBlock) v215 t214) ∧ Aside0 (Kd.R Kd.bool 4 w' w.heap.size (fun k_ => some k_ ≠ (v215 : Value).ownBlock) v218 x5_1) ∧ Aside0 (w'.heap[gb213]? = some (.cells #[(.slice A0_0 l0_0.length c0_0), (.slice A0_1 l0_1.length c0_1), .int .i64 a0_2, (.slice A0_3 l0_3.length c0_3)] 25 (0, 0))) ∧ Aside0 (Below w.heap.size w w'))
   case atStart => exact ⟨(y217), (0), (by first | rfl | (simp; done) | (simp [*]; done)), H', ⟨Nat.le_refl _⟩, ⟨by (with_reducible repeat (first | apply Kd.R_alloc | apply Kd.R_drewN | apply Kd.R_drew)); exact Kd.R_mono HO216.out (fun _ hk => hk.2)⟩, ⟨by (with_reducible repeat (first | apply Kd.R_alloc | apply Kd.R_drewN | apply Kd.R_drew)); exact Kd.R_mono HO219.out (fun _ hk => hk.2)⟩, ⟨by (with_reducible repeat (first | refine blk_drewN ?_ _ | refine blk_drew ?_ | refine blk_alloc ?_ _)); exact BK213.out⟩, ⟨by repeat (first | (with_reducible first | exact HB.out | apply below_alloc | apply pw_below_drewN | apply below_drew1 | refine below_set ?_ GE213.out) | exact HB.out)⟩⟩
   case round =>
    clear H'
    try clear c1
    try clear c2
    try clear p2
    try clear c4
    try clear c4b0
    try clear c4b1
    try clear c5
    try clear c5b0
    try clear c5b1
    try clear p6
    try clear hcz7_0
    try clear hcz7_1
    try clear hcz7_2
    try clear hcz7_3
    try clear hfz7_0
    try clear hfz7_1
    try clear hfz7_2
    try clear hfz7_3
    obtain ⟨x5_1, x6_1, rfl, HA, HK1, HO_4, HO_5, BK213, HB⟩ := hrel
    cases gk with
    | zero => exact absurd HA.out (by simp [emendateref21_Cyclic.l0])
    | succ k1 =>
     have H := HA.out
     clear HA
     simp only [emendateref21_Cyclic.l0] at H
     by_cases c11 : x6_1 < (l0_3.length : Int)
     ·rw [if_pos c11] at H
      have c11b0 : decide (x6_1 < (l0_3.length : Int)) = true := decide_eq_true c11
      clear c11
      by_cases c12 : 0 ≤ x6_1
      ·rw [if_pos c12] at H
       have c12b0 : decide (0 ≤ x6_1) = true := decide_eq_true c12
       clear c12
       have H' := Aside0.mk H
       clear H
       have hcz13_0 : wr.cell? ⟨gb213, 0, none⟩ = some (.slice A0_0 l0_0.length c0_0) := (blk_cell BK213.out 0).trans rfl
       have hcz13_1 : wr.cell? ⟨gb213, 1, none⟩ = some (.slice A0_1 l0_1.length c0_1) := (blk_cell BK213.out 1).trans rfl
       have hcz13_2 : wr.cell? ⟨gb213, 2, none⟩ = some (.int .i64 a0_2) := (blk_cell BK213.out 2).trans rfl
       have hcz13_3 : wr.cell? ⟨gb213, 3, none⟩ = some (.slice A0_3 l0_3.length c0_3) := (blk_cell BK213.out 3).trans rfl
       have hfz13_0 := blk_frozen BK213.out 0
       have hfz13_1 := blk_frozen BK213.out 1
       have hfz13_2 := blk_frozen BK213.out 2
       have hfz13_3 := blk_frozen BK213.out 3
       have p220 : 0 ≤ (x6_1 : Int) := of_decide_eq_true (by first | (with_reducible assumption) | assumption)
       have q220 : x6_1 < (l0_3.length : Int) := of_decide_eq_true (by first | (with_reducible assumption) | assumption)
       obtain ⟨ad220, A220_1, c220_1, e220, hx220_0, hx220_1, hx220_2, hl220_1, hi220_1⟩ := at_T41 HR0_3.out x6_1 p220 q220
       cases e220
       replace hx220_0 := (HB.out.cell (World.block_lt_of_cell? w _ hx220_0)).trans hx220_0
       replace hx220_1 := (HB.out.cell (World.block_lt_of_cell? w _ hx220_1)).trans hx220_1
       replace hx220_2 := (HB.out.cell (World.block_lt_of_cell? w _ hx220_2)).trans hx220_2
       have HR220_1 := Aside0.mk hi220_1
       have HC220_1 := Aside0.mk hl220_1
       clear hi220_1 hl220_1
       replace p220 := eq_true p220
       replace q220 := eq_true q220
       go_wp2_with (first | ((with_reducible refine gate_dst (N := 7) rfl ?_); refine box_event ?hg (N := 7) ?hd (cs := #[.int .i64 0, .slice none 0 0, .int .i64 0]) (t := 41) ?hr ?_; (case hd => rfl); (case hg => rfl); (case hr => first | (go_simp; done) | (go_simp; rfl)); intro gb221 hg w14 hbox hb; have n0_ := Aside0.mk (Kd.R_below (by (with_reducible repeat (first | apply Kd.R_alloc | apply Kd.R_drewN | apply Kd.R_drew)); exact HO_4.out) hb); have n1_ := Aside0.mk (Kd.R_below (by (with_reducible repeat (first | apply Kd.R_alloc | apply Kd.R_drewN | apply Kd.R_drew)); exact HO_5.out) hb); have n2_ := Aside0.mk (blk_below (g := gb213) (o := .cells #[.slice A0_0 l0_0.length c0_0, .slice A0_1 l0_1.length c0_1, .int .i64 a0_2, .slice (some ad220) l0_3.length c0_3] 25 (0, 0)) (by (with_reducible repeat (first | refine blk_drewN ?_ _ | refine blk_drew ?_ | refine blk_alloc ?_ _)); exact BK213.out) hb); have n3_ := Aside0.mk (below_step (by repeat (first | (with_reducible first | exact HB.out | apply below_alloc | apply pw_below_drewN | apply below_drew1 | refine below_set ?_ GE213.out) | exact HB.out)) hb); have n4_ := Aside0.mk (hbox); have n5_ := Aside0.mk ((by rw [hg]; exact (below_size (by repeat (first | (with_reducible first | exact HB.out | apply below_alloc | apply pw_below_drewN | apply below_drew1 | refine below_set ?_ GE213.out) | exact HB.out))) : w.heap.size ≤ gb221)); have n6_ := Aside0.mk ((by rw [hg]; exact (below_size (by repeat (first | (with_reducible first | exact HB.out | apply below_alloc | apply pw_below_drewN | apply below_drew1 | refine below_set ?_ GE213.out) | exact HB.out))) : w.heap.size ≤ gb221)); have n7_ := Aside0.mk ((by rw [hg]; exact Nat.ne_of_lt (blk_lt (g := gb213) (o := .cells #[.slice A0_0 l0_0.length c0_0, .slice A0_1 l0_1.length c0_1, .int .i64 a0_2, .slice (some ad220) l0_3.length c0_3] 25 (0, 0)) (by (with_reducible repeat (first | refine blk_drewN ?_ _ | refine blk_drew ?_ | refine blk_alloc ?_ _)); exact BK213.out)) : gb213 ≠ gb221)); have n8_ := Aside0.mk ((by rw [hg]; exact Nat.ne_of_gt (blk_lt (g := gb213) (o := .cells #[.slice A0_0 l0_0.length c0_0, .slice A0_1 l0_1.length c0_1, .int .i64 a0_2, .slice (some ad220) l0_3.length c0_3] 25 (0, 0)) (by (with_reducible repeat (first | refine blk_drewN ?_ _ | refine blk_drew ?_ | refine blk_alloc ?_ _)); exact BK213.out)) : gb221 ≠ gb213)); clear HO_4; clear HO_5; clear BK213; clear HB; have HO_4 := n0_; have HO_5 := n1_; have BK213 := n2_; have HB := n3_; have BK221 := n4_; have GW221 := n5_; have GE221 := n6_; have NB213_221 := n7_; have NB221_213 := n8_; clear n0_ n1_ n2_ n3_ n4_ n5_ n6_ n7_ n8_; clear hb hbox hg; have hnb15 := NB221_213.out; have hnc15 := NB213_221.out; have hcz16_0 : w14.cell? ⟨gb221, 0, none⟩ = some (.int .i64 0) := (blk_cell BK221.out 0).trans rfl; have hcz16_1 : w14.cell? ⟨gb221, 1, none⟩ = some (.slice none 0 0) := (blk_cell BK221.out 1).trans rfl; have hcz16_2 : w14.cell? ⟨gb221, 2, none⟩ = some (.int .i64 0) := (blk_cell BK221.out 2).trans rfl; have hfz16_0 := blk_frozen BK221.out 0; have hfz16_1 := blk_frozen BK221.out 1; have hfz16_2 := blk_frozen BK221.out 2))
       go_loopg [8] k1 (fun kq v8 w' => ∃ (x5_2 : List Bool) (x8_2 : Int), v8 = .int .i64 x8_2 ∧ Aside0 (emendateref21_Cyclic.l1 kq (l0_1.length : Int) t214 x5_2 x6_1 x8_2 l0_0 l0_1 a0_2 l0_3 ((rd_T41 l0_3 x6_1).f0) ((rd_T41 l0_3 x6_1).f1) ((rd_T41 l0_3 x6_1).f2) = some r) ∧ Aside0 (kq ≤ k1) ∧ Aside0 (Kd.R Kd.bool 4 w' w.heap.size (fun k_ => some k_ ≠ (v218 : Value).ownBlock) v215 t214) ∧ Aside0 (Kd.R Kd.bool 4 w' w.heap.size (fun k_ => some k_ ≠ (v215 : Value).ownBlock) v218 x5_2) ∧ Aside0 (w'.heap[gb213]? = some (.cells #[(.slice A0_0 l0_0.length c0_0), (.slice A0_1 l0_1.length c0_1), .int .i64 a0_2, (.slice (some ad220) l0_3.length c0_3)] 25 (0, 0))) ∧ Aside0 (w'.heap[gb221]? = some (.cells #[.int .i64 ((rd_T41 l0_3 x6_1).f0), (.slice A220_1 ((rd_T41 l0_3 x6_1).f1).length c220_1), .int .i64 ((rd_T41 l0_3 x6_1).f2)] 41 (0, 0))) ∧ Aside0 (Below w.heap.size w w'))
       case atStart => exact ⟨(x5_1), (0), (by first | rfl | (simp; done) | (simp [*]; done)), H', ⟨Nat.le_refl _⟩, ⟨by (with_reducible repeat (first | apply Kd.R_alloc | apply Kd.R_drewN | apply Kd.R_drew)); exact Kd.R_mono (Kd.R_far (p := ⟨gb221, 2, none⟩) (Kd.R_far (p := ⟨gb221, 1, none⟩) (Kd.R_far (p := ⟨gb221, 0, none⟩) (Kd.R_types HO_4.out BK221.out (by decide)) (fun _ hk => hk.2) (.int .i64 ((rd_T41 l0_3 x6_1).f0))) (fun _ hk => hk.2) (.slice A220_1 ((rd_T41 l0_3 x6_1).f1).length c220_1)) (fun _ hk => hk.2) (.int .i64 ((rd_T41 l0_3 x6_1).f2))) (fun _ hk => hk.1)⟩, ⟨by (with_reducible repeat (first | apply Kd.R_alloc | apply Kd.R_drewN | apply Kd.R_drew)); exact Kd.R_mono (Kd.R_far (p := ⟨gb221, 2, none⟩) (Kd.R_far (p := ⟨gb221, 1, none⟩) (Kd.R_far (p := ⟨gb221, 0, none⟩) (Kd.R_types HO_5.out BK221.out (by decide)) (fun _ hk => hk.2) (.int .i64 ((rd_T41 l0_3 x6_1).f0))) (fun _ hk => hk.2) (.slice A220_1 ((rd_T41 l0_3 x6_1).f1).length c220_1)) (fun _ hk => hk.2) (.int .i64 ((rd_T41 l0_3 x6_1).f2))) (fun _ hk => hk.1)⟩, ⟨by (with_reducible repeat (first | refine blk_drewN ?_ _ | refine blk_drew ?_ | refine blk_alloc ?_ _)); refine blk_far ?_ NB213_221.out _; (with_reducible repeat (first | refine blk_drewN ?_ _ | refine blk_drew ?_ | refine blk_alloc ?_ _)); refine blk_far ?_ NB213_221.out _; (with_reducible repeat (first | refine blk_drewN ?_ _ | refine blk_drew ?_ | refine blk_alloc ?_ _)); refine blk_far ?_ NB213_221.out _; (with_reducible repeat (first | refine blk_drewN ?_ _ | refine blk_drew ?_ | refine blk_alloc ?_ _)); exact BK213.out⟩, ⟨by (with_reducible repeat (first | refine blk_drewN ?_ _ | refine blk_drew ?_ | refine blk_alloc ?_ _)); refine blk_put (cs := #[.int .i64 ((rd_T41 l0_3 x6_1).f0), .slice A220_1 ((rd_T41 l0_3 x6_1).f1).length c220_1, .int .i64 0]) ?_ 2 _ rfl; (with_reducible repeat (first | refine blk_drewN ?_ _ | refine blk_drew ?_ | refine blk_alloc ?_ _)); refine blk_put (cs := #[.int .i64 ((rd_T41 l0_3 x6_1).f0), .slice none 0 0, .int .i64 0]) ?_ 1 _ rfl; (with_reducible repeat (first | refine blk_drewN ?_ _ | refine blk_drew ?_ | refine blk_alloc ?_ _)); refine blk_put (cs := #[.int .i64 0, .slice none 0 0, .int .i64 0]) ?_ 0 _ rfl; (with_reducible repeat (first | refine blk_drewN ?_ _ | refine blk_drew ?_ | refine blk_alloc ?_ _)); exact BK221.out⟩, ⟨by repeat (first | (with_reducible first | exact HB.out | apply below_alloc | apply pw_below_drewN | apply below_drew1 | refine below_set ?_ GE213.out | refine below_set ?_ GE221.out) | exact HB.out)⟩⟩
       case round =>
        clear H'
        try clear c1
        try clear c2
        try clear p2
        try clear q2
        try clear hx2
        try clear c4
        try clear c4b0
        try clear c4b1
        try clear c5
        try clear c5b0
        try clear c5b1
        try clear p6
        try clear c11
        try clear c11b0
        try clear c12
        try clear c12b0
        try clear c14
        try clear c15
        try clear hcz13_0
        try clear hcz13_1
        try clear hcz13_2
        try clear hcz13_3
        try clear hcz16_0
        try clear hcz16_1
        try clear hcz16_2
        try clear hcz7_0
        try clear hcz7_1
        try clear hcz7_2
        try clear hcz7_3
        try clear hfz13_0
        try clear hfz13_1
        try clear hfz13_2
        try clear hfz13_3
        try clear hfz16_0
        try clear hfz16_1
        try clear hfz16_2
        try clear hfz7_0
        try clear hfz7_1
        try clear hfz7_2
        try clear hfz7_3
        try clear hx220_0
        try clear hx220_1
        try clear hx220_2
        try clear p2
        try clear p220
        try clear p6
        try clear q220
        obtain ⟨x5_2, x8_2, rfl, HA, HK2, HO_4, HO_5, BK213, BK221, HB⟩ := hrel
        cases gk with
        | zero => exact absurd HA.out (by simp [emendateref21_Cyclic.l1])
        | succ k2 =>
         have H := HA.out
         clear HA
         simp only [emendateref21_Cyclic.l1] at H
         by_cases c17 : x8_2 < (((rd_T41 l0_3 x6_1).f1).length : Int)
         ·rw [if_pos c17] at H
          have c17b0 : decide (x8_2 < (((rd_T41 l0_3 x6_1).f1).length : Int)) = true := decide_eq_true c17
          clear c17
          by_cases c18 : 0 ≤ x8_2
          ·rw [if_pos c18] at H
           have c18b0 : decide (0 ≤ x8_2) = true := decide_eq_true c18
           clear c18
           by_cases c19 : (rd ((rd_T41 l0_3 x6_1).f1) x8_2) < 0
           ·rw [if_pos c19] at H
            have c19b0 : decide ((rd ((rd_T41 l0_3 x6_1).f1) x8_2) < 0) = true := decide_eq_true c19
            clear c19
            have c20b0 := eq_true (of_decide_eq_true (by first | (with_reducible assumption) | assumption) : 0 ≤ x8_2)
            by_cases c21 : x8_2 ≤ (((rd_T41 l0_3 x6_1).f1).length : Int)
            ·rw [if_pos c21] at H
             have c21b0 := eq_true c21
             have c21b1 : decide (x8_2 ≤ (((rd_T41 l0_3 x6_1).f1).length : Int)) = true := decide_eq_true c21
             clear c21
             replace H := Option.bind_eq_some_iff.mp H
             obtain ⟨t224, A220, H⟩ := H
             replace H : (if t224 = true then (if 0 ≤ (wrap64 (x8_2 + 1)) then (if (wrap64 (x8_2 + 1)) ≤ (((rd_T41 l0_3 x6_1).f1).length : Int) then ((emendateref21_all.f k2 (((rd_T41 l0_3 x6_1).f1).drop ((wrap64 (x8_2 + 1)) : Int).toNat) t214 false).bind fun t226 => (if t226 = true then (if 0 ≤ (wrap64 ((wrap64 ((wrap64 (((rd_T41 l0_3 x6_1).f0) * (l0_1.length : Int))) - 1)) - (rd ((rd_T41 l0_3 x6_1).f1) x8_2))) then (if (wrap64 ((wrap64 ((wrap64 (((rd_T41 l0_3 x6_1).f0) * (l0_1.length : Int))) - 1)) - (rd ((rd_T41 l0_3 x6_1).f1) x8_2))) < (x5_2.length : Int) then (emendateref21_Cyclic.l1 k2 (l0_1.length : Int) t214 (x5_2.set ((wrap64 ((wrap64 ((wrap64 (((rd_T41 l0_3 x6_1).f0) * (l0_1.length : Int))) - 1)) - (rd ((rd_T41 l0_3 x6_1).f1) x8_2))) : Int).toNat true) x6_1 (wrap64 (x8_2 + 1)) l0_0 l0_1 a0_2 l0_3 ((rd_T41 l0_3 x6_1).f0) ((rd_T41 l0_3 x6_1).f1) ((rd_T41 l0_3 x6_1).f2)) else (none)) else (none)) else (emendateref21_Cyclic.l1 k2 (l0_1.length : Int) t214 x5_2 x6_1 (wrap64 (x8_2 + 1)) l0_0 l0_1 a0_2 l0_3 ((rd_T41 l0_3 x6_1).f0) ((rd_T41 l0_3 x6_1).f1) ((rd_T41 l0_3 x6_1).f2)))) else (none)) else (none)) else (emendateref21_Cyclic.l1 k2 (l0_1.length : Int) t214 x5_2 x6_1 (wrap64 (x8_2 + 1)) l0_0 l0_1 a0_2 l0_3 ((rd_T41 l0_3 x6_1).f0) ((rd_T41 l0_3 x6_1).f1) ((rd_T41 l0_3 x6_1).f2))) = some r := H
             have A22 := Aside0.mk A220
             clear A220
             by_cases c23 : t224 = true
             ·subst c23
              have H1 : (if 0 ≤ (wrap64 (x8_2 + 1)) then (if (wrap64 (x8_2 + 1)) ≤ (((rd_T41 l0_3 x6_1).f1).length : Int) then ((emendateref21_all.f k2 (((rd_T41 l0_3 x6_1).f1).drop ((wrap64 (x8_2 + 1)) : Int).toNat) t214 false).bind fun t226 => (if t226 = true then (if 0 ≤ (wrap64 ((wrap64 ((wrap64 (((rd_T41 l0_3 x6_1).f0) * (l0_1.length : Int))) - 1)) - (rd ((rd_T41 l0_3 x6_1).f1) x8_2))) then (if (wrap64 ((wrap64 ((wrap64 (((rd_T41 l0_3 x6_1).f0) * (l0_1.length : Int))) - 1)) - (rd ((rd_T41 l0_3 x6_1).f1) x8_2))) < (x5_2.length : Int) then (emendateref21_Cyclic.l1 k2 (l0_1.length : Int) t214 (x5_2.set ((wrap64 ((wrap64 ((wrap64 (((rd_T41 l0_3 x6_1).f0) * (l0_1.length : Int))) - 1)) - (rd ((rd_T41 l0_3 x6_1).f1) x8_2))) : Int).toNat true) x6_1 (wrap64 (x8_2 + 1)) l0_0 l0_1 a0_2 l0_3 ((rd_T41 l0_3 x6_1).f0) ((rd_T41 l0_3 x6_1).f1) ((rd_T41 l0_3 x6_1).f2)) else (none)) else (none)) else (emendateref21_Cyclic.l1 k2 (l0_1.length : Int) t214 x5_2 x6_1 (wrap64 (x8_2 + 1)) l0_0 l0_1 a0_2 l0_3 ((rd_T41 l0_3 x6_1).f0) ((rd_T41 l0_3 x6_1).f1) ((rd_T41 l0_3 x6_1).f2)))) else (none)) else (none)) = some r := by rw [if_pos rfl] at H; exact H
              clear H
              have H := H1
              clear H1
              obtain ⟨ji24, hji24⟩ : ∃ j_ : Int, (wrap64 (x8_2 + 1)) = j_ := ⟨_, rfl⟩
              replace H : (if 0 ≤ (ji24) then (if (ji24) ≤ (((rd_T41 l0_3 x6_1).f1).length : Int) then ((emendateref21_all.f k2 (((rd_T41 l0_3 x6_1).f1).drop ((ji24) : Int).toNat) t214 false).bind fun t226 => (if t226 = true then (if 0 ≤ (wrap64 ((wrap64 ((wrap64 (((rd_T41 l0_3 x6_1).f0) * (l0_1.length : Int))) - 1)) - (rd ((rd_T41 l0_3 x6_1).f1) x8_2))) then (if (wrap64 ((wrap64 ((wrap64 (((rd_T41 l0_3 x6_1).f0) * (l0_1.length : Int))) - 1)) - (rd ((rd_T41 l0_3 x6_1).f1) x8_2))) < (x5_2.length : Int) then (emendateref21_Cyclic.l1 k2 (l0_1.length : Int) t214 (x5_2.set ((wrap64 ((wrap64 ((wrap64 (((rd_T41 l0_3 x6_1).f0) * (l0_1.length : Int))) - 1)) - (rd ((rd_T41 l0_3 x6_1).f1) x8_2))) : Int).toNat true) x6_1 ji24 l0_0 l0_1 a0_2 l0_3 ((rd_T41 l0_3 x6_1).f0) ((rd_T41 l0_3 x6_1).f1) ((rd_T41 l0_3 x6_1).f2)) else (none)) else (none)) else (emendateref21_Cyclic.l1 k2 (l0_1.length : Int) t214 x5_2 x6_1 ji24 l0_0 l0_1 a0_2 l0_3 ((rd_T41 l0_3 x6_1).f0) ((rd_T41 l0_3 x6_1).f1) ((rd_T41 l0_3 x6_1).f2)))) else (none)) else (none)) = some r := by first | (rw [hji24] at H; exact H) | (simp only [hji24] at H ⊢; exact H)
              (try rw [hji24] at A22)
              have hji24w : (IntKind.i64.wrap (x8_2 + 1)) = ji24 := (i64_w _).trans hji24
              by_cases c25 : 0 ≤ (ji24)
              ·rw [if_pos c25] at H
               have c25b0 := eq_true c25
               have c25b1 : decide (0 ≤ (ji24)) = true := decide_eq_true c25
               clear c25
               by_cases c26 : (ji24) ≤ (((rd_T41 l0_3 x6_1).f1).length : Int)
               ·rw [if_pos c26] at H
                have c26b0 := eq_true c26
                have c26b1 : decide ((ji24) ≤ (((rd_T41 l0_3 x6_1).f1).length : Int)) = true := decide_eq_true c26
                clear c26
                replace H := Option.bind_eq_some_iff.mp H
                obtain ⟨t226, A270, H⟩ := H
                replace H : (if t226 = true then (if 0 ≤ (wrap64 ((wrap64 ((wrap64 (((rd_T41 l0_3 x6_1).f0) * (l0_1.length : Int))) - 1)) - (rd ((rd_T41 l0_3 x6_1).f1) x8_2))) then (if (wrap64 ((wrap64 ((wrap64 (((rd_T41 l0_3 x6_1).f0) * (l0_1.length : Int))) - 1)) - (rd ((rd_T41 l0_3 x6_1).f1) x8_2))) < (x5_2.length : Int) then (emendateref21_Cyclic.l1 k2 (l0_1.length : Int) t214 (x5_2.set ((wrap64 ((wrap64 ((wrap64 (((rd_T41 l0_3 x6_1).f0) * (l0_1.length : Int))) - 1)) - (rd ((rd_T41 l0_3 x6_1).f1) x8_2))) : Int).toNat true) x6_1 ji24 l0_0 l0_1 a0_2 l0_3 ((rd_T41 l0_3 x6_1).f0) ((rd_T41 l0_3 x6_1).f1) ((rd_T41 l0_3 x6_1).f2)) else (none)) else (none)) else (emendateref21_Cyclic.l1 k2 (l0_1.length : Int) t214 x5_2 x6_1 ji24 l0_0 l0_1 a0_2 l0_3 ((rd_T41 l0_3 x6_1).f0) ((rd_T41 l0_3 x6_1).f1) ((rd_T41 l0_3 x6_1).f2))) = some r := H
                have A27 := Aside0.mk A270
                clear A270
                by_cases c28 : t226 = true
                ·subst c28
                 have H1 : (if 0 ≤ (wrap64 ((wrap64 ((wrap64 (((rd_T41 l0_3 x6_1).f0) * (l0_1.length : Int))) - 1)) - (rd ((rd_T41 l0_3 x6_1).f1) x8_2))) then (if (wrap64 ((wrap64 ((wrap64 (((rd_T41 l0_3 x6_1).f0) * (l0_1.length : Int))) - 1)) - (rd ((rd_T41 l0_3 x6_1).f1) x8_2))) < (x5_2.length : Int) then (emendateref21_Cyclic.l1 k2 (l0_1.length : Int) t214 (x5_2.set ((wrap64 ((wrap64 ((wrap64 (((rd_T41 l0_3 x6_1).f0) * (l0_1.length : Int))) - 1)) - (rd ((rd_T41 l0_3 x6_1).f1) x8_2))) : Int).toNat true) x6_1 ji24 l0_0 l0_1 a0_2 l0_3 ((rd_T41 l0_3 x6_1).f0) ((rd_T41 l0_3 x6_1).f1) ((rd_T41 l0_3 x6_1).f2)) else (none)) else (none)) = some r := by rw [if_pos rfl] at H; exact H
                 clear H
                 have H := H1
                 clear H1
                 obtain ⟨ji29, hji29⟩ : ∃ j_ : Int, (wrap64 ((wrap64 ((wrap64 (((rd_T41 l0_3 x6_1).f0) * (l0_1.length : Int))) - 1)) - (rd ((rd_T41 l0_3 x6_1).f1) x8_2))) = j_ := ⟨_, rfl⟩
                 replace H : (if 0 ≤ (ji29) then (if (ji29) < (x5_2.length : Int) then (emendateref21_Cyclic.l1 k2 (l0_1.length : Int) t214 (x5_2.set ((ji29) : Int).toNat true) x6_1 ji24 l0_0 l0_1 a0_2 l0_3 ((rd_T41 l0_3 x6_1).f0) ((rd_T41 l0_3 x6_1).f1) ((rd_T41 l0_3 x6_1).f2)) else (none)) else (none)) = some r := by first | (rw [hji29] at H; exact H) | (simp only [hji29] at H ⊢; exact H)
                 (try rw [hji29] at A22)
                 (try rw [hji29] at A27)
                 have hji29w : (IntKind.i64.wrap ((wrap64 ((wrap64 (((rd_T41 l0_3 x6_1).f0) * (l0_1.length : Int))) - 1)) - (rd ((rd_T41 l0_3 x6_1).f1) x8_2))) = ji29 := (i64_w _).trans hji29
                 by_cases c30 : 0 ≤ (ji29)
                 ·rw [if_pos c30] at H
                  have c30b0 : decide (0 ≤ (ji29)) = true := decide_eq_true c30
                  clear c30
                  by_cases c31 : (ji29) < (x5_2.length : Int)
                  ·rw [if_pos c31] at H
                   have c31b0 : decide ((ji29) < (x5_2.length : Int)) = true := decide_eq_true c31
                   clear c31
                   obtain ⟨y228, hy228⟩ : ∃ y_ : List Bool, y_ = (x5_2.set ((ji29) : Int).toNat true) := ⟨_, rfl⟩
                   replace H : (emendateref21_Cyclic.l1 k2 (l0_1.length : Int) t214 y228 x6_1 ji24 l0_0 l0_1 a0_2 l0_3 ((rd_T41 l0_3 x6_1).f0) ((rd_T41 l0_3 x6_1).f1) ((rd_T41 l0_3 x6_1).f2)) = some r := by first | (rw [hy228]; with_reducible exact H) | (have H2_ := (Option.bind_some _ _).symm.trans H; rw [hy228]; with_reducible exact H2_) | (have H2_ := (Option.bind_some _ _).symm.trans H; with_reducible exact H2_) | with_reducible exact H | (rw [hy228]; exact H) | exact H
                   have Ny228 := Aside0.mk hy228
                   clear hy228
                   have H' := Aside0.mk H
                   clear H
                   have hnb33 := NB221_213.out
                   have hnc33 := NB213_221.out
                   have hcz34_0 : wr.cell? ⟨gb221, 0, none⟩ = some (.int .i64 ((rd_T41 l0_3 x6_1).f0)) := (blk_cell BK221.out 0).trans rfl
                   have hcz34_1 : wr.cell? ⟨gb221, 1, none⟩ = some (.slice A220_1 ((rd_T41 l0_3 x6_1).f1).length c220_1) := (blk_cell BK221.out 1).trans rfl
                   have hcz34_2 : wr.cell? ⟨gb221, 2, none⟩ = some (.int .i64 ((rd_T41 l0_3 x6_1).f2)) := (blk_cell BK221.out 2).trans rfl
                   have hfz34_0 := blk_frozen BK221.out 0
                   have hfz34_1 := blk_frozen BK221.out 1
                   have hfz34_2 := blk_frozen BK221.out 2
                   have p222 : 0 ≤ (x8_2 : Int) := of_decide_eq_true (by first | (with_reducible assumption) | assumption)
                   have q222 : x8_2 < (((rd_T41 l0_3 x6_1).f1).length : Int) := of_decide_eq_true (by first | (with_reducible assumption) | assumption)
                   obtain ⟨ad222, e222, hx222_0⟩ := Kd.at_int HR220_1.out x8_2 p222 q222
                   cases e222
                   replace hx222_0 := (HB.out.cell (World.block_lt_of_cell? w _ hx222_0)).trans hx222_0
                   replace p222 := eq_true p222
                   replace q222 := eq_true q222
                   obtain ⟨i035, hi035, _, hsz35, _⟩ := info_parts info3
                   obtain ⟨hcut35, hA35, hC35⟩ := print_take_of (P := Try.prog) (Value.int .i64) 0 39 3 .i64 Try.underlying39 hi035 hsz35 (some ad222) c220_1 ((rd_T41 l0_3 x6_1).f1) x8_2 (of_decide_eq_true (by first | (with_reducible assumption) | assumption)) (of_decide_eq_true (by first | (with_reducible assumption) | assumption)) HC220_1.out
                   have HLN35 := Aside0.mk (len_take_n ((rd_T41 l0_3 x6_1).f1) (x8_2) (of_decide_eq_true (by first | (with_reducible assumption) | assumption)) (of_decide_eq_true (by first | (with_reducible assumption) | assumption)))
                   have HR223 := Aside0.mk (Kd.C_of_reads (h1 := fun _ => rfl) (hA35 _ (Kd.reads_of_C HR220_1.out)))
                   have HC223 := Aside0.mk hC35
                   clear hA35 hC35 hi035 hsz35
                   obtain ⟨Ao36, co36, eo36⟩ := Kd.R_slice HO_4.out
                   subst eo36
                   have hczr_1 : wr.cell? ⟨gb221, 1, none⟩ = some (.slice (some ad222) ((rd_T41 l0_3 x6_1).f1).length c220_1) := (blk_cell BK221.out 1).trans rfl
                   try go_wp2_with (first | (go_at_call 40; (with_reducible refine (emendateref21_all.callsN k2 _ _ (((rd_T41 l0_3 x6_1).f1).take (x8_2 : Int).toNat) HLN35.out _ _ t214 false true _ ?side1 ?side2 ?side3 ?side4 A22.out).mono ?_); (case side1 => repeat (first | exact (Kd.C_below HR223.out HB.out) | (with_reducible refine Kd.C_alloc ?_ _) | (with_reducible refine Kd.C_drewN ?_ _) | (with_reducible refine Kd.C_drew ?_))); (case side2 => exact HC223.out); (case side3 => repeat (first | exact (Kd.R_reads' HO_4.out).2.2 | (with_reducible refine Kd.C_alloc ?_ _) | (with_reducible refine Kd.C_drewN ?_ _) | (with_reducible refine Kd.C_drew ?_))); (case side4 => exact (Kd.R_reads' HO_4.out).2.1); rintro e w' ⟨rfl, ⟨nd, rfl⟩⟩; (try (rw [drewN_self wr]; generalize hq_ : World.drewN wr _ = wr; have n0_ : Aside0 (Kd.R Kd.bool 4 wr w.heap.size (fun k_ => some k_ ≠ (v218 : Value).ownBlock) (.slice Ao36 t214.length co36) t214) := ⟨by rw [← hq_]; exact (by (with_reducible repeat (first | apply Kd.R_alloc | apply Kd.R_drewN | apply Kd.R_drew)); exact HO_4.out)⟩; have n1_ : Aside0 (Kd.R Kd.bool 4 wr w.heap.size (fun k_ => some k_ ≠ (.slice Ao36 t214.length co36 : Value).ownBlock) v218 x5_2) := ⟨by rw [← hq_]; exact (by (with_reducible repeat (first | apply Kd.R_alloc | apply Kd.R_drewN | apply Kd.R_drew)); exact HO_5.out)⟩; have n2_ : Aside0 (wr.heap[gb213]? = some (.cells #[.slice A0_0 l0_0.length c0_0, .slice A0_1 l0_1.length c0_1, .int .i64 a0_2, .slice (some ad220) l0_3.length c0_3] 25 (0, 0))) := ⟨by rw [← hq_]; exact (by (with_reducible repeat (first | refine blk_drewN ?_ _ | refine blk_drew ?_ | refine blk_alloc ?_ _)); exact BK213.out)⟩; have n3_ : Aside0 (wr.heap[gb221]? = some (.cells #[.int .i64 ((rd_T41 l0_3 x6_1).f0), .slice (some ad222) ((rd_T41 l0_3 x6_1).f1).length c220_1, .int .i64 ((rd_T41 l0_3 x6_1).f2)] 41 (0, 0))) := ⟨by rw [← hq_]; exact (by (with_reducible repeat (first | refine blk_drewN ?_ _ | refine blk_drew ?_ | refine blk_alloc ?_ _)); exact BK221.out)⟩; have n4_ : Aside0 (Below w.heap.size w wr) := ⟨by rw [← hq_]; exact (by repeat (first | (with_reducible first | exact HB.out | apply below_alloc | apply pw_below_drewN | apply below_drew1 | refine below_set ?_ GE213.out | refine below_set ?_ GE221.out) | exact HB.out))⟩; clear HO_4 HO_5 BK213 BK221 HB hq_; have HO_4 := n0_; have HO_5 := n1_; have BK213 := n2_; have BK221 := n3_; have HB := n4_; clear n0_ n1_ n2_ n3_ n4_; have hczq_1 : wr.cell? ⟨gb221, 1, none⟩ = some (.slice (some ad222) ((rd_T41 l0_3 x6_1).f1).length c220_1) := (blk_cell BK221.out 1).trans rfl)); obtain ⟨i037, hi037, _, hsz37, _⟩ := info_parts info3; obtain ⟨A37, hcut37, hA37, hC37⟩ := print_drop_of (P := Try.prog) (Value.int .i64) 0 39 3 .i64 Try.underlying39 hi037 hsz37 (some ad222) c220_1 ((rd_T41 l0_3 x6_1).f1) (ji24) (of_decide_eq_true (by first | (with_reducible assumption) | assumption)) (of_decide_eq_true (by first | (with_reducible assumption) | assumption)) HC220_1.out; have HLN37 := Aside0.mk (len_drop_n ((rd_T41 l0_3 x6_1).f1) (ji24) (of_decide_eq_true (by first | (with_reducible assumption) | assumption)) (of_decide_eq_true (by first | (with_reducible assumption) | assumption))); have HR225 := Aside0.mk (Kd.C_of_reads (h1 := fun _ => rfl) (hA37 _ (Kd.reads_of_C HR220_1.out))); have HC225 := Aside0.mk hC37; clear hA37 hC37 hi037 hsz37) | (go_at_call 40; (with_reducible refine (emendateref21_all.callsN k2 _ _ (((rd_T41 l0_3 x6_1).f1).drop ((ji24) : Int).toNat) HLN37.out _ _ t214 false true _ ?side1 ?side2 ?side3 ?side4 A27.out).mono ?_); (case side1 => repeat (first | exact (Kd.C_below HR225.out HB.out) | (with_reducible refine Kd.C_alloc ?_ _) | (with_reducible refine Kd.C_drewN ?_ _) | (with_reducible refine Kd.C_drew ?_))); (case side2 => exact HC225.out); (case side3 => repeat (first | exact (Kd.R_reads' HO_4.out).2.2 | (with_reducible refine Kd.C_alloc ?_ _) | (with_reducible refine Kd.C_drewN ?_ _) | (with_reducible refine Kd.C_drew ?_))); (case side4 => exact (Kd.R_reads' HO_4.out).2.1); rintro e w' ⟨rfl, ⟨nd, rfl⟩⟩; (try (rw [drewN_self wr]; generalize hq_ : World.drewN wr _ = wr; have n0_ : Aside0 (Kd.R Kd.bool 4 wr w.heap.size (fun k_ => some k_ ≠ (v218 : Value).ownBlock) (.slice Ao36 t214.length co36) t214) := ⟨by rw [← hq_]; exact (by (with_reducible repeat (first | apply Kd.R_alloc | apply Kd.R_drewN | apply Kd.R_drew)); exact HO_4.out)⟩; have n1_ : Aside0 (Kd.R Kd.bool 4 wr w.heap.size (fun k_ => some k_ ≠ (.slice Ao36 t214.length co36 : Value).ownBlock) v218 x5_2) := ⟨by rw [← hq_]; exact (by (with_reducible repeat (first | apply Kd.R_alloc | apply Kd.R_drewN | apply Kd.R_drew)); exact HO_5.out)⟩; have n2_ : Aside0 (wr.heap[gb213]? = some (.cells #[.slice A0_0 l0_0.length c0_0, .slice A0_1 l0_1.length c0_1, .int .i64 a0_2, .slice (some ad220) l0_3.length c0_3] 25 (0, 0))) := ⟨by rw [← hq_]; exact (by (with_reducible repeat (first | refine blk_drewN ?_ _ | refine blk_drew ?_ | refine blk_alloc ?_ _)); exact BK213.out)⟩; have n3_ : Aside0 (wr.heap[gb221]? = some (.cells #[.int .i64 ((rd_T41 l0_3 x6_1).f0), .slice (some ad222) ((rd_T41 l0_3 x6_1).f1).length c220_1, .int .i64 ((rd_T41 l0_3 x6_1).f2)] 41 (0, 0))) := ⟨by rw [← hq_]; exact (by (with_reducible repeat (first | refine blk_drewN ?_ _ | refine blk_drew ?_ | refine blk_alloc ?_ _)); exact BK221.out)⟩; have n4_ : Aside0 (Below w.heap.size w wr) := ⟨by rw [← hq_]; exact (by repeat (first | (with_reducible first | exact HB.out | apply below_alloc | apply pw_below_drewN | apply below_drew1 | refine below_set ?_ GE213.out | refine below_set ?_ GE221.out) | exact HB.out))⟩; clear HO_4 HO_5 BK213 BK221 HB hq_; have HO_4 := n0_; have HO_5 := n1_; have BK213 := n2_; have BK221 := n3_; have HB := n4_; clear n0_ n1_ n2_ n3_ n4_))))
                   have n0_ := Aside0.mk (Kd.R_drew HO_4.out)
                   have n1_ := Aside0.mk (Kd.R_drew HO_5.out)
                   have n2_ := Aside0.mk (blk_drew BK213.out)
                   have n3_ := Aside0.mk (blk_drew BK221.out)
                   have n4_ := Aside0.mk (below_drew1 HB.out)
                   clear HO_4
                   clear HO_5
                   clear BK213
                   clear BK221
                   clear HB
                   have HO_4 := n0_
                   have HO_5 := n1_
                   have BK213 := n2_
                   have BK221 := n3_
                   have HB := n4_
                   clear n0_ n1_ n2_ n3_ n4_
                   have p227 : 0 ≤ (x8_2 : Int) := of_decide_eq_true (by first | (with_reducible assumption) | assumption)
                   have q227 : x8_2 < (((rd_T41 l0_3 x6_1).f1).length : Int) := of_decide_eq_true (by first | (with_reducible assumption) | assumption)
                   obtain ⟨ad227, e227, hx227_0⟩ := Kd.at_int HR220_1.out x8_2 p227 q227
                   have hw227_0 := hx227_0
                   obtain rfl : ad222 = ad227 := (by injection e227)
                   replace hx227_0 := (HB.out.cell (World.block_lt_of_cell? w _ hx227_0)).trans hx227_0
                   replace p227 := eq_true p227
                   replace q227 := eq_true q227
                   have p32 : 0 ≤ ((ji29) : Int) := of_decide_eq_true (by first | (with_reducible assumption) | assumption)
                   have q32 : ((ji29) : Int) < ((x5_2.length : Int) : Int) := of_decide_eq_true (by first | (with_reducible assumption) | assumption)
                   obtain ⟨go32, co32, eo32, gb32, gl32, cl32, HG32⟩ := Kd.R_form HO_5.out (by omega)
                   (first | cases eo32 | (injection eo32 with ea_ en_ ec_; (first | subst ea_ | (injection ea_ with ea_; subst ea_)); subst ec_; clear en_))
                   have GB32 := Aside0.mk gb32
                   have GG32 := Aside0.mk HG32
                   clear gb32 gl32 HG32
                   obtain ⟨hx32_0, hf32_0⟩ := Kd.R_celln false HO_5.out ((ji29) : Int) p32 q32
                   replace p32 := eq_true p32
                   replace q32 := eq_true q32
                   have HP39 := Kd.R_putn HO_5.out ((ji29) : Int) true
                   rw [← Ny228.out] at HP39
                   have HQ39 := Aside0.mk HP39
                   clear HP39
                   refine start_ (n := 14) (S := fun w' => w'.cell? ⟨gb221, 0, none⟩ = some (.int .i64 ((rd_T41 l0_3 x6_1).f0)) ∧ w'.cell? ⟨gb221, 1, none⟩ = some (.slice (some ad222) ((rd_T41 l0_3 x6_1).f1).length c220_1) ∧ w'.cell? ⟨gb221, 2, none⟩ = some (.int .i64 ((rd_T41 l0_3 x6_1).f2)) ∧ w'.cell? (ad222.add (x8_2).toNat) = some (.int .i64 (rd ((rd_T41 l0_3 x6_1).f1) x8_2))) (ds := [13]) #[false, false, false, false, false, false, false, false, false, false, false, false, false, false] (by kernel_rfl) rfl rfl ⟨(blk_cell BK221.out 0).trans rfl, (blk_cell BK221.out 1).trans rfl, (blk_cell BK221.out 2).trans rfl, ((HB.out.cell (World.block_lt_of_cell? w _ hw227_0)).trans hw227_0)⟩ (fun hHeld => ?_); refine with_tabW emendateref21_Cyclic.tab12 emendateref21_Cyclic.bits12 (fun HT_ HW_ => ?_)
                   generalize wr.drew = w38 at HO_4 HO_5 BK213 BK221 HB GG32 HQ39 hf32_0 hx227_0 hx32_0 hHeld ⊢
                   refine pure_ (i := 0) (N := some 65) (v := ?_) (a' := ?_) #[true, false, false, false, false, false, false, false, false, false, false, false, false, false] rfl rfl (any_of HT_.out (by kernel_rfl)) (fun _ _ _ h => h) (Or.inl ⟨by rfl, ?_⟩) ?_ ?_
                   rotate_left
                   ·intro w'
                    go_simp
                    with_reducible rfl
                   rotate_left
                   ·simp only [Act.put, List.setIfInBounds_toArray, List.set_cons_zero, List.set_cons_succ, i64_w, i32_w]
                    rfl
                   refine pure_ (i := 1) (N := some 66) (v := ?_) (a' := ?_) #[true, true, false, false, false, false, false, false, false, false, false, false, false, false] rfl rfl (any_of HT_.out (by kernel_rfl)) (fun _ _ _ h => h) (Or.inl ⟨by rfl, ?_⟩) ?_ ?_
                   rotate_left
                   ·intro w'
                    go_simp
                    with_reducible rfl
                   rotate_left
                   ·simp only [Act.put, List.setIfInBounds_toArray, List.set_cons_zero, List.set_cons_succ, i64_w, i32_w]
                    rfl
                   refine pure_ (i := 3) (N := some 68) (v := ?_) (a' := ?_) #[true, true, false, true, false, false, false, false, false, false, false, false, false, false] rfl rfl (any_of HT_.out (by kernel_rfl)) (fun _ _ _ h => h) (Or.inl ⟨by rfl, ?_⟩) ?_ ?_
                   rotate_left
                   ·intro w'
                    go_simp
                    with_reducible rfl
                   rotate_left
                   ·simp only [Act.put, List.setIfInBounds_toArray, List.set_cons_zero, List.set_cons_succ, i64_w, i32_w]
                    rfl
                   refine pure_ (i := 6) (N := some 71) (v := ?_) (a' := ?_) #[true, true, false, true, false, false, true, false, false, false, false, false, false, false] rfl rfl (any_of HT_.out (by kernel_rfl)) (fun _ _ _ h => h) (Or.inl ⟨by rfl, ?_⟩) ?_ ?_
                   rotate_left
                   ·intro w'
                    go_simp
                    with_reducible rfl
                   rotate_left
                   ·simp only [Act.put, List.setIfInBounds_toArray, List.set_cons_zero, List.set_cons_succ, i64_w, i32_w]
                    rfl
                   refine pure_ (i := 8) (N := some 73) (v := ?_) (a' := ?_) #[true, true, false, true, false, false, true, false, true, false, false, false, false, false] rfl rfl (any_of HT_.out (by kernel_rfl)) (fun _ _ _ h => h) (Or.inl ⟨by rfl, ?_⟩) ?_ ?_
                   rotate_left
                   ·intro w'
                    go_simp
                    with_reducible rfl
                   rotate_left
                   ·simp only [Act.put, List.setIfInBounds_toArray, List.set_cons_zero, List.set_cons_succ, i64_w, i32_w]
                    rfl
                   refine take_ (i := 2) (N := some 67) (v := ?_) (a' := ?_) #[true, true, true, true, false, false, true, false, true, false, false, false, false, false] rfl rfl (take_ofW HT_.out HW_.out (by kernel_rfl)) (fun _ _ _ h => h) (Or.inl ⟨by rfl, ?_⟩) hHeld ?_ ?_
                   rotate_left
                   ·rintro w' ⟨s0, s1, s2, s3⟩
                    go_simp
                    with_reducible rfl
                   rotate_left
                   ·simp only [Act.put, List.setIfInBounds_toArray, List.set_cons_zero, List.set_cons_succ, i64_w, i32_w]
                    rfl
                   refine pure_ (i := 4) (N := some 69) (v := ?_) (a' := ?_) #[true, true, true, true, true, false, true, false, true, false, false, false, false, false] rfl rfl (any_of HT_.out (by kernel_rfl)) (fun _ _ _ h => h) (Or.inl ⟨by rfl, ?_⟩) ?_ ?_
                   rotate_left
                   ·intro w'
                    go_simp
                    with_reducible rfl
                   rotate_left
                   ·simp only [Act.put, List.setIfInBounds_toArray, List.set_cons_zero, List.set_cons_succ, i64_w, i32_w]
                    rfl
                   refine pure_ (i := 5) (N := some 70) (v := ?_) (a' := ?_) #[true, true, true, true, true, true, true, false, true, false, false, false, false, false] rfl rfl (any_of HT_.out (by kernel_rfl)) (fun _ _ _ h => h) (Or.inl ⟨by rfl, ?_⟩) ?_ ?_
                   rotate_left
                   ·intro w'
                    go_simp
                    with_reducible rfl
                   rotate_left
                   ·simp only [Act.put, List.setIfInBounds_toArray, List.set_cons_zero, List.set_cons_succ, i64_w, i32_w]
                    rfl
                   refine take_ (i := 7) (N := some 72) (v := ?_) (a' := ?_) #[true, true, true, true, true, true, true, true, true, false, false, false, false, false] rfl rfl (take_ofW HT_.out HW_.out (by kernel_rfl)) (fun _ _ _ h => h) (Or.inl ⟨by rfl, ?_⟩) hHeld ?_ ?_
                   rotate_left
                   ·rintro w' ⟨s0, s1, s2, s3⟩
                    go_simp
                    with_reducible rfl
                   rotate_left
                   ·simp only [Act.put, List.setIfInBounds_toArray, List.set_cons_zero, List.set_cons_succ, i64_w, i32_w]
                    rfl
                   refine pure_ (i := 9) (N := some 74) (v := ?_) (a' := ?_) #[true, true, true, true, true, true, true, true, true, true, false, false, false, false] rfl rfl (any_of HT_.out (by kernel_rfl)) (fun _ _ _ h => h) (Or.inl ⟨by rfl, ?_⟩) ?_ ?_
                   rotate_left
                   ·intro w'
                    go_simp
                    with_reducible rfl
                   rotate_left
                   ·simp only [Act.put, List.setIfInBounds_toArray, List.set_cons_zero, List.set_cons_succ, i64_w, i32_w]
                    rfl
                   refine take_ (i := 10) (N := some 75) (v := ?_) (a' := ?_) #[true, true, true, true, true, true, true, true, true, true, true, false, false, false] rfl rfl (take_ofW HT_.out HW_.out (by kernel_rfl)) (fun _ _ _ h => h) (Or.inl ⟨by rfl, ?_⟩) hHeld ?_ ?_
                   rotate_left
                   ·rintro w' ⟨s0, s1, s2, s3⟩
                    go_simp
                    with_reducible rfl
                   rotate_left
                   ·simp only [Act.put, List.setIfInBounds_toArray, List.set_cons_zero, List.set_cons_succ, i64_w, i32_w]
                    rfl
                   refine pure_ (i := 11) (N := some 76) (v := ?_) (a' := ?_) #[true, true, true, true, true, true, true, true, true, true, true, true, false, false] rfl rfl (any_of HT_.out (by kernel_rfl)) (fun _ _ _ h => h) (Or.inl ⟨by rfl, ?_⟩) ?_ ?_
                   rotate_left
                   ·intro w'
                    go_simp
                    with_reducible rfl
                   rotate_left
                   ·simp only [Act.put, List.setIfInBounds_toArray, List.set_cons_zero, List.set_cons_succ, i64_w, i32_w]
                    rfl
                   refine pure_ (i := 12) (N := some 77) (v := ?_) (a' := ?_) #[true, true, true, true, true, true, true, true, true, true, true, true, true, false] rfl rfl (any_of HT_.out (by kernel_rfl)) (fun _ _ _ h => h) (Or.inl ⟨by rfl, ?_⟩) ?_ ?_
                   rotate_left
                   ·intro w'
                    go_simp
                    with_reducible rfl
                   rotate_left
                   ·simp only [Act.put, List.setIfInBounds_toArray, List.set_cons_zero, List.set_cons_succ, i64_w, i32_w]
                    rfl
                   refine last_ (i := 13) (N := none) #[true, true, true, true, true, true, true, true, true, true, true, true, true, true] rfl rfl (one_of HT_.out (by kernel_rfl)) (by decide) (fun K hK => ?_)
                   refine skip_ (w1 := ?_) (by rfl) rfl ?_ ?_
                   rotate_left
                   ·go_simp
                    rfl
                   refine hK.out _ _ ?_
                   clear hK K
                   refine done_ (done_of HT_.out (by kernel_rfl)) ?_
                   try go_wp2
                   go_roundg k2
                   case measure => have := HK1.out; have := HK2.out; omega
                   case rel => exact ⟨(y228), (ji24), (by first | rfl | (simp; done) | (simp only [← hji24] <;> (first | rfl | simp)) | (simp [*]; done)), H', ⟨by have := HK1.out; have := HK2.out; omega⟩, ⟨by (with_reducible repeat (first | apply Kd.R_alloc | apply Kd.R_drewN | apply Kd.R_drew)); exact Kd.R_mono (Kd.R_far (p := ⟨go32, ((ji29) : Int).toNat, none⟩) (Kd.R_mono HO_4.out (fun k_ hk => (⟨hk, fun e_ => hk (by rw [e_]; rfl)⟩ : _ ∧ k_ ≠ go32))) (fun _ hk => hk.2) (.bool true)) (fun _ hk => hk.1)⟩, ⟨by (with_reducible repeat (first | apply Kd.R_alloc | apply Kd.R_drewN | apply Kd.R_drew)); exact HQ39.out⟩, ⟨by (with_reducible repeat (first | refine blk_drewN ?_ _ | refine blk_drew ?_ | refine blk_alloc ?_ _)); refine blk_far ?_ (by have h_ := Kd.R_ne HO_5.out BK213.out (by decide); intro e_; exact h_ (by rw [e_]; rfl)) _; (with_reducible repeat (first | refine blk_drewN ?_ _ | refine blk_drew ?_ | refine blk_alloc ?_ _)); exact BK213.out⟩, ⟨by (with_reducible repeat (first | refine blk_drewN ?_ _ | refine blk_drew ?_ | refine blk_alloc ?_ _)); refine blk_far ?_ (by have h_ := Kd.R_ne HO_5.out BK221.out (by decide); intro e_; exact h_ (by rw [e_]; rfl)) _; (with_reducible repeat (first | refine blk_drewN ?_ _ | refine blk_drew ?_ | refine blk_alloc ?_ _)); exact BK221.out⟩, ⟨by repeat (first | (with_reducible first | exact HB.out | apply below_alloc | apply pw_below_drewN | apply below_drew1 | refine below_set ?_ GB32.out | refine below_set ?_ GE213.out | refine below_set ?_ GE221.out) | exact HB.out)⟩⟩
                  ·rw [if_neg c31] at H
                   exact absurd H (by simp)
                 ·rw [if_neg c30] at H
                  exact absurd H (by simp)
                ·replace c28 := Bool.eq_false_iff.mpr c28
                 subst c28
                 have H1 : (emendateref21_Cyclic.l1 k2 (l0_1.length : Int) t214 x5_2 x6_1 ji24 l0_0 l0_1 a0_2 l0_3 ((rd_T41 l0_3 x6_1).f0) ((rd_T41 l0_3 x6_1).f1) ((rd_T41 l0_3 x6_1).f2)) = some r := by rw [if_neg (show ¬ (false = true) by decide)] at H; exact H
                 clear H
                 have H := H1
                 clear H1
                 have H' := Aside0.mk H
                 clear H
                 have hnb40 := NB221_213.out
                 have hnc40 := NB213_221.out
                 have hcz41_0 : wr.cell? ⟨gb221, 0, none⟩ = some (.int .i64 ((rd_T41 l0_3 x6_1).f0)) := (blk_cell BK221.out 0).trans rfl
                 have hcz41_1 : wr.cell? ⟨gb221, 1, none⟩ = some (.slice A220_1 ((rd_T41 l0_3 x6_1).f1).length c220_1) := (blk_cell BK221.out 1).trans rfl
                 have hcz41_2 : wr.cell? ⟨gb221, 2, none⟩ = some (.int .i64 ((rd_T41 l0_3 x6_1).f2)) := (blk_cell BK221.out 2).trans rfl
                 have hfz41_0 := blk_frozen BK221.out 0
                 have hfz41_1 := blk_frozen BK221.out 1
                 have hfz41_2 := blk_frozen BK221.out 2
                 have p222 : 0 ≤ (x8_2 : Int) := of_decide_eq_true (by first | (with_reducible assumption) | assumption)
                 have q222 : x8_2 < (((rd_T41 l0_3 x6_1).f1).length : Int) := of_decide_eq_true (by first | (with_reducible assumption) | assumption)
                 obtain ⟨ad222, e222, hx222_0⟩ := Kd.at_int HR220_1.out x8_2 p222 q222
                 cases e222
                 replace hx222_0 := (HB.out.cell (World.block_lt_of_cell? w _ hx222_0)).trans hx222_0
                 replace p222 := eq_true p222
                 replace q222 := eq_true q222
                 obtain ⟨i042, hi042, _, hsz42, _⟩ := info_parts info3
                 obtain ⟨hcut42, hA42, hC42⟩ := print_take_of (P := Try.prog) (Value.int .i64) 0 39 3 .i64 Try.underlying39 hi042 hsz42 (some ad222) c220_1 ((rd_T41 l0_3 x6_1).f1) x8_2 (of_decide_eq_true (by first | (with_reducible assumption) | assumption)) (of_decide_eq_true (by first | (with_reducible assumption) | assumption)) HC220_1.out
                 have HLN42 := Aside0.mk (len_take_n ((rd_T41 l0_3 x6_1).f1) (x8_2) (of_decide_eq_true (by first | (with_reducible assumption) | assumption)) (of_decide_eq_true (by first | (with_reducible assumption) | assumption)))
                 have HR223 := Aside0.mk (Kd.C_of_reads (h1 := fun _ => rfl) (hA42 _ (Kd.reads_of_C HR220_1.out)))
                 have HC223 := Aside0.mk hC42
                 clear hA42 hC42 hi042 hsz42
                 obtain ⟨Ao43, co43, eo43⟩ := Kd.R_slice HO_4.out
                 subst eo43
                 go_wp2_with (first | (go_at_call 40; (with_reducible refine (emendateref21_all.callsN k2 _ _ (((rd_T41 l0_3 x6_1).f1).take (x8_2 : Int).toNat) HLN42.out _ _ t214 false true _ ?side1 ?side2 ?side3 ?side4 A22.out).mono ?_); (case side1 => repeat (first | exact (Kd.C_below HR223.out HB.out) | (with_reducible refine Kd.C_alloc ?_ _) | (with_reducible refine Kd.C_drewN ?_ _) | (with_reducible refine Kd.C_drew ?_))); (case side2 => exact HC223.out); (case side3 => repeat (first | exact (Kd.R_reads' HO_4.out).2.2 | (with_reducible refine Kd.C_alloc ?_ _) | (with_reducible refine Kd.C_drewN ?_ _) | (with_reducible refine Kd.C_drew ?_))); (case side4 => exact (Kd.R_reads' HO_4.out).2.1); rintro e w' ⟨rfl, ⟨nd, rfl⟩⟩; obtain ⟨i044, hi044, _, hsz44, _⟩ := info_parts info3; obtain ⟨A44, hcut44, hA44, hC44⟩ := print_drop_of (P := Try.prog) (Value.int .i64) 0 39 3 .i64 Try.underlying39 hi044 hsz44 (some ad222) c220_1 ((rd_T41 l0_3 x6_1).f1) (ji24) (of_decide_eq_true (by first | (with_reducible assumption) | assumption)) (of_decide_eq_true (by first | (with_reducible assumption) | assumption)) HC220_1.out; have HLN44 := Aside0.mk (len_drop_n ((rd_T41 l0_3 x6_1).f1) (ji24) (of_decide_eq_true (by first | (with_reducible assumption) | assumption)) (of_decide_eq_true (by first | (with_reducible assumption) | assumption))); have HR225 := Aside0.mk (Kd.C_of_reads (h1 := fun _ => rfl) (hA44 _ (Kd.reads_of_C HR220_1.out))); have HC225 := Aside0.mk hC44; clear hA44 hC44 hi044 hsz44) | (go_at_call 40; (with_reducible refine (emendateref21_all.callsN k2 _ _ (((rd_T41 l0_3 x6_1).f1).drop ((ji24) : Int).toNat) HLN44.out _ _ t214 false false _ ?side1 ?side2 ?side3 ?side4 A27.out).mono ?_); (case side1 => repeat (first | exact (Kd.C_below HR225.out (by repeat (first | (with_reducible first | exact HB.out | apply below_alloc | apply pw_below_drewN | apply below_drew1 | refine below_set ?_ GE213.out | refine below_set ?_ GE221.out) | exact HB.out))) | (with_reducible refine Kd.C_alloc ?_ _) | (with_reducible refine Kd.C_drewN ?_ _) | (with_reducible refine Kd.C_drew ?_))); (case side2 => exact HC225.out); (case side3 => repeat (first | exact (Kd.R_reads' HO_4.out).2.2 | (with_reducible refine Kd.C_alloc ?_ _) | (with_reducible refine Kd.C_drewN ?_ _) | (with_reducible refine Kd.C_drew ?_))); (case side4 => exact (Kd.R_reads' HO_4.out).2.1); rintro e w' ⟨rfl, ⟨nd, rfl⟩⟩))
                 go_roundg k2
                 case measure => have := HK1.out; have := HK2.out; omega
                 case rel => exact ⟨(x5_2), (ji24), (by first | rfl | (simp; done) | (simp only [← hji24] <;> (first | rfl | simp)) | (simp [*]; done)), H', ⟨by have := HK1.out; have := HK2.out; omega⟩, ⟨by (with_reducible repeat (first | apply Kd.R_alloc | apply Kd.R_drewN | apply Kd.R_drew)); exact HO_4.out⟩, ⟨by (with_reducible repeat (first | apply Kd.R_alloc | apply Kd.R_drewN | apply Kd.R_drew)); exact HO_5.out⟩, ⟨by (with_reducible repeat (first | refine blk_drewN ?_ _ | refine blk_drew ?_ | refine blk_alloc ?_ _)); exact BK213.out⟩, ⟨by (with_reducible repeat (first | refine blk_drewN ?_ _ | refine blk_drew ?_ | refine blk_alloc ?_ _)); exact BK221.out⟩, ⟨by repeat (first | (with_reducible first | exact HB.out | apply below_alloc | apply pw_below_drewN | apply below_drew1 | refine below_set ?_ GE213.out | refine below_set ?_ GE221.out) | exact HB.out)⟩⟩
               ·rw [if_neg c26] at H
                exact absurd H (by simp)
              ·rw [if_neg c25] at H
               exact absurd H (by simp)
             ·replace c23 := Bool.eq_false_iff.mpr c23
              subst c23
              have H1 : (emendateref21_Cyclic.l1 k2 (l0_1.length : Int) t214 x5_2 x6_1 (wrap64 (x8_2 + 1)) l0_0 l0_1 a0_2 l0_3 ((rd_T41 l0_3 x6_1).f0) ((rd_T41 l0_3 x6_1).f1) ((rd_T41 l0_3 x6_1).f2)) = some r := by rw [if_neg (show ¬ (false = true) by decide)] at H; exact H
              clear H
              have H := H1
              clear H1
              have H' := Aside0.mk H
              clear H
              have hnb45 := NB221_213.out
              have hnc45 := NB213_221.out
              have hcz46_0 : wr.cell? ⟨gb221, 0, none⟩ = some (.int .i64 ((rd_T41 l0_3 x6_1).f0)) := (blk_cell BK221.out 0).trans rfl
              have hcz46_1 : wr.cell? ⟨gb221, 1, none⟩ = some (.slice A220_1 ((rd_T41 l0_3 x6_1).f1).length c220_1) := (blk_cell BK221.out 1).trans rfl
              have hcz46_2 : wr.cell? ⟨gb221, 2, none⟩ = some (.int .i64 ((rd_T41 l0_3 x6_1).f2)) := (blk_cell BK221.out 2).trans rfl
              have hfz46_0 := blk_frozen BK221.out 0
              have hfz46_1 := blk_frozen BK221.out 1
              have hfz46_2 := blk_frozen BK221.out 2
              have p222 : 0 ≤ (x8_2 : Int) := of_decide_eq_true (by first | (with_reducible assumption) | assumption)
              have q222 : x8_2 < (((rd_T41 l0_3 x6_1).f1).length : Int) := of_decide_eq_true (by first | (with_reducible assumption) | assumption)
              obtain ⟨ad222, e222, hx222_0⟩ := Kd.at_int HR220_1.out x8_2 p222 q222
              cases e222
              replace hx222_0 := (HB.out.cell (World.block_lt_of_cell? w _ hx222_0)).trans hx222_0
              replace p222 := eq_true p222
              replace q222 := eq_true q222
              obtain ⟨i047, hi047, _, hsz47, _⟩ := info_parts info3
              obtain ⟨hcut47, hA47, hC47⟩ := print_take_of (P := Try.prog) (Value.int .i64) 0 39 3 .i64 Try.underlying39 hi047 hsz47 (some ad222) c220_1 ((rd_T41 l0_3 x6_1).f1) x8_2 (of_decide_eq_true (by first | (with_reducible assumption) | assumption)) (of_decide_eq_true (by first | (with_reducible assumption) | assumption)) HC220_1.out
              have HLN47 := Aside0.mk (len_take_n ((rd_T41 l0_3 x6_1).f1) (x8_2) (of_decide_eq_true (by first | (with_reducible assumption) | assumption)) (of_decide_eq_true (by first | (with_reducible assumption) | assumption)))
              have HR223 := Aside0.mk (Kd.C_of_reads (h1 := fun _ => rfl) (hA47 _ (Kd.reads_of_C HR220_1.out)))
              have HC223 := Aside0.mk hC47
              clear hA47 hC47 hi047 hsz47
              obtain ⟨Ao48, co48, eo48⟩ := Kd.R_slice HO_4.out
              subst eo48
              go_wp2_with (first | (go_at_call 40; (with_reducible refine (emendateref21_all.callsN k2 _ _ (((rd_T41 l0_3 x6_1).f1).take (x8_2 : Int).toNat) HLN47.out _ _ t214 false false _ ?side1 ?side2 ?side3 ?side4 A22.out).mono ?_); (case side1 => repeat (first | exact (Kd.C_below HR223.out HB.out) | (with_reducible refine Kd.C_alloc ?_ _) | (with_reducible refine Kd.C_drewN ?_ _) | (with_reducible refine Kd.C_drew ?_))); (case side2 => exact HC223.out); (case side3 => repeat (first | exact (Kd.R_reads' HO_4.out).2.2 | (with_reducible refine Kd.C_alloc ?_ _) | (with_reducible refine Kd.C_drewN ?_ _) | (with_reducible refine Kd.C_drew ?_))); (case side4 => exact (Kd.R_reads' HO_4.out).2.1); rintro e w' ⟨rfl, ⟨nd, rfl⟩⟩))
              go_roundg k2
              case measure => have := HK1.out; have := HK2.out; omega
              case rel => exact ⟨(x5_2), (wrap64 (x8_2 + 1)), (by first | rfl | (simp; done) | (simp [*]; done)), H', ⟨by have := HK1.out; have := HK2.out; omega⟩, ⟨by (with_reducible repeat (first | apply Kd.R_alloc | apply Kd.R_drewN | apply Kd.R_drew)); exact HO_4.out⟩, ⟨by (with_reducible repeat (first | apply Kd.R_alloc | apply Kd.R_drewN | apply Kd.R_drew)); exact HO_5.out⟩, ⟨by (with_reducible repeat (first | refine blk_drewN ?_ _ | refine blk_drew ?_ | refine blk_alloc ?_ _)); exact BK213.out⟩, ⟨by (with_reducible repeat (first | refine blk_drewN ?_ _ | refine blk_drew ?_ | refine blk_alloc ?_ _)); exact BK221.out⟩, ⟨by repeat (first | (with_reducible first | exact HB.out | apply below_alloc | apply pw_below_drewN | apply below_drew1 | refine below_set ?_ GE213.out | refine below_set ?_ GE221.out) | exact HB.out)⟩⟩
            ·rw [if_neg c21] at H
             exact absurd H (by simp)
           ·rw [if_neg c19] at H
            have c19b0 : decide ((rd ((rd_T41 l0_3 x6_1).f1) x8_2) < 0) = false := decide_eq_false c19
            clear c19
            have H' := Aside0.mk H
            clear H
            have hnb49 := NB221_213.out
            have hnc49 := NB213_221.out
            have hcz50_0 : wr.cell? ⟨gb221, 0, none⟩ = some (.int .i64 ((rd_T41 l0_3 x6_1).f0)) := (blk_cell BK221.out 0).trans rfl
            have hcz50_1 : wr.cell? ⟨gb221, 1, none⟩ = some (.slice A220_1 ((rd_T41 l0_3 x6_1).f1).length c220_1) := (blk_cell BK221.out 1).trans rfl
            have hcz50_2 : wr.cell? ⟨gb221, 2, none⟩ = some (.int .i64 ((rd_T41 l0_3 x6_1).f2)) := (blk_cell BK221.out 2).trans rfl
            have hfz50_0 := blk_frozen BK221.out 0
            have hfz50_1 := blk_frozen BK221.out 1
            have hfz50_2 := blk_frozen BK221.out 2
            have p222 : 0 ≤ (x8_2 : Int) := of_decide_eq_true (by first | (with_reducible assumption) | assumption)
            have q222 : x8_2 < (((rd_T41 l0_3 x6_1).f1).length : Int) := of_decide_eq_true (by first | (with_reducible assumption) | assumption)
            obtain ⟨ad222, e222, hx222_0⟩ := Kd.at_int HR220_1.out x8_2 p222 q222
            cases e222
            replace hx222_0 := (HB.out.cell (World.block_lt_of_cell? w _ hx222_0)).trans hx222_0
            replace p222 := eq_true p222
            replace q222 := eq_true q222
            go_wp2
            go_roundg k2
            case measure => have := HK1.out; have := HK2.out; omega
            case rel => exact ⟨(x5_2), (wrap64 (x8_2 + 1)), (by first | rfl | (simp; done) | (simp [*]; done)), H', ⟨by have := HK1.out; have := HK2.out; omega⟩, ⟨by (with_reducible repeat (first | apply Kd.R_alloc | apply Kd.R_drewN | apply Kd.R_drew)); exact HO_4.out⟩, ⟨by (with_reducible repeat (first | apply Kd.R_alloc | apply Kd.R_drewN | apply Kd.R_drew)); exact HO_5.out⟩, ⟨by (with_reducible repeat (first | refine blk_drewN ?_ _ | refine blk_drew ?_ | refine blk_alloc ?_ _)); exact BK213.out⟩, ⟨by (with_reducible repeat (first | refine blk_drewN ?_ _ | refine blk_drew ?_ | refine blk_alloc ?_ _)); exact BK221.out⟩, ⟨by repeat (first | (with_reducible first | exact HB.out | apply below_alloc | apply pw_below_drewN | apply below_drew1 | refine below_set ?_ GE213.out | refine below_set ?_ GE221.out) | exact HB.out)⟩⟩
          ·rw [if_neg c18] at H
           exact absurd H (by simp)
         ·rw [if_neg c17] at H
          have c17b0 : decide (x8_2 < (((rd_T41 l0_3 x6_1).f1).length : Int)) = false := decide_eq_false c17
          clear c17
          have H' := Aside0.mk H
          clear H
          have hnb51 := NB221_213.out
          have hnc51 := NB213_221.out
          have hcz52_0 : wr.cell? ⟨gb221, 0, none⟩ = some (.int .i64 ((rd_T41 l0_3 x6_1).f0)) := (blk_cell BK221.out 0).trans rfl
          have hcz52_1 : wr.cell? ⟨gb221, 1, none⟩ = some (.slice A220_1 ((rd_T41 l0_3 x6_1).f1).length c220_1) := (blk_cell BK221.out 1).trans rfl
          have hcz52_2 : wr.cell? ⟨gb221, 2, none⟩ = some (.int .i64 ((rd_T41 l0_3 x6_1).f2)) := (blk_cell BK221.out 2).trans rfl
          have hfz52_0 := blk_frozen BK221.out 0
          have hfz52_1 := blk_frozen BK221.out 1
          have hfz52_2 := blk_frozen BK221.out 2
          go_wp2
          go_roundg k2
          case measure => have := HK1.out; have := HK2.out; omega
          case rel => exact ⟨(x5_2), (wrap64 (x6_1 + 1)), (by first | rfl | (simp; done) | (simp [*]; done)), H', ⟨by have := HK1.out; have := HK2.out; omega⟩, ⟨by (with_reducible repeat (first | apply Kd.R_alloc | apply Kd.R_drewN | apply Kd.R_drew)); exact HO_4.out⟩, ⟨by (with_reducible repeat (first | apply Kd.R_alloc | apply Kd.R_drewN | apply Kd.R_drew)); exact HO_5.out⟩, ⟨by (with_reducible repeat (first | refine blk_drewN ?_ _ | refine blk_drew ?_ | refine blk_alloc ?_ _)); exact BK213.out⟩, ⟨by repeat (first | (with_reducible first | exact HB.out | apply below_alloc | apply pw_below_drewN | apply below_drew1 | refine below_set ?_ GE213.out | refine below_set ?_ GE221.out) | exact HB.out)⟩⟩
      ·rw [if_neg c12] at H
       exact absurd H (by simp)
     ·rw [if_neg c11] at H
      have c11b0 : decide (x6_1 < (l0_3.length : Int)) = false := decide_eq_false c11
      clear c11
      have H' := Aside0.mk H
      clear H
      have hcz53_0 : wr.cell? ⟨gb213, 0, none⟩ = some (.slice A0_0 l0_0.length c0_0) := (blk_cell BK213.out 0).trans rfl
      have hcz53_1 : wr.cell? ⟨gb213, 1, none⟩ = some (.slice A0_1 l0_1.length c0_1) := (blk_cell BK213.out 1).trans rfl
      have hcz53_2 : wr.cell? ⟨gb213, 2, none⟩ = some (.int .i64 a0_2) := (blk_cell BK213.out 2).trans rfl
      have hcz53_3 : wr.cell? ⟨gb213, 3, none⟩ = some (.slice A0_3 l0_3.length c0_3) := (blk_cell BK213.out 3).trans rfl
      have hfz53_0 := blk_frozen BK213.out 0
      have hfz53_1 := blk_frozen BK213.out 1
      have hfz53_2 := blk_frozen BK213.out 2
      have hfz53_3 := blk_frozen BK213.out 3
      go_wp2
      go_loopg [9] k1 (fun kq v9 w' => ∃ (x5_2 : List Bool) (x9_2 : Int), v9 = .int .i64 x9_2 ∧ Aside0 (emendateref21_Cyclic.l2 kq (l0_1.length : Int) x5_2 x9_2 = some r) ∧ Aside0 (kq ≤ k1) ∧ Aside0 (Kd.R Kd.bool 4 w' w.heap.size (fun _ => True) v218 x5_2) ∧ Aside0 (w'.heap[gb213]? = some (.cells #[(.slice A0_0 l0_0.length c0_0), (.slice A0_1 l0_1.length c0_1), .int .i64 a0_2, (.slice A0_3 l0_3.length c0_3)] 25 (0, 0))) ∧ Aside0 (Below w.heap.size w w'))
      case atStart => exact ⟨(x5_1), (0), (by first | rfl | (simp; done) | (simp [*]; done)), H', ⟨Nat.le_refl _⟩, ⟨by (with_reducible repeat (first | apply Kd.R_alloc | apply Kd.R_drewN | apply Kd.R_drew)); exact Kd.R_mono HO_5.out (fun _ hk => trivial)⟩, ⟨by (with_reducible repeat (first | refine blk_drewN ?_ _ | refine blk_drew ?_ | refine blk_alloc ?_ _)); exact BK213.out⟩, ⟨by repeat (first | (with_reducible first | exact HB.out | apply below_alloc | apply pw_below_drewN | apply below_drew1 | refine below_set ?_ GE213.out) | exact HB.out)⟩⟩
      case round =>
       clear H'
       try clear c1
       try clear c2
       try clear p2
       try clear q2
       try clear hx2
       try clear c3
       try clear p3
       try clear q3
       try clear hx3
       try clear hf3
       try clear c4
       try clear c4b0
       try clear c4b1
       try clear c5
       try clear c5b0
       try clear c5b1
       try clear p6
       try clear c11
       try clear c11b0
       try clear c12
       try clear c12b0
       try clear c14
       try clear c15
       try clear c17
       try clear c17b0
       try clear c18
       try clear c18b0
       try clear c19
       try clear c19b0
       try clear c20
       try clear c20b0
       try clear c21
       try clear c21b0
       try clear c21b1
       try clear c22
       try clear p22
       try clear q22
       try clear hx22
       try clear c23
       try clear c25
       try clear c25b0
       try clear c25b1
       try clear c26
       try clear c26b0
       try clear c26b1
       try clear c28
       try clear c30
       try clear c30b0
       try clear c31
       try clear c31b0
       try clear p32
       try clear q32
       try clear hx32
       try clear hf32
       try clear c33
       try clear c40
       try clear c45
       try clear c49
       try clear c51
       try clear hcz13_0
       try clear hcz13_1
       try clear hcz13_2
       try clear hcz13_3
       try clear hcz16_0
       try clear hcz16_1
       try clear hcz16_2
       try clear hcz34_0
       try clear hcz34_1
       try clear hcz34_2
       try clear hcz41_0
       try clear hcz41_1
       try clear hcz41_2
       try clear hcz46_0
       try clear hcz46_1
       try clear hcz46_2
       try clear hcz50_0
       try clear hcz50_1
       try clear hcz50_2
       try clear hcz52_0
       try clear hcz52_1
       try clear hcz52_2
       try clear hcz53_0
       try clear hcz53_1
       try clear hcz53_2
       try clear hcz53_3
       try clear hcz7_0
       try clear hcz7_1
       try clear hcz7_2
       try clear hcz7_3
       try clear hfz13_0
       try clear hfz13_1
       try clear hfz13_2
       try clear hfz13_3
       try clear hfz16_0
       try clear hfz16_1
       try clear hfz16_2
       try clear hfz34_0
       try clear hfz34_1
       try clear hfz34_2
       try clear hfz41_0
       try clear hfz41_1
       try clear hfz41_2
       try clear hfz46_0
       try clear hfz46_1
       try clear hfz46_2
       try clear hfz50_0
       try clear hfz50_1
       try clear hfz50_2
       try clear hfz52_0
       try clear hfz52_1
       try clear hfz52_2
       try clear hfz53_0
       try clear hfz53_1
       try clear hfz53_2
       try clear hfz53_3
       try clear hfz7_0
       try clear hfz7_1
       try clear hfz7_2
       try clear hfz7_3
       try clear hx220_0
       try clear hx220_1
       try clear hx220_2
       try clear hx222_0
       try clear hx227_0
       try clear hx32_0
       try clear p2
       try clear p220
       try clear p222
       try clear p227
       try clear p32
       try clear p6
       try clear q2
       try clear q220
       try clear q222
       try clear q227
       try clear q32
       obtain ⟨x5_2, x9_2, rfl, HA, HK2, HO_5, BK213, HB⟩ := hrel
       cases gk with
       | zero => exact absurd HA.out (by simp [emendateref21_Cyclic.l2])
       | succ k2 =>
        have H := HA.out
        clear HA
        simp only [emendateref21_Cyclic.l2] at H
        by_cases c54 : x9_2 < (l0_1.length : Int)
        ·rw [if_pos c54] at H
         have c54b0 : decide (x9_2 < (l0_1.length : Int)) = true := decide_eq_true c54
         clear c54
         have H' := Aside0.mk H
         clear H
         go_wp2
         go_loopg [10] k2 (fun kq v10 w' => ∃ (x5_3 : List Bool) (x10_3 : Int), v10 = .int .i64 x10_3 ∧ Aside0 (emendateref21_Cyclic.l3 kq (l0_1.length : Int) x5_3 x9_2 x10_3 = some r) ∧ Aside0 (kq ≤ k2) ∧ Aside0 (Kd.R Kd.bool 4 w' w.heap.size (fun _ => True) v218 x5_3) ∧ Aside0 (w'.heap[gb213]? = some (.cells #[(.slice A0_0 l0_0.length c0_0), (.slice A0_1 l0_1.length c0_1), .int .i64 a0_2, (.slice A0_3 l0_3.length c0_3)] 25 (0, 0))) ∧ Aside0 (Below w.heap.size w w'))
         case atStart => exact ⟨(x5_2), (0), (by first | rfl | (simp; done) | (simp [*]; done)), H', ⟨Nat.le_refl _⟩, ⟨by (with_reducible repeat (first | apply Kd.R_alloc | apply Kd.R_drewN | apply Kd.R_drew)); exact HO_5.out⟩, ⟨by (with_reducible repeat (first | refine blk_drewN ?_ _ | refine blk_drew ?_ | refine blk_alloc ?_ _)); exact BK213.out⟩, ⟨by repeat (first | (with_reducible first | exact HB.out | apply below_alloc | apply pw_below_drewN | apply below_drew1 | refine below_set ?_ GE213.out) | exact HB.out)⟩⟩
         case round =>
          clear H'
          try clear c1
          try clear c2
          try clear p2
          try clear q2
          try clear hx2
          try clear c3
          try clear p3
          try clear q3
          try clear hx3
          try clear hf3
          try clear c4
          try clear c4b0
          try clear c4b1
          try clear c5
          try clear c5b0
          try clear c5b1
          try clear p6
          try clear c11
          try clear c11b0
          try clear c12
          try clear c12b0
          try clear c14
          try clear c15
          try clear c17
          try clear c17b0
          try clear c18
          try clear c18b0
          try clear c19
          try clear c19b0
          try clear c20
          try clear c20b0
          try clear c21
          try clear c21b0
          try clear c21b1
          try clear c22
          try clear p22
          try clear q22
          try clear hx22
          try clear c23
          try clear c25
          try clear c25b0
          try clear c25b1
          try clear c26
          try clear c26b0
          try clear c26b1
          try clear c28
          try clear c30
          try clear c30b0
          try clear c31
          try clear c31b0
          try clear p32
          try clear q32
          try clear hx32
          try clear hf32
          try clear c33
          try clear c40
          try clear c45
          try clear c49
          try clear c51
          try clear c54
          try clear c54b0
          try clear hcz13_0
          try clear hcz13_1
          try clear hcz13_2
          try clear hcz13_3
          try clear hcz16_0
          try clear hcz16_1
          try clear hcz16_2
          try clear hcz34_0
          try clear hcz34_1
          try clear hcz34_2
          try clear hcz41_0
          try clear hcz41_1
          try clear hcz41_2
          try clear hcz46_0
          try clear hcz46_1
          try clear hcz46_2
          try clear hcz50_0
          try clear hcz50_1
          try clear hcz50_2
          try clear hcz52_0
          try clear hcz52_1
          try clear hcz52_2
          try clear hcz53_0
          try clear hcz53_1
          try clear hcz53_2
          try clear hcz53_3
          try clear hcz7_0
          try clear hcz7_1
          try clear hcz7_2
          try clear hcz7_3
          try clear hfz13_0
          try clear hfz13_1
          try clear hfz13_2
          try clear hfz13_3
          try clear hfz16_0
          try clear hfz16_1
          try clear hfz16_2
          try clear hfz34_0
          try clear hfz34_1
          try clear hfz34_2
          try clear hfz41_0
          try clear hfz41_1
          try clear hfz41_2
          try clear hfz46_0
          try clear hfz46_1
          try clear hfz46_2
          try clear hfz50_0
          try clear hfz50_1
          try clear hfz50_2
          try clear hfz52_0
          try clear hfz52_1
          try clear hfz52_2
          try clear hfz53_0
          try clear hfz53_1
          try clear hfz53_2
          try clear hfz53_3
          try clear hfz7_0
          try clear hfz7_1
          try clear hfz7_2
          try clear hfz7_3
          try clear hx220_0
          try clear hx220_1
          try clear hx220_2
          try clear hx222_0
          try clear hx227_0
          try clear hx32_0
          try clear p2
          try clear p22
          try clear p220
          try clear p222
          try clear p227
          try clear p3
          try clear p32
          try clear p6
          try clear q2
          try clear q22
          try clear q220
          try clear q222
          try clear q227
          try clear q3
          try clear q32
          obtain ⟨x5_3, x10_3, rfl, HA, HK3, HO_5, BK213, HB⟩ := hrel
          cases gk with
          | zero => exact absurd HA.out (by simp [emendateref21_Cyclic.l3])
          | succ k3 =>
           have H := HA.out
           clear HA
           simp only [emendateref21_Cyclic.l3] at H
           by_cases c55 : x10_3 < (l0_1.length : Int)
           ·rw [if_pos c55] at H
            have c55b0 : decide (x10_3 < (l0_1.length : Int)) = true := decide_eq_true c55
            clear c55
            have H' := Aside0.mk H
            clear H
            go_wp2
            go_loopg [11] k3 (fun kq v11 w' => ∃ (x5_4 : List Bool) (x11_4 : Int), v11 = .int .i64 x11_4 ∧ Aside0 (emendateref21_Cyclic.l4 kq (l0_1.length : Int) x5_4 x9_2 x10_3 x11_4 = some r) ∧ Aside0 (kq ≤ k3) ∧ Aside0 (Kd.R Kd.bool 4 w' w.heap.size (fun _ => True) v218 x5_4) ∧ Aside0 (w'.heap[gb213]? = some (.cells #[(.slice A0_0 l0_0.length c0_0), (.slice A0_1 l0_1.length c0_1), .int .i64 a0_2, (.slice A0_3 l0_3.length c0_3)] 25 (0, 0))) ∧ Aside0 (Below w.heap.size w w'))
            case atStart => exact ⟨(x5_3), (0), (by first | rfl | (simp; done) | (simp [*]; done)), H', ⟨Nat.le_refl _⟩, ⟨by (with_reducible repeat (first | apply Kd.R_alloc | apply Kd.R_drewN | apply Kd.R_drew)); exact HO_5.out⟩, ⟨by (with_reducible repeat (first | refine blk_drewN ?_ _ | refine blk_drew ?_ | refine blk_alloc ?_ _)); exact BK213.out⟩, ⟨by repeat (first | (with_reducible first | exact HB.out | apply below_alloc | apply pw_below_drewN | apply below_drew1 | refine below_set ?_ GE213.out) | exact HB.out)⟩⟩
            case round =>
             clear H'
             try clear c1
             try clear c2
             try clear p2
             try clear q2
             try clear hx2
             try clear c3
             try clear p3
             try clear q3
             try clear hx3
             try clear hf3
             try clear c4
             try clear c4b0
             try clear c4b1
             try clear c5
             try clear c5b0
             try clear c5b1
             try clear p6
             try clear c11
             try clear c11b0
             try clear c12
             try clear c12b0
             try clear c14
             try clear c15
             try clear c17
             try clear c17b0
             try clear c18
             try clear c18b0
             try clear c19
             try clear c19b0
             try clear c20
             try clear c20b0
             try clear c21
             try clear c21b0
             try clear c21b1
             try clear c22
             try clear p22
             try clear q22
             try clear hx22
             try clear c23
             try clear c25
             try clear c25b0
             try clear c25b1
             try clear c26
             try clear c26b0
             try clear c26b1
             try clear c28
             try clear c30
             try clear c30b0
             try clear c31
             try clear c31b0
             try clear p32
             try clear q32
             try clear hx32
             try clear hf32
             try clear c33
             try clear c40
             try clear c45
             try clear c49
             try clear c51
             try clear c54
             try clear c54b0
             try clear c55
             try clear c55b0
             try clear hcz13_0
             try clear hcz13_1
             try clear hcz13_2
             try clear hcz13_3
             try clear hcz16_0
             try clear hcz16_1
             try clear hcz16_2
             try clear hcz34_0
             try clear hcz34_1
             try clear hcz34_2
             try clear hcz41_0
             try clear hcz41_1
             try clear hcz41_2
             try clear hcz46_0
             try clear hcz46_1
             try clear hcz46_2
             try clear hcz50_0
             try clear hcz50_1
             try clear hcz50_2
             try clear hcz52_0
             try clear hcz52_1
             try clear hcz52_2
             try clear hcz53_0
             try clear hcz53_1
             try clear hcz53_2
             try clear hcz53_3
             try clear hcz7_0
             try clear hcz7_1
             try clear hcz7_2
             try clear hcz7_3
             try clear hfz13_0
             try clear hfz13_1
             try clear hfz13_2
             try clear hfz13_3
             try clear hfz16_0
             try clear hfz16_1
             try clear hfz16_2
             try clear hfz34_0
             try clear hfz34_1
             try clear hfz34_2
             try clear hfz41_0
             try clear hfz41_1
             try clear hfz41_2
             try clear hfz46_0
             try clear hfz46_1
             try clear hfz46_2
             try clear hfz50_0
             try clear hfz50_1
             try clear hfz50_2
             try clear hfz52_0
             try clear hfz52_1
             try clear hfz52_2
             try clear hfz53_0
             try clear hfz53_1
             try clear hfz53_2
             try clear hfz53_3
             try clear hfz7_0
             try clear hfz7_1
             try clear hfz7_2
             try clear hfz7_3
             try clear hx220_0
             try clear hx220_1
             try clear hx220_2
             try clear hx222_0
             try clear hx227_0
             try clear hx32_0
             try clear p2
             try clear p22
             try clear p220
             try clear p222
             try clear p227
             try clear p3
             try clear p32
             try clear p6
             try clear q2
             try clear q22
             try clear q220
             try clear q222
             try clear q227
             try clear q3
             try clear q32
             obtain ⟨x5_4, x11_4, rfl, HA, HK4, HO_5, BK213, HB⟩ := hrel
             cases gk with
             | zero => exact absurd HA.out (by simp [emendateref21_Cyclic.l4])
             | succ k4 =>
              have H := HA.out
              clear HA
              simp only [emendateref21_Cyclic.l4] at H
              by_cases c56 : x11_4 < (l0_1.length : Int)
              ·rw [if_pos c56] at H
               have c56b0 : decide (x11_4 < (l0_1.length : Int)) = true := decide_eq_true c56
               clear c56
               obtain ⟨ji57, hji57⟩ : ∃ j_ : Int, (wrap64 ((wrap64 (x10_3 * (l0_1.length : Int))) + x9_2)) = j_ := ⟨_, rfl⟩
               replace H : (if 0 ≤ (ji57) then (if (ji57) < (x5_4.length : Int) then (if rdOf false x5_4 (ji57) = true then (if 0 ≤ (wrap64 ((wrap64 (x9_2 * (l0_1.length : Int))) + x11_4)) then (if (wrap64 ((wrap64 (x9_2 * (l0_1.length : Int))) + x11_4)) < (x5_4.length : Int) then (if rdOf false x5_4 (wrap64 ((wrap64 (x9_2 * (l0_1.length : Int))) + x11_4)) = true then (if 0 ≤ (wrap64 ((wrap64 (x10_3 * (l0_1.length : Int))) + x11_4)) then (if (wrap64 ((wrap64 (x10_3 * (l0_1.length : Int))) + x11_4)) < (x5_4.length : Int) then (emendateref21_Cyclic.l4 k4 (l0_1.length : Int) (x5_4.set ((wrap64 ((wrap64 (x10_3 * (l0_1.length : Int))) + x11_4)) : Int).toNat true) x9_2 x10_3 (wrap64 (x11_4 + 1))) else (none)) else (none)) else (emendateref21_Cyclic.l4 k4 (l0_1.length : Int) x5_4 x9_2 x10_3 (wrap64 (x11_4 + 1)))) else (none)) else (none)) else (emendateref21_Cyclic.l4 k4 (l0_1.length : Int) x5_4 x9_2 x10_3 (wrap64 (x11_4 + 1)))) else (none)) else (none)) = some r := by first | (rw [hji57] at H; exact H) | (simp only [hji57] at H ⊢; exact H)
               have hji57w : (IntKind.i64.wrap ((wrap64 (x10_3 * (l0_1.length : Int))) + x9_2)) = ji57 := (i64_w _).trans hji57
               by_cases c58 : 0 ≤ (ji57)
               ·rw [if_pos c58] at H
                have c58b0 : decide (0 ≤ (ji57)) = true := decide_eq_true c58
                clear c58
                by_cases c59 : (ji57) < (x5_4.length : Int)
                ·rw [if_pos c59] at H
                 have c59b0 : decide ((ji57) < (x5_4.length : Int)) = true := decide_eq_true c59
                 clear c59
                 obtain ⟨bq60, hbq60⟩ : ∃ b_ : Bool, b_ = (rdOf false x5_4 (ji57)) := ⟨_, rfl⟩
                 replace H : (if bq60 = true then (if 0 ≤ (wrap64 ((wrap64 (x9_2 * (l0_1.length : Int))) + x11_4)) then (if (wrap64 ((wrap64 (x9_2 * (l0_1.length : Int))) + x11_4)) < (x5_4.length : Int) then (if rdOf false x5_4 (wrap64 ((wrap64 (x9_2 * (l0_1.length : Int))) + x11_4)) = true then (if 0 ≤ (wrap64 ((wrap64 (x10_3 * (l0_1.length : Int))) + x11_4)) then (if (wrap64 ((wrap64 (x10_3 * (l0_1.length : Int))) + x11_4)) < (x5_4.length : Int) then (emendateref21_Cyclic.l4 k4 (l0_1.length : Int) (x5_4.set ((wrap64 ((wrap64 (x10_3 * (l0_1.length : Int))) + x11_4)) : Int).toNat true) x9_2 x10_3 (wrap64 (x11_4 + 1))) else (none)) else (none)) else (emendateref21_Cyclic.l4 k4 (l0_1.length : Int) x5_4 x9_2 x10_3 (wrap64 (x11_4 + 1)))) else (none)) else (none)) else (emendateref21_Cyclic.l4 k4 (l0_1.length : Int) x5_4 x9_2 x10_3 (wrap64 (x11_4 + 1)))) = some r := by rw [← hbq60] at H; exact H
                 have Nbq60 := Aside0.mk hbq60
                 clear hbq60
                 by_cases c61 : bq60 = true
                 ·subst c61
                  have H1 : (if 0 ≤ (wrap64 ((wrap64 (x9_2 * (l0_1.length : Int))) + x11_4)) then (if (wrap64 ((wrap64 (x9_2 * (l0_1.length : Int))) + x11_4)) < (x5_4.length : Int) then (if rdOf false x5_4 (wrap64 ((wrap64 (x9_2 * (l0_1.length : Int))) + x11_4)) = true then (if 0 ≤ (wrap64 ((wrap64 (x10_3 * (l0_1.length : Int))) + x11_4)) then (if (wrap64 ((wrap64 (x10_3 * (l0_1.length : Int))) + x11_4)) < (x5_4.length : Int) then (emendateref21_Cyclic.l4 k4 (l0_1.length : Int) (x5_4.set ((wrap64 ((wrap64 (x10_3 * (l0_1.length : Int))) + x11_4)) : Int).toNat true) x9_2 x10_3 (wrap64 (x11_4 + 1))) else (none)) else (none)) else (emendateref21_Cyclic.l4 k4 (l0_1.length : Int) x5_4 x9_2 x10_3 (wrap64 (x11_4 + 1)))) else (none)) else (none)) = some r := by rw [if_pos rfl] at H; exact H
                  clear H
                  have H := H1
                  clear H1
                  obtain ⟨ji62, hji62⟩ : ∃ j_ : Int, (wrap64 ((wrap64 (x9_2 * (l0_1.length : Int))) + x11_4)) = j_ := ⟨_, rfl⟩
                  replace H : (if 0 ≤ (ji62) then (if (ji62) < (x5_4.length : Int) then (if rdOf false x5_4 (ji62) = true then (if 0 ≤ (wrap64 ((wrap64 (x10_3 * (l0_1.length : Int))) + x11_4)) then (if (wrap64 ((wrap64 (x10_3 * (l0_1.length : Int))) + x11_4)) < (x5_4.length : Int) then (emendateref21_Cyclic.l4 k4 (l0_1.length : Int) (x5_4.set ((wrap64 ((wrap64 (x10_3 * (l0_1.length : Int))) + x11_4)) : Int).toNat true) x9_2 x10_3 (wrap64 (x11_4 + 1))) else (none)) else (none)) else (emendateref21_Cyclic.l4 k4 (l0_1.length : Int) x5_4 x9_2 x10_3 (wrap64 (x11_4 + 1)))) else (none)) else (none)) = some r := by first | (rw [hji62] at H; exact H) | (simp only [hji62] at H ⊢; exact H)
                  have hji62w : (IntKind.i64.wrap ((wrap64 (x9_2 * (l0_1.length : Int))) + x11_4)) = ji62 := (i64_w _).trans hji62
                  by_cases c63 : 0 ≤ (ji62)
                  ·rw [if_pos c63] at H
                   have c63b0 : decide (0 ≤ (ji62)) = true := decide_eq_true c63
                   clear c63
                   by_cases c64 : (ji62) < (x5_4.length : Int)
                   ·rw [if_pos c64] at H
                    have c64b0 : decide ((ji62) < (x5_4.length : Int)) = true := decide_eq_true c64
                    clear c64
                    obtain ⟨bq65, hbq65⟩ : ∃ b_ : Bool, b_ = (rdOf false x5_4 (ji62)) := ⟨_, rfl⟩
                    replace H : (if bq65 = true then (if 0 ≤ (wrap64 ((wrap64 (x10_3 * (l0_1.length : Int))) + x11_4)) then (if (wrap64 ((wrap64 (x10_3 * (l0_1.length : Int))) + x11_4)) < (x5_4.length : Int) then (emendateref21_Cyclic.l4 k4 (l0_1.length : Int) (x5_4.set ((wrap64 ((wrap64 (x10_3 * (l0_1.length : Int))) + x11_4)) : Int).toNat true) x9_2 x10_3 (wrap64 (x11_4 + 1))) else (none)) else (none)) else (emendateref21_Cyclic.l4 k4 (l0_1.length : Int) x5_4 x9_2 x10_3 (wrap64 (x11_4 + 1)))) = some r := by rw [← hbq65] at H; exact H
                    have Nbq65 := Aside0.mk hbq65
                    clear hbq65
                    by_cases c66 : bq65 = true
                    ·subst c66
                     have H1 : (if 0 ≤ (wrap64 ((wrap64 (x10_3 * (l0_1.length : Int))) + x11_4)) then (if (wrap64 ((wrap64 (x10_3 * (l0_1.length : Int))) + x11_4)) < (x5_4.length : Int) then (emendateref21_Cyclic.l4 k4 (l0_1.length : Int) (x5_4.set ((wrap64 ((wrap64 (x10_3 * (l0_1.length : Int))) + x11_4)) : Int).toNat true) x9_2 x10_3 (wrap64 (x11_4 + 1))) else (none)) else (none)) = some r := by rw [if_pos rfl] at H; exact H
                     clear H
                     have H := H1
                     clear H1
                     obtain ⟨ji67, hji67⟩ : ∃ j_ : Int, (wrap64 ((wrap64 (x10_3 * (l0_1.length : Int))) + x11_4)) = j_ := ⟨_, rfl⟩
                     replace H : (if 0 ≤ (ji67) then (if (ji67) < (x5_4.length : Int) then (emendateref21_Cyclic.l4 k4 (l0_1.length : Int) (x5_4.set ((ji67) : Int).toNat true) x9_2 x10_3 (wrap64 (x11_4 + 1))) else (none)) else (none)) = some r := by first | (rw [hji67] at H; exact H) | (simp only [hji67] at H ⊢; exact H)
                     have hji67w : (IntKind.i64.wrap ((wrap64 (x10_3 * (l0_1.length : Int))) + x11_4)) = ji67 := (i64_w _).trans hji67
                     by_cases c68 : 0 ≤ (ji67)
                     ·rw [if_pos c68] at H
                      have c68b0 : decide (0 ≤ (ji67)) = true := decide_eq_true c68
                      clear c68
                      by_cases c69 : (ji67) < (x5_4.length : Int)
                      ·rw [if_pos c69] at H
                       have c69b0 : decide ((ji67) < (x5_4.length : Int)) = true := decide_eq_true c69
                       clear c69
                       obtain ⟨y231, hy231⟩ : ∃ y_ : List Bool, y_ = (x5_4.set ((ji67) : Int).toNat true) := ⟨_, rfl⟩
                       replace H : (emendateref21_Cyclic.l4 k4 (l0_1.length : Int) y231 x9_2 x10_3 (wrap64 (x11_4 + 1))) = some r := by first | (rw [hy231]; with_reducible exact H) | (have H2_ := (Option.bind_some _ _).symm.trans H; rw [hy231]; with_reducible exact H2_) | (have H2_ := (Option.bind_some _ _).symm.trans H; with_reducible exact H2_) | with_reducible exact H | (rw [hy231]; exact H) | exact H
                       have Ny231 := Aside0.mk hy231
                       clear hy231
                       have H' := Aside0.mk H
                       clear H
                       obtain ⟨Ao71, co71, eo71⟩ := Kd.R_slice HO_5.out
                       subst eo71
                       have p229 : 0 ≤ ((ji57) : Int) := of_decide_eq_true (by first | (with_reducible assumption) | assumption)
                       have q229 : (ji57) < (x5_4.length : Int) := of_decide_eq_true (by first | (with_reducible assumption) | assumption)
                       obtain ⟨ad229, e229, hx229_0⟩ := Kd.at_bool (Kd.R_reads' HO_5.out).2.2 (ji57) p229 q229
                       (try rw [← Nbq60.out] at hx229_0)
                       (try rw [← Nbq65.out] at hx229_0)
                       cases e229
                       replace p229 := eq_true p229
                       replace q229 := eq_true q229
                       have p230 : 0 ≤ ((ji62) : Int) := of_decide_eq_true (by first | (with_reducible assumption) | assumption)
                       have q230 : (ji62) < (x5_4.length : Int) := of_decide_eq_true (by first | (with_reducible assumption) | assumption)
                       obtain ⟨ad230, e230, hx230_0⟩ := Kd.at_bool (Kd.R_reads' HO_5.out).2.2 (ji62) p230 q230
                       (try rw [← Nbq60.out] at hx230_0)
                       (try rw [← Nbq65.out] at hx230_0)
                       obtain rfl : ad229 = ad230 := (by injection e230)
                       replace p230 := eq_true p230
                       replace q230 := eq_true q230
                       have p70 : 0 ≤ ((ji67) : Int) := of_decide_eq_true (by first | (with_reducible assumption) | assumption)
                       have q70 : ((ji67) : Int) < ((x5_4.length : Int) : Int) := of_decide_eq_true (by first | (with_reducible assumption) | assumption)
                       obtain ⟨go70, co70, eo70, gb70, gl70, cl70, HG70⟩ := Kd.R_form HO_5.out (by omega)
                       (first | cases eo70 | (injection eo70 with ea_ en_ ec_; (first | subst ea_ | (injection ea_ with ea_; subst ea_)); subst ec_; clear en_))
                       have GB70 := Aside0.mk gb70
                       have GG70 := Aside0.mk HG70
                       clear gb70 gl70 HG70
                       (first | simp only [add_plain] at hx229_0 | skip)
                       (first | simp only [add_plain] at hx230_0 | skip)
                       obtain ⟨hx70_0, hf70_0⟩ := Kd.R_celln false HO_5.out ((ji67) : Int) p70 q70
                       replace p70 := eq_true p70
                       replace q70 := eq_true q70
                       have HP72 := Kd.R_putg HO_5.out ((ji67) : Int) true
                       go_wp2_with (first | ((with_reducible refine gate_store (t := 4) (p := 117) rfl ?_); refine store_event (t := 4) (p := 117) (v := ?vo_w73) (w1 := (wr.setCell ⟨go70, ((ji67) : Int).toNat, none⟩ (.bool true))) ?hg ?ho ?hn ?hr ?_; (case ho => rfl); (case hg => rfl); (case hn => rfl); (case hr => first | (go_simp; done) | (go_simp; rfl)); intro w73 hw; have hg : wr.grownBy w73 (some go70) := (by rw [hw]; exact HP72.2); have hp_ : Kd.R Kd.bool 4 w73 w.heap.size (fun _ => True) (.slice (some ⟨go70, 0, none⟩) x5_4.length co71) y231 := (by rw [hw, Ny231.out]; exact HP72.1); clear HP72; have n0_ := Aside0.mk (hp_); have n1_ := Aside0.mk (blk_grown (g := gb213) (o := .cells #[.slice A0_0 l0_0.length c0_0, .slice A0_1 l0_1.length c0_1, .int .i64 a0_2, .slice A0_3 l0_3.length c0_3] 25 (0, 0)) (by (with_reducible repeat (first | refine blk_drewN ?_ _ | refine blk_drew ?_ | refine blk_alloc ?_ _)); exact BK213.out) hg (Kd.R_ne HO_5.out BK213.out (by decide))); have n2_ := Aside0.mk ((by rw [hw]; exact below_set (HB.out) GB70.out : Below w.heap.size w w73)); clear HO_5; clear BK213; clear HB; have HO_5 := n0_; have BK213 := n1_; have HB := n2_; clear n0_ n1_ n2_; clear hg hw hp_))
                       go_roundg k4
                       case measure => have := HK1.out; have := HK2.out; have := HK3.out; have := HK4.out; omega
                       case rel => exact ⟨(y231), (wrap64 (x11_4 + 1)), (by first | rfl | (simp; done) | (simp [*]; done)), H', ⟨by have := HK1.out; have := HK2.out; have := HK3.out; have := HK4.out; omega⟩, ⟨by (with_reducible repeat (first | apply Kd.R_alloc | apply Kd.R_drewN | apply Kd.R_drew)); exact HO_5.out⟩, ⟨by (with_reducible repeat (first | refine blk_drewN ?_ _ | refine blk_drew ?_ | refine blk_alloc ?_ _)); exact BK213.out⟩, ⟨by repeat (first | (with_reducible first | exact HB.out | apply below_alloc | apply pw_below_drewN | apply below_drew1 | refine below_set ?_ GE213.out) | exact HB.out)⟩⟩
                      ·rw [if_neg c69] at H
                       exact absurd H (by simp)
                     ·rw [if_neg c68] at H
                      exact absurd H (by simp)
                    ·replace c66 := Bool.eq_false_iff.mpr c66
                     subst c66
                     have H1 : (emendateref21_Cyclic.l4 k4 (l0_1.length : Int) x5_4 x9_2 x10_3 (wrap64 (x11_4 + 1))) = some r := by rw [if_neg (show ¬ (false = true) by decide)] at H; exact H
                     clear H
                     have H := H1
                     clear H1
                     have H' := Aside0.mk H
                     clear H
                     obtain ⟨Ao74, co74, eo74⟩ := Kd.R_slice HO_5.out
                     subst eo74
                     have p229 : 0 ≤ ((ji57) : Int) := of_decide_eq_true (by first | (with_reducible assumption) | assumption)
                     have q229 : (ji57) < (x5_4.length : Int) := of_decide_eq_true (by first | (with_reducible assumption) | assumption)
                     obtain ⟨ad229, e229, hx229_0⟩ := Kd.at_bool (Kd.R_reads' HO_5.out).2.2 (ji57) p229 q229
                     (try rw [← Nbq60.out] at hx229_0)
                     (try rw [← Nbq65.out] at hx229_0)
                     cases e229
                     replace p229 := eq_true p229
                     replace q229 := eq_true q229
                     have p230 : 0 ≤ ((ji62) : Int) := of_decide_eq_true (by first | (with_reducible assumption) | assumption)
                     have q230 : (ji62) < (x5_4.length : Int) := of_decide_eq_true (by first | (with_reducible assumption) | assumption)
                     obtain ⟨ad230, e230, hx230_0⟩ := Kd.at_bool (Kd.R_reads' HO_5.out).2.2 (ji62) p230 q230
                     (try rw [← Nbq60.out] at hx230_0)
                     (try rw [← Nbq65.out] at hx230_0)
                     obtain rfl : ad229 = ad230 := (by injection e230)
                     replace p230 := eq_true p230
                     replace q230 := eq_true q230
                     go_wp2
                     go_roundg k4
                     case measure => have := HK1.out; have := HK2.out; have := HK3.out; have := HK4.out; omega
                     case rel => exact ⟨(x5_4), (wrap64 (x11_4 + 1)), (by first | rfl | (simp; done) | (simp [*]; done)), H', ⟨by have := HK1.out; have := HK2.out; have := HK3.out; have := HK4.out; omega⟩, ⟨by (with_reducible repeat (first | apply Kd.R_alloc | apply Kd.R_drewN | apply Kd.R_drew)); exact HO_5.out⟩, ⟨by (with_reducible repeat (first | refine blk_drewN ?_ _ | refine blk_drew ?_ | refine blk_alloc ?_ _)); exact BK213.out⟩, ⟨by repeat (first | (with_reducible first | exact HB.out | apply below_alloc | apply pw_below_drewN | apply below_drew1 | refine below_set ?_ GE213.out) | exact HB.out)⟩⟩
                   ·rw [if_neg c64] at H
                    exact absurd H (by simp)
                  ·rw [if_neg c63] at H
                   exact absurd H (by simp)
                 ·replace c61 := Bool.eq_false_iff.mpr c61
                  subst c61
                  have H1 : (emendateref21_Cyclic.l4 k4 (l0_1.length : Int) x5_4 x9_2 x10_3 (wrap64 (x11_4 + 1))) = some r := by rw [if_neg (show ¬ (false = true) by decide)] at H; exact H
                  clear H
                  have H := H1
                  clear H1
                  have H' := Aside0.mk H
                  clear H
                  obtain ⟨Ao75, co75, eo75⟩ := Kd.R_slice HO_5.out
                  subst eo75
                  have p229 : 0 ≤ ((ji57) : Int) := of_decide_eq_true (by first | (with_reducible assumption) | assumption)
                  have q229 : (ji57) < (x5_4.length : Int) := of_decide_eq_true (by first | (with_reducible assumption) | assumption)
                  obtain ⟨ad229, e229, hx229_0⟩ := Kd.at_bool (Kd.R_reads' HO_5.out).2.2 (ji57) p229 q229
                  (try rw [← Nbq60.out] at hx229_0)
                  cases e229
                  replace p229 := eq_true p229
                  replace q229 := eq_true q229
                  go_wp2
                  go_roundg k4
                  case measure => have := HK1.out; have := HK2.out; have := HK3.out; have := HK4.out; omega
                  case rel => exact ⟨(x5_4), (wrap64 (x11_4 + 1)), (by first | rfl | (simp; done) | (simp [*]; done)), H', ⟨by have := HK1.out; have := HK2.out; have := HK3.out; have := HK4.out; omega⟩, ⟨by (with_reducible repeat (first | apply Kd.R_alloc | apply Kd.R_drewN | apply Kd.R_drew)); exact HO_5.out⟩, ⟨by (with_reducible repeat (first | refine blk_drewN ?_ _ | refine blk_drew ?_ | refine blk_alloc ?_ _)); exact BK213.out⟩, ⟨by repeat (first | (with_reducible first | exact HB.out | apply below_alloc | apply pw_below_drewN | apply below_drew1 | refine below_set ?_ GE213.out) | exact HB.out)⟩⟩
                ·rw [if_neg c59] at H
                 exact absurd H (by simp)
               ·rw [if_neg c58] at H
                exact absurd H (by simp)
              ·rw [if_neg c56] at H
               have c56b0 : decide (x11_4 < (l0_1.length : Int)) = false := decide_eq_false c56
               clear c56
               have H' := Aside0.mk H
               clear H
               go_wp2
               go_roundg k4
               case measure => have := HK1.out; have := HK2.out; have := HK3.out; have := HK4.out; omega
               case rel => exact ⟨(x5_4), (wrap64 (x10_3 + 1)), (by first | rfl | (simp; done) | (simp [*]; done)), H', ⟨by have := HK1.out; have := HK2.out; have := HK3.out; have := HK4.out; omega⟩, ⟨by (with_reducible repeat (first | apply Kd.R_alloc | apply Kd.R_drewN | apply Kd.R_drew)); exact HO_5.out⟩, ⟨by (with_reducible repeat (first | refine blk_drewN ?_ _ | refine blk_drew ?_ | refine blk_alloc ?_ _)); exact BK213.out⟩, ⟨by repeat (first | (with_reducible first | exact HB.out | apply below_alloc | apply pw_below_drewN | apply below_drew1 | refine below_set ?_ GE213.out) | exact HB.out)⟩⟩
           ·rw [if_neg c55] at H
            have c55b0 : decide (x10_3 < (l0_1.length : Int)) = false := decide_eq_false c55
            clear c55
            have H' := Aside0.mk H
            clear H
            go_wp2
            go_roundg k3
            case measure => have := HK1.out; have := HK2.out; have := HK3.out; omega
            case rel => exact ⟨(x5_3), (wrap64 (x9_2 + 1)), (by first | rfl | (simp; done) | (simp [*]; done)), H', ⟨by have := HK1.out; have := HK2.out; have := HK3.out; omega⟩, ⟨by (with_reducible repeat (first | apply Kd.R_alloc | apply Kd.R_drewN | apply Kd.R_drew)); exact HO_5.out⟩, ⟨by (with_reducible repeat (first | refine blk_drewN ?_ _ | refine blk_drew ?_ | refine blk_alloc ?_ _)); exact BK213.out⟩, ⟨by repeat (first | (with_reducible first | exact HB.out | apply below_alloc | apply pw_below_drewN | apply below_drew1 | refine below_set ?_ GE213.out) | exact HB.out)⟩⟩
        ·rw [if_neg c54] at H
         have c54b0 : decide (x9_2 < (l0_1.length : Int)) = false := decide_eq_false c54
         clear c54
         by_cases c76 : 0 ≤ (l0_1.length : Int)
         ·rw [if_pos c76] at H
          have c76b0 := eq_true c76
          have c76b1 : decide (0 ≤ (l0_1.length : Int)) = true := decide_eq_true c76
          clear c76
          by_cases c77 : ((l0_1.length : Int) : Int).toNat ≤ 281474976710656
          ·rw [if_pos c77] at H
           have c77b0 := eq_true c77
           have c77b1 : decide (((l0_1.length : Int) : Int).toNat ≤ 281474976710656) = true := decide_eq_true c77
           clear c77
           obtain ⟨y232, hy232⟩ : ∃ y_ : List Bool, y_ = (List.replicate ((l0_1.length : Int) : Int).toNat false) := ⟨_, rfl⟩
           replace H : (emendateref21_Cyclic.l5 k2 (l0_1.length : Int) x5_2 y232 0) = some r := by first | (rw [hy232]; with_reducible exact H) | (have H2_ := (Option.bind_some _ _).symm.trans H; rw [hy232]; with_reducible exact H2_) | (have H2_ := (Option.bind_some _ _).symm.trans H; with_reducible exact H2_) | with_reducible exact H | (rw [hy232]; exact H) | exact H
           have Ny232 := Aside0.mk hy232
           clear hy232
           have H' := Aside0.mk H
           clear H
           go_wp2_with (first | ((with_reducible refine gate_dst (N := 119) rfl ?_); refine Kd.R_make Kd.bool _ 4 rfl (N := 119) rfl 29 _ _ rfl (l0_1.length : Int) rfl rfl Try.underlying29 (.bool false) 1 info4 rfl (by decide) (by omega) false (ok := fun _ => True) (okp := fun _ => True) rfl (fun _ hk => hk) trivial (of_decide_eq_true (by first | (with_reducible assumption) | assumption)) (Nat.le_trans (Nat.mul_le_mul_right _ (of_decide_eq_true (by first | (with_reducible assumption) | assumption) : (l0_1.length : Int).toNat ≤ 281474976710656)) (by omega)) (Below.refl _ _) (Nat.le_refl _) ?_; intro v233 w78 ho79 hb hg_ hnew_; clear hg_ hnew_; (first | rw [← Ny232.out] at ho79 | (simp only [Int.reduceToNat] at ho79; rw [← Ny232.out] at ho79)); have n0_ := Aside0.mk (Kd.R_elder' (by (with_reducible repeat (first | apply Kd.R_alloc | apply Kd.R_drewN | apply Kd.R_drew)); exact HO_5.out) (Kd.R_base ho79) hb); have n1_ := Aside0.mk (Kd.R_lower (Kd.R_new' ho79 (Kd.R_lt (by (with_reducible repeat (first | apply Kd.R_alloc | apply Kd.R_drewN | apply Kd.R_drew)); exact HO_5.out))) (below_size (by repeat (first | (with_reducible first | exact HB.out | apply below_alloc | apply pw_below_drewN | apply below_drew1 | refine below_set ?_ GE213.out) | exact HB.out)))); have n2_ := Aside0.mk (blk_below (g := gb213) (o := .cells #[.slice A0_0 l0_0.length c0_0, .slice A0_1 l0_1.length c0_1, .int .i64 a0_2, .slice A0_3 l0_3.length c0_3] 25 (0, 0)) (by (with_reducible repeat (first | refine blk_drewN ?_ _ | refine blk_drew ?_ | refine blk_alloc ?_ _)); exact BK213.out) hb); have n3_ := Aside0.mk (below_step (by repeat (first | (with_reducible first | exact HB.out | apply below_alloc | apply pw_below_drewN | apply below_drew1 | refine below_set ?_ GE213.out) | exact HB.out)) hb); clear HO_5; clear BK213; clear HB; have HO_5 := n0_; have HO234 := n1_; have BK213 := n2_; have HB := n3_; clear n0_ n1_ n2_ n3_; clear hb ho79))
           go_loopg [13] k2 (fun kq v13 w' => ∃ (x12_3 : List Bool) (x13_3 : Int), v13 = .int .i64 x13_3 ∧ Aside0 (emendateref21_Cyclic.l5 kq (l0_1.length : Int) x5_2 x12_3 x13_3 = some r) ∧ Aside0 (kq ≤ k2) ∧ Aside0 (Kd.R Kd.bool 4 w' w.heap.size (fun k_ => some k_ ≠ (v233 : Value).ownBlock) v218 x5_2) ∧ Aside0 (Kd.R Kd.bool 4 w' w.heap.size (fun k_ => some k_ ≠ (v218 : Value).ownBlock) v233 x12_3) ∧ Aside0 (w'.heap[gb213]? = some (.cells #[(.slice A0_0 l0_0.length c0_0), (.slice A0_1 l0_1.length c0_1), .int .i64 a0_2, (.slice A0_3 l0_3.length c0_3)] 25 (0, 0))) ∧ Aside0 (Below w.heap.size w w'))
           case atStart => exact ⟨(y232), (0), (by first | rfl | (simp; done) | (simp [*]; done)), H', ⟨Nat.le_refl _⟩, ⟨by (with_reducible repeat (first | apply Kd.R_alloc | apply Kd.R_drewN | apply Kd.R_drew)); exact Kd.R_mono HO_5.out (fun _ hk => hk.2)⟩, ⟨by (with_reducible repeat (first | apply Kd.R_alloc | apply Kd.R_drewN | apply Kd.R_drew)); exact Kd.R_mono HO234.out (fun _ hk => hk.2)⟩, ⟨by (with_reducible repeat (first | refine blk_drewN ?_ _ | refine blk_drew ?_ | refine blk_alloc ?_ _)); exact BK213.out⟩, ⟨by repeat (first | (with_reducible first | exact HB.out | apply below_alloc | apply pw_below_drewN | apply below_drew1 | refine below_set ?_ GE213.out) | exact HB.out)⟩⟩
           case round =>
            clear H'
            try clear c1
            try clear c2
            try clear p2
            try clear q2
            try clear hx2
            try clear c3
            try clear p3
            try clear q3
            try clear hx3
            try clear hf3
            try clear c4
            try clear c4b0
            try clear c4b1
            try clear c5
            try clear c5b0
            try clear c5b1
            try clear c6
            try clear p6
            try clear q6
            try clear c7
            try clear p7
            try clear q7
            try clear hx7
            try clear hf7
            try clear c11
            try clear c11b0
            try clear c12
            try clear c12b0
            try clear c14
            try clear c15
            try clear c17
            try clear c17b0
            try clear c18
            try clear c18b0
            try clear c19
            try clear c19b0
            try clear c20
            try clear c20b0
            try clear c21
            try clear c21b0
            try clear c21b1
            try clear c22
            try clear p22
            try clear q22
            try clear hx22
            try clear c23
            try clear p23
            try clear q23
            try clear hx23
            try clear c25
            try clear c25b0
            try clear c25b1
            try clear c26
            try clear c26b0
            try clear c26b1
            try clear c28
            try clear c30
            try clear c30b0
            try clear c31
            try clear c31b0
            try clear p32
            try clear q32
            try clear hx32
            try clear hf32
            try clear c33
            try clear c40
            try clear c45
            try clear c49
            try clear c51
            try clear c54
            try clear c54b0
            try clear c55
            try clear c55b0
            try clear c56
            try clear c56b0
            try clear c58
            try clear c58b0
            try clear c59
            try clear c59b0
            try clear q60
            try clear c61
            try clear c63
            try clear c63b0
            try clear c64
            try clear c64b0
            try clear p64
            try clear q65
            try clear c66
            try clear c68
            try clear c68b0
            try clear c69
            try clear c69b0
            try clear p70
            try clear q70
            try clear hx70
            try clear hf70
            try clear c76
            try clear c76b0
            try clear c76b1
            try clear c77
            try clear c77b0
            try clear c77b1
            try clear hcz13_0
            try clear hcz13_1
            try clear hcz13_2
            try clear hcz13_3
            try clear hcz16_0
            try clear hcz16_1
            try clear hcz16_2
            try clear hcz34_0
            try clear hcz34_1
            try clear hcz34_2
            try clear hcz41_0
            try clear hcz41_1
            try clear hcz41_2
            try clear hcz46_0
            try clear hcz46_1
            try clear hcz46_2
            try clear hcz50_0
            try clear hcz50_1
            try clear hcz50_2
            try clear hcz52_0
            try clear hcz52_1
            try clear hcz52_2
            try clear hcz53_0
            try clear hcz53_1
            try clear hcz53_2
            try clear hcz53_3
            try clear hcz7_0
            try clear hcz7_1
            try clear hcz7_2
            try clear hcz7_3
            try clear hfz13_0
            try clear hfz13_1
            try clear hfz13_2
            try clear hfz13_3
            try clear hfz16_0
            try clear hfz16_1
            try clear hfz16_2
            try clear hfz34_0
            try clear hfz34_1
            try clear hfz34_2
            try clear hfz41_0
            try clear hfz41_1
            try clear hfz41_2
            try clear hfz46_0
            try clear hfz46_1
            try clear hfz46_2
            try clear hfz50_0
            try clear hfz50_1
            try clear hfz50_2
            try clear hfz52_0
            try clear hfz52_1
            try clear hfz52_2
            try clear hfz53_0
            try clear hfz53_1
            try clear hfz53_2
            try clear hfz53_3
            try clear hfz7_0
            try clear hfz7_1
            try clear hfz7_2
            try clear hfz7_3
            try clear hx220_0
            try clear hx220_1
            try clear hx220_2
            try clear hx222_0
            try clear hx227_0
            try clear hx229_0
            try clear hx230_0
            try clear hx32_0
            try clear hx70_0
            try clear p2
            try clear p22
            try clear p220
            try clear p222
            try clear p227
            try clear p229
            try clear p230
            try clear p3
            try clear p32
            try clear p6
            try clear p70
            try clear q2
            try clear q22
            try clear q220
            try clear q222
            try clear q227
            try clear q229
            try clear q230
            try clear q3
            try clear q32
            try clear q70
            obtain ⟨x12_3, x13_3, rfl, HA, HK3, HO_5, HO_12, BK213, HB⟩ := hrel
            cases gk with
            | zero => exact absurd HA.out (by simp [emendateref21_Cyclic.l5])
            | succ k3 =>
             have H := HA.out
             clear HA
             simp only [emendateref21_Cyclic.l5] at H
             by_cases c80 : x13_3 < (l0_1.length : Int)
             ·rw [if_pos c80] at H
              have c80b0 : decide (x13_3 < (l0_1.length : Int)) = true := decide_eq_true c80
              clear c80
              obtain ⟨ji81, hji81⟩ : ∃ j_ : Int, (wrap64 ((wrap64 (x13_3 * (l0_1.length : Int))) + x13_3)) = j_ := ⟨_, rfl⟩
              replace H : (if 0 ≤ (ji81) then (if (ji81) < (x5_2.length : Int) then (if 0 ≤ x13_3 then (if x13_3 < (x12_3.length : Int) then (emendateref21_Cyclic.l5 k3 (l0_1.length : Int) x5_2 (x12_3.set (x13_3 : Int).toNat (rdOf false x5_2 (ji81))) (wrap64 (x13_3 + 1))) else (none)) else (none)) else (none)) else (none)) = some r := by first | (rw [hji81] at H; exact H) | (simp only [hji81] at H ⊢; exact H)
              have hji81w : (IntKind.i64.wrap ((wrap64 (x13_3 * (l0_1.length : Int))) + x13_3)) = ji81 := (i64_w _).trans hji81
              by_cases c82 : 0 ≤ (ji81)
              ·rw [if_pos c82] at H
               have c82b0 : decide (0 ≤ (ji81)) = true := decide_eq_true c82
               clear c82
               by_cases c83 : (ji81) < (x5_2.length : Int)
               ·rw [if_pos c83] at H
                have c83b0 : decide ((ji81) < (x5_2.length : Int)) = true := decide_eq_true c83
                clear c83
                by_cases c84 : 0 ≤ x13_3
                ·rw [if_pos c84] at H
                 have c84b0 : decide (0 ≤ x13_3) = true := decide_eq_true c84
                 clear c84
                 by_cases c85 : x13_3 < (x12_3.length : Int)
                 ·rw [if_pos c85] at H
                  have c85b0 : decide (x13_3 < (x12_3.length : Int)) = true := decide_eq_true c85
                  clear c85
                  obtain ⟨y236, hy236⟩ : ∃ y_ : List Bool, y_ = (x12_3.set (x13_3 : Int).toNat (rdOf false x5_2 (ji81))) := ⟨_, rfl⟩
                  replace H : (emendateref21_Cyclic.l5 k3 (l0_1.length : Int) x5_2 y236 (wrap64 (x13_3 + 1))) = some r := by first | (rw [hy236]; with_reducible exact H) | (have H2_ := (Option.bind_some _ _).symm.trans H; rw [hy236]; with_reducible exact H2_) | (have H2_ := (Option.bind_some _ _).symm.trans H; with_reducible exact H2_) | with_reducible exact H | (rw [hy236]; exact H) | exact H
                  have Ny236 := Aside0.mk hy236
                  clear hy236
                  have H' := Aside0.mk H
                  clear H
                  obtain ⟨Ao87, co87, eo87⟩ := Kd.R_slice HO_5.out
                  subst eo87
                  have p235 : 0 ≤ ((ji81) : Int) := of_decide_eq_true (by first | (with_reducible assumption) | assumption)
                  have q235 : (ji81) < (x5_2.length : Int) := of_decide_eq_true (by first | (with_reducible assumption) | assumption)
                  obtain ⟨ad235, e235, hx235_0⟩ := Kd.at_bool (Kd.R_reads' HO_5.out).2.2 (ji81) p235 q235
                  cases e235
                  replace p235 := eq_true p235
                  replace q235 := eq_true q235
                  have p86 : 0 ≤ (x13_3 : Int) := of_decide_eq_true (by first | (with_reducible assumption) | assumption)
                  have q86 : (x13_3 : Int) < ((x12_3.length : Int) : Int) := of_decide_eq_true (by first | (with_reducible assumption) | assumption)
                  obtain ⟨go86, co86, eo86, gb86, gl86, cl86, HG86⟩ := Kd.R_form HO_12.out (by omega)
                  (first | cases eo86 | (injection eo86 with ea_ en_ ec_; (first | subst ea_ | (injection ea_ with ea_; subst ea_)); subst ec_; clear en_))
                  have GB86 := Aside0.mk gb86
                  have GG86 := Aside0.mk HG86
                  clear gb86 gl86 HG86
                  obtain ⟨hx86_0, hf86_0⟩ := Kd.R_celln false HO_12.out (x13_3 : Int) p86 q86
                  replace p86 := eq_true p86
                  replace q86 := eq_true q86
                  have HP88 := Kd.R_putg HO_12.out (x13_3 : Int) (rdOf false x5_2 (ji81))
                  go_wp2_with (first | ((with_reducible refine gate_store (t := 4) (p := 135) rfl ?_); refine store_event (t := 4) (p := 135) (v := ?vo_w89) (w1 := (wr.setCell ⟨go86, (x13_3 : Int).toNat, none⟩ (.bool (rdOf false x5_2 (ji81))))) ?hg ?ho ?hn ?hr ?_; (case ho => rfl); (case hg => rfl); (case hn => rfl); (case hr => first | (go_simp; done) | (go_simp; rfl)); intro w89 hw; have hg : wr.grownBy w89 (some go86) := (by rw [hw]; exact HP88.2); have hp_ : Kd.R Kd.bool 4 w89 w.heap.size (fun k_ => some k_ ≠ (.slice (some ad235) x5_2.length co87 : Value).ownBlock) (.slice (some ⟨go86, 0, none⟩) x12_3.length co86) y236 := (by rw [hw, Ny236.out]; exact HP88.1); clear HP88; have n0_ := Aside0.mk (Kd.R_after (v := (.slice (some ⟨go86, 0, none⟩) x12_3.length co86)) (v1 := (.slice (some ⟨go86, 0, none⟩) x12_3.length co86)) (ok := (fun _ => True)) (by (with_reducible repeat (first | apply Kd.R_alloc | apply Kd.R_drewN | apply Kd.R_drew)); exact Kd.R_mono HO_5.out (fun _ hk => ⟨trivial, hk⟩)) hg (.inl rfl)); have n1_ := Aside0.mk (hp_); have n2_ := Aside0.mk (blk_grown (g := gb213) (o := .cells #[.slice A0_0 l0_0.length c0_0, .slice A0_1 l0_1.length c0_1, .int .i64 a0_2, .slice A0_3 l0_3.length c0_3] 25 (0, 0)) (by (with_reducible repeat (first | refine blk_drewN ?_ _ | refine blk_drew ?_ | refine blk_alloc ?_ _)); exact BK213.out) hg (Kd.R_ne HO_12.out BK213.out (by decide))); have n3_ := Aside0.mk ((by rw [hw]; exact below_set (HB.out) GB86.out : Below w.heap.size w w89)); clear HO_5; clear HO_12; clear BK213; clear HB; have HO_5 := n0_; have HO_12 := n1_; have BK213 := n2_; have HB := n3_; clear n0_ n1_ n2_ n3_; clear hg hw hp_))
                  go_roundg k3
                  case measure => have := HK1.out; have := HK2.out; have := HK3.out; omega
                  case rel => exact ⟨(y236), (wrap64 (x13_3 + 1)), (by first | rfl | (simp; done) | (simp [*]; done)), H', ⟨by have := HK1.out; have := HK2.out; have := HK3.out; omega⟩, ⟨by (with_reducible repeat (first | apply Kd.R_alloc | apply Kd.R_drewN | apply Kd.R_drew)); exact Kd.R_mono HO_5.out (fun _ hk => hk.2)⟩, ⟨by (with_reducible repeat (first | apply Kd.R_alloc | apply Kd.R_drewN | apply Kd.R_drew)); exact HO_12.out⟩, ⟨by (with_reducible repeat (first | refine blk_drewN ?_ _ | refine blk_drew ?_ | refine blk_alloc ?_ _)); exact BK213.out⟩, ⟨by repeat (first | (with_reducible first | exact HB.out | apply below_alloc | apply pw_below_drewN | apply below_drew1 | refine below_set ?_ GE213.out) | exact HB.out)⟩⟩
                 ·rw [if_neg c85] at H
                  exact absurd H (by simp)
                ·rw [if_neg c84] at H
                 exact absurd H (by simp)
               ·rw [if_neg c83] at H
                exact absurd H (by simp)
              ·rw [if_neg c82] at H
               exact absurd H (by simp)
             ·rw [if_neg c80] at H
              have c80b0 : decide (x13_3 < (l0_1.length : Int)) = false := decide_eq_false c80
              clear c80
              obtain rfl := Option.some.inj H
              go_wp2
              go_ret
              exact ⟨_, by first | rfl | (simp [errW_none, errW_some] <;> rfl) | (simp only [← hji3]; first | rfl | (simp [errW_none, errW_some] <;> rfl)) | (simp [*, errW_none, errW_some] <;> rfl), by (with_reducible repeat (first | apply Kd.R_alloc | apply Kd.R_drewN | apply Kd.R_drew)); exact Kd.R_mono HO_12.out (fun _ hk => trivial), by repeat (first | (with_reducible first | exact HB.out | apply below_alloc | apply pw_below_drewN | apply below_drew1 | refine below_set ?_ GE213.out) | exact HB.out)⟩
          ·rw [if_neg c77] at H
           exact absurd H (by simp)
         ·rw [if_neg c76] at H
          exact absurd H (by simp)
  ·rw [if_neg c5] at H
   exact absurd H (by simp)
 ·rw [if_neg c4] at H
  exact absurd H (by simp)

end Go.Proofs.Ytkaedhooccpniaa.PA
