-- Written by wip/tools/wprint.py (a wrapper around the kit's printer) for this claim. Not trusted: Lean checks it.
import Derived.Test.YtcigcacjjdpgfaaPAx0
import Derived.Test.YtcigcacjjdpgfaaPAx13
import Derived.Test.YtcigcacjjdpgfaaPAx14
-- halved
namespace Go.Proofs.Ytcigcacjjdpgfaa.PA
open Go.RowKit Go.Proofs.YtcigcacjjdpgfaaW.PrintWords Go.Proofs.YtcigcacjjdpgfaaW.PrintLast Go.Proofs.YtcigcacjjdpgfaaW.PrintMore
attribute [local go_sem] max2_int min2_int max_two min_two max_three min_three max_four min_four   -- for this text's walks alone
set_option linter.unusedVariables false
set_option linter.unusedSimpArgs false

/-! ### emendateref35_Of: function 16 -/
mutual
def emendateref35_Of.j0 : Nat → List Int → List (List (S53)) → Int → Bool → List Int → List Int → List (List Int) → Int → Int → Option ((List (S51)) × List Int × Int × Int)
 | 0, _, _, _, _, _, _, _, _, _ => none
 | k + 1, x0, x1, x8, x33, x237000, x237001, x237002, x237003, x237004 => if x33 = true then (some (([] : List (S51)), ([] : List Int), 0, 1)) else (emendateref35_Of.l0 k x0 x1 x8 0 x237000 x237001 x237002 x237003 x237004)
def emendateref35_Of.l0 : Nat → List Int → List (List (S53)) → Int → Int → List Int → List Int → List (List Int) → Int → Int → Option ((List (S51)) × List Int × Int × Int)
 | 0, _, _, _, _, _, _, _, _, _ => none
 | k + 1, x0, x1, x8, x9, x237000, x237001, x237002, x237003, x237004 => if x9 < (x0.length : Int) then (if 0 ≤ x9 then (if (rd x0 x9) < (-1) then (emendateref35_Of.j2 k x0 x1 x8 x9 true x237000 x237001 x237002 x237003 x237004) else (emendateref35_Of.j2 k x0 x1 x8 x9 (decide ((rd x0 x9) ≥ x8)) x237000 x237001 x237002 x237003 x237004)) else (none)) else (if (x0.length : Int) > 60 then (some (([] : List (S51)), ([] : List Int), 0, 11)) else (emendateref35_Of.l2 k x0 x1 ([] : List (S51)) 0 x237000 x237001 x237002 x237003 x237004))
def emendateref35_Of.j2 : Nat → List Int → List (List (S53)) → Int → Int → Bool → List Int → List Int → List (List Int) → Int → Int → Option ((List (S51)) × List Int × Int × Int)
 | 0, _, _, _, _, _, _, _, _, _, _ => none
 | k + 1, x0, x1, x8, x9, x53, x237000, x237001, x237002, x237003, x237004 => if x53 = true then (some (([] : List (S51)), ([] : List Int), 0, 1)) else (emendateref35_Of.l1 k x0 x1 x8 x9 0 x237000 x237001 x237002 x237003 x237004)
def emendateref35_Of.l1 : Nat → List Int → List (List (S53)) → Int → Int → Int → List Int → List Int → List (List Int) → Int → Int → Option ((List (S51)) × List Int × Int × Int)
 | 0, _, _, _, _, _, _, _, _, _, _ => none
 | k + 1, x0, x1, x8, x9, x10, x237000, x237001, x237002, x237003, x237004 => if x9 < (x1.length : Int) then (if 0 ≤ x9 then (emendateref35_Of.j4 k x0 x1 x8 x9 x10 (decide (x10 < ((rd_L5 x1 x9).length : Int))) x237000 x237001 x237002 x237003 x237004) else (none)) else (emendateref35_Of.j4 k x0 x1 x8 x9 x10 false x237000 x237001 x237002 x237003 x237004)
def emendateref35_Of.j4 : Nat → List Int → List (List (S53)) → Int → Int → Int → Bool → List Int → List Int → List (List Int) → Int → Int → Option ((List (S51)) × List Int × Int × Int)
 | 0, _, _, _, _, _, _, _, _, _, _, _ => none
 | k + 1, x0, x1, x8, x9, x10, x67, x237000, x237001, x237002, x237003, x237004 => if x67 = true then (if 0 ≤ x9 then (if x9 < (x1.length : Int) then (if 0 ≤ x10 then (if x10 < ((rd_L5 x1 x9).length : Int) then (if ((rd_T53 (rd_L5 x1 x9) x10).f0) < 0 then (some (([] : List (S51)), ([] : List Int), 0, 1)) else (if ((rd_T53 (rd_L5 x1 x9) x10).f0) ≥ x8 then (some (([] : List (S51)), ([] : List Int), 0, 1)) else (if x9 < (x0.length : Int) then (if ((rd_T53 (rd_L5 x1 x9) x10).f0) = (rd x0 x9) then (some (([] : List (S51)), ([] : List Int), 0, 1)) else (if ((rd_T53 (rd_L5 x1 x9) x10).f1) < 1 then (some (([] : List (S51)), ([] : List Int), 0, 1)) else (if ((rd_T53 (rd_L5 x1 x9) x10).f1) > 60000 then (some (([] : List (S51)), ([] : List Int), 0, 1)) else (emendateref35_Of.l1 k x0 x1 x8 x9 (wrap64 (x10 + 1)) x237000 x237001 x237002 x237003 x237004)))) else (none)))) else (none)) else (none)) else (none)) else (none)) else (emendateref35_Of.l0 k x0 x1 x8 (wrap64 (x9 + 1)) x237000 x237001 x237002 x237003 x237004)
def emendateref35_Of.l2 : Nat → List Int → List (List (S53)) → List (S51) → Int → List Int → List Int → List (List Int) → Int → Int → Option ((List (S51)) × List Int × Int × Int)
 | 0, _, _, _, _, _, _, _, _, _ => none
 | k + 1, x0, x1, x12, x13, x237000, x237001, x237002, x237003, x237004 => if x13 < (x0.length : Int) then (if (x1.length : Int) > 0 then (if 0 ≤ x13 then (if x13 < (x1.length : Int) then ((emendateref35_column.f k (rd x0 x13) (rd_L5 x1 x13) x237000 x237001 x237002 x237003 x237004).bind fun bt248 => (if x12.length < 3518437208883 then (emendateref35_Of.l2 k x0 x1 (x12 ++ [(⟨bt248.1, bt248.2.1, bt248.2.2⟩ : S51)]) (wrap64 (x13 + 1)) x237000 x237001 x237002 x237003 x237004) else (none))) else (none)) else (none)) else (if 0 ≤ x13 then ((emendateref35_column.f k (rd x0 x13) ([] : List (S53)) x237000 x237001 x237002 x237003 x237004).bind fun bt257 => (if x12.length < 3518437208883 then (emendateref35_Of.l2 k x0 x1 (x12 ++ [(⟨bt257.1, bt257.2.1, bt257.2.2⟩ : S51)]) (wrap64 (x13 + 1)) x237000 x237001 x237002 x237003 x237004) else (none))) else (none))) else ((some (([] : List Int) : List Int)).bind fun y265 => (if y265.length + x237000.length < 17592186044416 then (some (x12, (y265 ++ x237000), x237003, 0)) else (none)))
end
def emendateref35_Of.f (k : Nat) (l0 : List Int) (l1 : List (List (S53))) (l2_0 : List Int) (l2_1 : List Int) (l2_2 : List (List Int)) (a2_3 : Int) (a2_4 : Int) : Option ((List (S51)) × List Int × Int × Int) := (emendateref34_Valid.f k l2_0 l2_1 l2_2 a2_3 a2_4 (l2_0.length : Int)).bind fun t238 => (if t238 = true then (if (l1.length : Int) = 0 then (emendateref35_Of.j0 k l0 l1 (l2_0.length : Int) false l2_0 l2_1 l2_2 a2_3 a2_4) else (emendateref35_Of.j0 k l0 l1 (l2_0.length : Int) ((l1.length : Int) != (l0.length : Int)) l2_0 l2_1 l2_2 a2_3 a2_4)) else (emendateref35_Of.j0 k l0 l1 (l2_0.length : Int) true l2_0 l2_1 l2_2 a2_3 a2_4))
theorem emendateref35_Of.mono_l : ∀ k, (∀ y0 y1 y2 y3 y4 y5 y6 y7 y8, LeO (emendateref35_Of.j0 k y0 y1 y2 y3 y4 y5 y6 y7 y8) (emendateref35_Of.j0 (k + 1) y0 y1 y2 y3 y4 y5 y6 y7 y8)) ∧ (∀ y0 y1 y2 y3 y4 y5 y6 y7 y8, LeO (emendateref35_Of.l0 k y0 y1 y2 y3 y4 y5 y6 y7 y8) (emendateref35_Of.l0 (k + 1) y0 y1 y2 y3 y4 y5 y6 y7 y8)) ∧ (∀ y0 y1 y2 y3 y4 y5 y6 y7 y8 y9, LeO (emendateref35_Of.j2 k y0 y1 y2 y3 y4 y5 y6 y7 y8 y9) (emendateref35_Of.j2 (k + 1) y0 y1 y2 y3 y4 y5 y6 y7 y8 y9)) ∧ (∀ y0 y1 y2 y3 y4 y5 y6 y7 y8 y9, LeO (emendateref35_Of.l1 k y0 y1 y2 y3 y4 y5 y6 y7 y8 y9) (emendateref35_Of.l1 (k + 1) y0 y1 y2 y3 y4 y5 y6 y7 y8 y9)) ∧ (∀ y0 y1 y2 y3 y4 y5 y6 y7 y8 y9 y10, LeO (emendateref35_Of.j4 k y0 y1 y2 y3 y4 y5 y6 y7 y8 y9 y10) (emendateref35_Of.j4 (k + 1) y0 y1 y2 y3 y4 y5 y6 y7 y8 y9 y10)) ∧ (∀ y0 y1 y2 y3 y4 y5 y6 y7 y8, LeO (emendateref35_Of.l2 k y0 y1 y2 y3 y4 y5 y6 y7 y8) (emendateref35_Of.l2 (k + 1) y0 y1 y2 y3 y4 y5 y6 y7 y8))
 | 0 => ⟨fun _ _ _ _ _ _ _ _ _ r h => by simp [emendateref35_Of.j0] at h, fun _ _ _ _ _ _ _ _ _ r h => by simp [emendateref35_Of.l0] at h, fun _ _ _ _ _ _ _ _ _ _ r h => by simp [emendateref35_Of.j2] at h, fun _ _ _ _ _ _ _ _ _ _ r h => by simp [emendateref35_Of.l1] at h, fun _ _ _ _ _ _ _ _ _ _ _ r h => by simp [emendateref35_Of.j4] at h, fun _ _ _ _ _ _ _ _ _ r h => by simp [emendateref35_Of.l2] at h⟩
 | k + 1 => by
  obtain ⟨ih0, ih1, ih2, ih3, ih4, ih5⟩ := emendateref35_Of.mono_l k
  refine ⟨?_, ?_, ?_, ?_, ?_, ?_⟩
  ·intro y0 y1 y2 y3 y4 y5 y6 y7 y8
   unfold emendateref35_Of.j0
   repeat' first
   | (with_reducible exact ih0 _ _ _ _ _ _ _ _ _)
   | (with_reducible exact ih1 _ _ _ _ _ _ _ _ _)
   | (with_reducible exact ih2 _ _ _ _ _ _ _ _ _ _)
   | (with_reducible exact ih3 _ _ _ _ _ _ _ _ _ _)
   | (with_reducible exact ih4 _ _ _ _ _ _ _ _ _ _ _)
   | (with_reducible exact ih5 _ _ _ _ _ _ _ _ _)
   | (with_reducible exact emendateref34_Valid.mono _ _ _ _ _ _ _)
   | (with_reducible exact emendateref35_column.mono _ _ _ _ _ _ _ _)
   | (with_reducible exact LeO.refl _)
   | (with_reducible exact LeO.none _)
   | (with_reducible refine LeO.ite ?_ ?_)
   | (with_reducible refine LeO.bind ?_ (fun _ => ?_))
   | exact ih0 _ _ _ _ _ _ _ _ _
   | exact ih1 _ _ _ _ _ _ _ _ _
   | exact ih2 _ _ _ _ _ _ _ _ _ _
   | exact ih3 _ _ _ _ _ _ _ _ _ _
   | exact ih4 _ _ _ _ _ _ _ _ _ _ _
   | exact ih5 _ _ _ _ _ _ _ _ _
   | exact emendateref34_Valid.mono _ _ _ _ _ _ _
   | exact emendateref35_column.mono _ _ _ _ _ _ _ _
   | exact LeO.none _
   | refine LeO.ite ?_ ?_
   | refine LeO.bind ?_ (fun _ => ?_)
  ·intro y0 y1 y2 y3 y4 y5 y6 y7 y8
   unfold emendateref35_Of.l0
   repeat' first
   | (with_reducible exact ih0 _ _ _ _ _ _ _ _ _)
   | (with_reducible exact ih1 _ _ _ _ _ _ _ _ _)
   | (with_reducible exact ih2 _ _ _ _ _ _ _ _ _ _)
   | (with_reducible exact ih3 _ _ _ _ _ _ _ _ _ _)
   | (with_reducible exact ih4 _ _ _ _ _ _ _ _ _ _ _)
   | (with_reducible exact ih5 _ _ _ _ _ _ _ _ _)
   | (with_reducible exact emendateref34_Valid.mono _ _ _ _ _ _ _)
   | (with_reducible exact emendateref35_column.mono _ _ _ _ _ _ _ _)
   | (with_reducible exact LeO.refl _)
   | (with_reducible exact LeO.none _)
   | (with_reducible refine LeO.ite ?_ ?_)
   | (with_reducible refine LeO.bind ?_ (fun _ => ?_))
   | exact ih0 _ _ _ _ _ _ _ _ _
   | exact ih1 _ _ _ _ _ _ _ _ _
   | exact ih2 _ _ _ _ _ _ _ _ _ _
   | exact ih3 _ _ _ _ _ _ _ _ _ _
   | exact ih4 _ _ _ _ _ _ _ _ _ _ _
   | exact ih5 _ _ _ _ _ _ _ _ _
   | exact emendateref34_Valid.mono _ _ _ _ _ _ _
   | exact emendateref35_column.mono _ _ _ _ _ _ _ _
   | exact LeO.none _
   | refine LeO.ite ?_ ?_
   | refine LeO.bind ?_ (fun _ => ?_)
  ·intro y0 y1 y2 y3 y4 y5 y6 y7 y8 y9
   unfold emendateref35_Of.j2
   repeat' first
   | (with_reducible exact ih0 _ _ _ _ _ _ _ _ _)
   | (with_reducible exact ih1 _ _ _ _ _ _ _ _ _)
   | (with_reducible exact ih2 _ _ _ _ _ _ _ _ _ _)
   | (with_reducible exact ih3 _ _ _ _ _ _ _ _ _ _)
   | (with_reducible exact ih4 _ _ _ _ _ _ _ _ _ _ _)
   | (with_reducible exact ih5 _ _ _ _ _ _ _ _ _)
   | (with_reducible exact emendateref34_Valid.mono _ _ _ _ _ _ _)
   | (with_reducible exact emendateref35_column.mono _ _ _ _ _ _ _ _)
   | (with_reducible exact LeO.refl _)
   | (with_reducible exact LeO.none _)
   | (with_reducible refine LeO.ite ?_ ?_)
   | (with_reducible refine LeO.bind ?_ (fun _ => ?_))
   | exact ih0 _ _ _ _ _ _ _ _ _
   | exact ih1 _ _ _ _ _ _ _ _ _
   | exact ih2 _ _ _ _ _ _ _ _ _ _
   | exact ih3 _ _ _ _ _ _ _ _ _ _
   | exact ih4 _ _ _ _ _ _ _ _ _ _ _
   | exact ih5 _ _ _ _ _ _ _ _ _
   | exact emendateref34_Valid.mono _ _ _ _ _ _ _
   | exact emendateref35_column.mono _ _ _ _ _ _ _ _
   | exact LeO.none _
   | refine LeO.ite ?_ ?_
   | refine LeO.bind ?_ (fun _ => ?_)
  ·intro y0 y1 y2 y3 y4 y5 y6 y7 y8 y9
   unfold emendateref35_Of.l1
   repeat' first
   | (with_reducible exact ih0 _ _ _ _ _ _ _ _ _)
   | (with_reducible exact ih1 _ _ _ _ _ _ _ _ _)
   | (with_reducible exact ih2 _ _ _ _ _ _ _ _ _ _)
   | (with_reducible exact ih3 _ _ _ _ _ _ _ _ _ _)
   | (with_reducible exact ih4 _ _ _ _ _ _ _ _ _ _ _)
   | (with_reducible exact ih5 _ _ _ _ _ _ _ _ _)
   | (with_reducible exact emendateref34_Valid.mono _ _ _ _ _ _ _)
   | (with_reducible exact emendateref35_column.mono _ _ _ _ _ _ _ _)
   | (with_reducible exact LeO.refl _)
   | (with_reducible exact LeO.none _)
   | (with_reducible refine LeO.ite ?_ ?_)
   | (with_reducible refine LeO.bind ?_ (fun _ => ?_))
   | exact ih0 _ _ _ _ _ _ _ _ _
   | exact ih1 _ _ _ _ _ _ _ _ _
   | exact ih2 _ _ _ _ _ _ _ _ _ _
   | exact ih3 _ _ _ _ _ _ _ _ _ _
   | exact ih4 _ _ _ _ _ _ _ _ _ _ _
   | exact ih5 _ _ _ _ _ _ _ _ _
   | exact emendateref34_Valid.mono _ _ _ _ _ _ _
   | exact emendateref35_column.mono _ _ _ _ _ _ _ _
   | exact LeO.none _
   | refine LeO.ite ?_ ?_
   | refine LeO.bind ?_ (fun _ => ?_)
  ·intro y0 y1 y2 y3 y4 y5 y6 y7 y8 y9 y10
   unfold emendateref35_Of.j4
   repeat' first
   | (with_reducible exact ih0 _ _ _ _ _ _ _ _ _)
   | (with_reducible exact ih1 _ _ _ _ _ _ _ _ _)
   | (with_reducible exact ih2 _ _ _ _ _ _ _ _ _ _)
   | (with_reducible exact ih3 _ _ _ _ _ _ _ _ _ _)
   | (with_reducible exact ih4 _ _ _ _ _ _ _ _ _ _ _)
   | (with_reducible exact ih5 _ _ _ _ _ _ _ _ _)
   | (with_reducible exact emendateref34_Valid.mono _ _ _ _ _ _ _)
   | (with_reducible exact emendateref35_column.mono _ _ _ _ _ _ _ _)
   | (with_reducible exact LeO.refl _)
   | (with_reducible exact LeO.none _)
   | (with_reducible refine LeO.ite ?_ ?_)
   | (with_reducible refine LeO.bind ?_ (fun _ => ?_))
   | exact ih0 _ _ _ _ _ _ _ _ _
   | exact ih1 _ _ _ _ _ _ _ _ _
   | exact ih2 _ _ _ _ _ _ _ _ _ _
   | exact ih3 _ _ _ _ _ _ _ _ _ _
   | exact ih4 _ _ _ _ _ _ _ _ _ _ _
   | exact ih5 _ _ _ _ _ _ _ _ _
   | exact emendateref34_Valid.mono _ _ _ _ _ _ _
   | exact emendateref35_column.mono _ _ _ _ _ _ _ _
   | exact LeO.none _
   | refine LeO.ite ?_ ?_
   | refine LeO.bind ?_ (fun _ => ?_)
  ·intro y0 y1 y2 y3 y4 y5 y6 y7 y8
   unfold emendateref35_Of.l2
   repeat' first
   | (with_reducible exact ih0 _ _ _ _ _ _ _ _ _)
   | (with_reducible exact ih1 _ _ _ _ _ _ _ _ _)
   | (with_reducible exact ih2 _ _ _ _ _ _ _ _ _ _)
   | (with_reducible exact ih3 _ _ _ _ _ _ _ _ _ _)
   | (with_reducible exact ih4 _ _ _ _ _ _ _ _ _ _ _)
   | (with_reducible exact ih5 _ _ _ _ _ _ _ _ _)
   | (with_reducible exact emendateref34_Valid.mono _ _ _ _ _ _ _)
   | (with_reducible exact emendateref35_column.mono _ _ _ _ _ _ _ _)
   | (with_reducible exact LeO.refl _)
   | (with_reducible exact LeO.none _)
   | (with_reducible refine LeO.ite ?_ ?_)
   | (with_reducible refine LeO.bind ?_ (fun _ => ?_))
   | exact ih0 _ _ _ _ _ _ _ _ _
   | exact ih1 _ _ _ _ _ _ _ _ _
   | exact ih2 _ _ _ _ _ _ _ _ _ _
   | exact ih3 _ _ _ _ _ _ _ _ _ _
   | exact ih4 _ _ _ _ _ _ _ _ _ _ _
   | exact ih5 _ _ _ _ _ _ _ _ _
   | exact emendateref34_Valid.mono _ _ _ _ _ _ _
   | exact emendateref35_column.mono _ _ _ _ _ _ _ _
   | exact LeO.none _
   | refine LeO.ite ?_ ?_
   | refine LeO.bind ?_ (fun _ => ?_)
theorem emendateref35_Of.mono : ∀ a0 a1 a2 a3 a4 a5 a6 k, LeO (emendateref35_Of.f k a0 a1 a2 a3 a4 a5 a6) (emendateref35_Of.f (k + 1) a0 a1 a2 a3 a4 a5 a6) := by
 intro a0 a1 a2 a3 a4 a5 a6 k
 obtain ⟨ih0, ih1, ih2, ih3, ih4, ih5⟩ := emendateref35_Of.mono_l k
 unfold emendateref35_Of.f
 repeat' first
   | (with_reducible exact ih0 _ _ _ _ _ _ _ _ _)
   | (with_reducible exact ih1 _ _ _ _ _ _ _ _ _)
   | (with_reducible exact ih2 _ _ _ _ _ _ _ _ _ _)
   | (with_reducible exact ih3 _ _ _ _ _ _ _ _ _ _)
   | (with_reducible exact ih4 _ _ _ _ _ _ _ _ _ _ _)
   | (with_reducible exact ih5 _ _ _ _ _ _ _ _ _)
   | (with_reducible exact emendateref34_Valid.mono _ _ _ _ _ _ _)
   | (with_reducible exact emendateref35_column.mono _ _ _ _ _ _ _ _)
   | (with_reducible exact LeO.refl _)
   | (with_reducible exact LeO.none _)
   | (with_reducible refine LeO.ite ?_ ?_)
   | (with_reducible refine LeO.bind ?_ (fun _ => ?_))
   | exact ih0 _ _ _ _ _ _ _ _ _
   | exact ih1 _ _ _ _ _ _ _ _ _
   | exact ih2 _ _ _ _ _ _ _ _ _ _
   | exact ih3 _ _ _ _ _ _ _ _ _ _
   | exact ih4 _ _ _ _ _ _ _ _ _ _ _
   | exact ih5 _ _ _ _ _ _ _ _ _
   | exact emendateref34_Valid.mono _ _ _ _ _ _ _
   | exact emendateref35_column.mono _ _ _ _ _ _ _ _
   | exact LeO.none _
   | refine LeO.ite ?_ ?_
   | refine LeO.bind ?_ (fun _ => ?_)
def emendateref35_Of.T13 : Bool × List (List Nat × List Nat) := (true, [([], []), ([0], [0]), ([1], [1]), ([2], [2]), ([3], [3]), ([4, 3], [3, 4]), ([3], [3]), ([5, 6, 3], [3, 5, 6]), ([3, 7], [3, 7]), ([8, 3], [8]), ([9], [9]), ([10, 9], [9, 10]), ([9], [9]), ([9], [9]), ([12, 13, 9], [9, 12, 13]), ([14, 9], [9, 14]), ([11, 15, 9], [9, 11, 15]), ([9, 16], [9, 16]), ([17, 9], [17]), ([18], [18]), ([19, 18], [18, 19]), ([20, 18], [18, 20]), ([18, 21], [18, 21]), ([22, 18], [22]), ([23], [23]), ([24, 23], [23, 24]), ([25, 23], [23, 25]), ([23, 26], [23, 26])])
def emendateref35_Of.B13 : List Nat := [0, 1, 3, 7, 15, 31, 15, 127, 255, 511, 1023, 2047, 1023, 1023, 13311, 29695, 65535, 131071, 262143, 524287, 1048575, 2097151, 4194303, 8388607, 16777215, 33554431, 67108863, 134217727]
theorem emendateref35_Of.tab13 : rtab .any (opsOf Try.f16 13) = emendateref35_Of.T13 := by kernel_rfl
theorem emendateref35_Of.bits13 : waitsOk emendateref35_Of.T13.2 emendateref35_Of.B13 = true := by kernel_rfl
def emendateref35_Of.T24 : Bool × List (List Nat × List Nat) := (true, [([], []), ([], []), ([], []), ([1, 2], [1, 2]), ([3], [3]), ([], []), ([], []), ([4, 5, 6], [4, 5, 6]), ([7], [7]), ([0, 8, 7], [0, 8]), ([9, 9, 0, 1, 2, 3, 4, 5, 6, 7, 8, 9], [0, 9])])
def emendateref35_Of.B24 : List Nat := [0, 0, 0, 6, 14, 0, 0, 126, 254, 511, 1023]
theorem emendateref35_Of.tab24 : rtab .any (opsOf Try.f16 24) = emendateref35_Of.T24 := by kernel_rfl
theorem emendateref35_Of.bits24 : waitsOk emendateref35_Of.T24.2 emendateref35_Of.B24 = true := by kernel_rfl
def emendateref35_Of.T25 : Bool × List (List Nat × List Nat) := (true, [([], []), ([], []), ([], []), ([2], [2]), ([1, 3], [1, 3]), ([], []), ([5], [5]), ([0, 4, 6], [0, 4, 6]), ([7, 4, 0, 1, 2, 3, 4, 5, 6, 7], [7]), ([8, 0, 1, 2, 3, 4, 5, 6, 7, 8], [])])
def emendateref35_Of.B25 : List Nat := [0, 0, 0, 4, 14, 0, 32, 127, 255, 511]
theorem emendateref35_Of.tab25 : rtab .any (opsOf Try.f16 25) = emendateref35_Of.T25 := by kernel_rfl
theorem emendateref35_Of.bits25 : waitsOk emendateref35_Of.T25.2 emendateref35_Of.B25 = true := by kernel_rfl
end Go.Proofs.Ytcigcacjjdpgfaa.PA
