-- Written by wip/tools/wprint.py (a wrapper around the kit's printer) for this claim. Not trusted: Lean checks it.
import Derived.Test.YtkaedhooccpniaaHandAllN
import Derived.Test.YtkaedhooccpniaaPAx0
import Derived.Test.YtkaedhooccpniaaPAx8
import Derived.Test.YtkaedhooccpniaaPAx9
import Derived.Test.YtkaedhooccpniaaPAx14
import Derived.Test.YtkaedhooccpniaaPAx15
-- halved
namespace Go.Proofs.Ytkaedhooccpniaa.PA
open Go.RowKit Go.Proofs.YtkaedhooccpniaaW.PrintWords Go.Proofs.YtkaedhooccpniaaW.PrintLast Go.Proofs.YtkaedhooccpniaaW.PrintMore
attribute [local go_sem] max2_int min2_int max_two min_two max_three min_three max_four min_four   -- for this text's walks alone
set_option linter.unusedVariables false
set_option linter.unusedSimpArgs false

/-! ### emendateref21_Follow: function 25 -/
mutual
def emendateref21_Follow.l0 : Nat → Int → Int → List Bool → List Bool → List Bool → Bool → List ByteArray → List ByteArray → Int → List (S41) → Option ((List (List Int)))
 | 0, _, _, _, _, _, _, _, _, _, _ => none
 | k + 1, x3, x4, x5, x6, x7, x8, x275000, x275001, x275002, x275003 => if x8 = true then (emendateref21_Follow.l1 k x3 x4 x5 x6 x7 false 0 x275000 x275001 x275002 x275003) else ((emendateref21_sets.f k x7 x4 1).bind fun t285 => (some t285))
def emendateref21_Follow.l1 : Nat → Int → Int → List Bool → List Bool → List Bool → Bool → Int → List ByteArray → List ByteArray → Int → List (S41) → Option ((List (List Int)))
 | 0, _, _, _, _, _, _, _, _, _, _, _ => none
 | k + 1, x3, x4, x5, x6, x7, x8, x9, x275000, x275001, x275002, x275003 => if x9 < (x275003.length : Int) then (if 0 ≤ x9 then (emendateref21_Follow.l2 k x3 x4 x5 x6 x7 x8 x9 0 x275000 x275001 x275002 x275003 ((rd_T41 x275003 x9).f0) ((rd_T41 x275003 x9).f1) ((rd_T41 x275003 x9).f2)) else (none)) else (emendateref21_Follow.l0 k x3 x4 x5 x6 x7 x8 x275000 x275001 x275002 x275003)
def emendateref21_Follow.l2 : Nat → Int → Int → List Bool → List Bool → List Bool → Bool → Int → Int → List ByteArray → List ByteArray → Int → List (S41) → Int → List Int → Int → Option ((List (List Int)))
 | 0, _, _, _, _, _, _, _, _, _, _, _, _, _, _, _ => none
 | k + 1, x3, x4, x5, x6, x7, x8, x9, x11, x275000, x275001, x275002, x275003, x290000, x290001, x290002 => if x11 < (x290001.length : Int) then (if 0 ≤ x11 then (if (rd x290001 x11) ≥ 0 then (emendateref21_Follow.l2 k x3 x4 x5 x6 x7 x8 x9 (wrap64 (x11 + 1)) x275000 x275001 x275002 x275003 x290000 x290001 x290002) else (emendateref21_Follow.l3 k x3 x4 x5 x6 x7 x8 x9 x11 (wrap64 ((-1) - (rd x290001 x11))) 0 x275000 x275001 x275002 x275003 x290000 x290001 x290002)) else (none)) else (emendateref21_Follow.l1 k x3 x4 x5 x6 x7 x8 (wrap64 (x9 + 1)) x275000 x275001 x275002 x275003)
def emendateref21_Follow.l3 : Nat → Int → Int → List Bool → List Bool → List Bool → Bool → Int → Int → Int → Int → List ByteArray → List ByteArray → Int → List (S41) → Int → List Int → Int → Option ((List (List Int)))
 | 0, _, _, _, _, _, _, _, _, _, _, _, _, _, _, _, _, _ => none
 | k + 1, x3, x4, x5, x6, x7, x8, x9, x11, x12, x13, x275000, x275001, x275002, x275003, x290000, x290001, x290002 => if x13 < x4 then (if 0 ≤ (wrap64 (x11 + 1)) then (if (wrap64 (x11 + 1)) ≤ (x290001.length : Int) then ((emendateref21_all.f k (x290001.drop ((wrap64 (x11 + 1)) : Int).toNat) x5 false).bind fun t293 => (if t293 = true then (if 0 ≤ (wrap64 ((wrap64 (x290000 * x4)) + x13)) then (if (wrap64 ((wrap64 (x290000 * x4)) + x13)) < (x7.length : Int) then (emendateref21_Follow.j4 k x3 x4 x5 x6 x7 x8 x9 x11 x12 x13 (rdOf false x7 (wrap64 ((wrap64 (x290000 * x4)) + x13))) x275000 x275001 x275002 x275003 x290000 x290001 x290002) else (none)) else (none)) else (emendateref21_Follow.j4 k x3 x4 x5 x6 x7 x8 x9 x11 x12 x13 false x275000 x275001 x275002 x275003 x290000 x290001 x290002))) else (none)) else (none)) else (emendateref21_Follow.l2 k x3 x4 x5 x6 x7 x8 x9 (wrap64 (x11 + 1)) x275000 x275001 x275002 x275003 x290000 x290001 x290002)
def emendateref21_Follow.j4 : Nat → Int → Int → List Bool → List Bool → List Bool → Bool → Int → Int → Int → Int → Bool → List ByteArray → List ByteArray → Int → List (S41) → Int → List Int → Int → Option ((List (List Int)))
 | 0, _, _, _, _, _, _, _, _, _, _, _, _, _, _, _, _, _, _ => none
 | k + 1, x3, x4, x5, x6, x7, x8, x9, x11, x12, x13, x14, x275000, x275001, x275002, x275003, x290000, x290001, x290002 => emendateref21_Follow.l4 k x3 x4 x5 x6 x7 x8 x9 x11 x12 x13 x14 (wrap64 (x11 + 1)) x275000 x275001 x275002 x275003 x290000 x290001 x290002
def emendateref21_Follow.l4 : Nat → Int → Int → List Bool → List Bool → List Bool → Bool → Int → Int → Int → Int → Bool → Int → List ByteArray → List ByteArray → Int → List (S41) → Int → List Int → Int → Option ((List (List Int)))
 | 0, _, _, _, _, _, _, _, _, _, _, _, _, _, _, _, _, _, _, _ => none
 | k + 1, x3, x4, x5, x6, x7, x8, x9, x11, x12, x13, x14, x15, x275000, x275001, x275002, x275003, x290000, x290001, x290002 => if x15 < (x290001.length : Int) then (if x13 > 0 then (if 0 ≤ (wrap64 (x11 + 1)) then (if (wrap64 (x11 + 1)) ≤ x15 then (if x15 ≤ (x290001.length : Int) then ((emendateref21_all.f k ((x290001.take (x15 : Int).toNat).drop ((wrap64 (x11 + 1)) : Int).toNat) x5 false).bind fun t296 => (if t296 = true then (if x14 = true then (emendateref21_Follow.l4 k x3 x4 x5 x6 x7 x8 x9 x11 x12 x13 true (wrap64 (x15 + 1)) x275000 x275001 x275002 x275003 x290000 x290001 x290002) else (if 0 ≤ x15 then (if (rd x290001 x15) = (wrap64 (x13 - 1)) then (emendateref21_Follow.l4 k x3 x4 x5 x6 x7 x8 x9 x11 x12 x13 true (wrap64 (x15 + 1)) x275000 x275001 x275002 x275003 x290000 x290001 x290002) else (if (rd x290001 x15) < 0 then (if 0 ≤ (wrap64 ((wrap64 ((wrap64 ((wrap64 ((-1) - (rd x290001 x15))) * x3)) + x13)) - 1)) then (if (wrap64 ((wrap64 ((wrap64 ((wrap64 ((-1) - (rd x290001 x15))) * x3)) + x13)) - 1)) < (x6.length : Int) then (emendateref21_Follow.l4 k x3 x4 x5 x6 x7 x8 x9 x11 x12 x13 (rdOf false x6 (wrap64 ((wrap64 ((wrap64 ((wrap64 ((-1) - (rd x290001 x15))) * x3)) + x13)) - 1))) (wrap64 (x15 + 1)) x275000 x275001 x275002 x275003 x290000 x290001 x290002) else (none)) else (none)) else (emendateref21_Follow.l4 k x3 x4 x5 x6 x7 x8 x9 x11 x12 x13 false (wrap64 (x15 + 1)) x275000 x275001 x275002 x275003 x290000 x290001 x290002))) else (none))) else (if x14 = true then (if 0 ≤ (wrap64 ((wrap64 (x12 * x4)) + x13)) then (if (wrap64 ((wrap64 (x12 * x4)) + x13)) < (x7.length : Int) then (if (rdOf false x7 (wrap64 ((wrap64 (x12 * x4)) + x13)) = true) then (emendateref21_Follow.l3 k x3 x4 x5 x6 x7 x8 x9 x11 x12 (wrap64 (x13 + 1)) x275000 x275001 x275002 x275003 x290000 x290001 x290002) else (emendateref21_Follow.l3 k x3 x4 x5 x6 (x7.set ((wrap64 ((wrap64 (x12 * x4)) + x13)) : Int).toNat true) true x9 x11 x12 (wrap64 (x13 + 1)) x275000 x275001 x275002 x275003 x290000 x290001 x290002)) else (none)) else (none)) else (emendateref21_Follow.l3 k x3 x4 x5 x6 x7 x8 x9 x11 x12 (wrap64 (x13 + 1)) x275000 x275001 x275002 x275003 x290000 x290001 x290002)))) else (none)) else (none)) else (none)) else (if x14 = true then (if 0 ≤ (wrap64 ((wrap64 (x12 * x4)) + x13)) then (if (wrap64 ((wrap64 (x12 * x4)) + x13)) < (x7.length : Int) then (if (rdOf false x7 (wrap64 ((wrap64 (x12 * x4)) + x13)) = true) then (emendateref21_Follow.l3 k x3 x4 x5 x6 x7 x8 x9 x11 x12 (wrap64 (x13 + 1)) x275000 x275001 x275002 x275003 x290000 x290001 x290002) else (emendateref21_Follow.l3 k x3 x4 x5 x6 (x7.set ((wrap64 ((wrap64 (x12 * x4)) + x13)) : Int).toNat true) true x9 x11 x12 (wrap64 (x13 + 1)) x275000 x275001 x275002 x275003 x290000 x290001 x290002)) else (none)) else (none)) else (emendateref21_Follow.l3 k x3 x4 x5 x6 x7 x8 x9 x11 x12 (wrap64 (x13 + 1)) x275000 x275001 x275002 x275003 x290000 x290001 x290002))) else (if x14 = true then (if 0 ≤ (wrap64 ((wrap64 (x12 * x4)) + x13)) then (if (wrap64 ((wrap64 (x12 * x4)) + x13)) < (x7.length : Int) then (if (rdOf false x7 (wrap64 ((wrap64 (x12 * x4)) + x13)) = true) then (emendateref21_Follow.l3 k x3 x4 x5 x6 x7 x8 x9 x11 x12 (wrap64 (x13 + 1)) x275000 x275001 x275002 x275003 x290000 x290001 x290002) else (emendateref21_Follow.l3 k x3 x4 x5 x6 (x7.set ((wrap64 ((wrap64 (x12 * x4)) + x13)) : Int).toNat true) true x9 x11 x12 (wrap64 (x13 + 1)) x275000 x275001 x275002 x275003 x290000 x290001 x290002)) else (none)) else (none)) else (emendateref21_Follow.l3 k x3 x4 x5 x6 x7 x8 x9 x11 x12 (wrap64 (x13 + 1)) x275000 x275001 x275002 x275003 x290000 x290001 x290002))
end
def emendateref21_Follow.f (k : Nat) (l0_0 : List ByteArray) (l0_1 : List ByteArray) (a0_2 : Int) (l0_3 : List (S41)) : Option ((List (List Int))) := (emendateref21_Nullable.f k l0_0 l0_1 a0_2 l0_3).bind fun t275 => ((emendateref21_first.f k l0_0 l0_1 a0_2 l0_3).bind fun t278 => (if 0 ≤ (wrap64 ((l0_1.length : Int) * (wrap64 ((l0_0.length : Int) + 1)))) then (if (wrap64 ((l0_1.length : Int) * (wrap64 ((l0_0.length : Int) + 1))) : Int).toNat ≤ 281474976710656 then ((some (List.replicate (wrap64 ((l0_1.length : Int) * (wrap64 ((l0_0.length : Int) + 1))) : Int).toNat false : List Bool)).bind fun y281 => (if 0 ≤ (wrap64 (a0_2 * (wrap64 ((l0_0.length : Int) + 1)))) then (if (wrap64 (a0_2 * (wrap64 ((l0_0.length : Int) + 1)))) < (y281.length : Int) then (emendateref21_Follow.l0 k (l0_0.length : Int) (wrap64 ((l0_0.length : Int) + 1)) t275 t278 (y281.set ((wrap64 (a0_2 * (wrap64 ((l0_0.length : Int) + 1)))) : Int).toNat true) true l0_0 l0_1 a0_2 l0_3) else (none)) else (none))) else (none)) else (none)))
theorem emendateref21_Follow.mono_l : ∀ k, (∀ y0 y1 y2 y3 y4 y5 y6 y7 y8 y9, LeO (emendateref21_Follow.l0 k y0 y1 y2 y3 y4 y5 y6 y7 y8 y9) (emendateref21_Follow.l0 (k + 1) y0 y1 y2 y3 y4 y5 y6 y7 y8 y9)) ∧ (∀ y0 y1 y2 y3 y4 y5 y6 y7 y8 y9 y10, LeO (emendateref21_Follow.l1 k y0 y1 y2 y3 y4 y5 y6 y7 y8 y9 y10) (emendateref21_Follow.l1 (k + 1) y0 y1 y2 y3 y4 y5 y6 y7 y8 y9 y10)) ∧ (∀ y0 y1 y2 y3 y4 y5 y6 y7 y8 y9 y10 y11 y12 y13 y14, LeO (emendateref21_Follow.l2 k y0 y1 y2 y3 y4 y5 y6 y7 y8 y9 y10 y11 y12 y13 y14) (emendateref21_Follow.l2 (k + 1) y0 y1 y2 y3 y4 y5 y6 y7 y8 y9 y10 y11 y12 y13 y14)) ∧ (∀ y0 y1 y2 y3 y4 y5 y6 y7 y8 y9 y10 y11 y12 y13 y14 y15 y16, LeO (emendateref21_Follow.l3 k y0 y1 y2 y3 y4 y5 y6 y7 y8 y9 y10 y11 y12 y13 y14 y15 y16) (emendateref21_Follow.l3 (k + 1) y0 y1 y2 y3 y4 y5 y6 y7 y8 y9 y10 y11 y12 y13 y14 y15 y16)) ∧ (∀ y0 y1 y2 y3 y4 y5 y6 y7 y8 y9 y10 y11 y12 y13 y14 y15 y16 y17, LeO (emendateref21_Follow.j4 k y0 y1 y2 y3 y4 y5 y6 y7 y8 y9 y10 y11 y12 y13 y14 y15 y16 y17) (emendateref21_Follow.j4 (k + 1) y0 y1 y2 y3 y4 y5 y6 y7 y8 y9 y10 y11 y12 y13 y14 y15 y16 y17)) ∧ (∀ y0 y1 y2 y3 y4 y5 y6 y7 y8 y9 y10 y11 y12 y13 y14 y15 y16 y17 y18, LeO (emendateref21_Follow.l4 k y0 y1 y2 y3 y4 y5 y6 y7 y8 y9 y10 y11 y12 y13 y14 y15 y16 y17 y18) (emendateref21_Follow.l4 (k + 1) y0 y1 y2 y3 y4 y5 y6 y7 y8 y9 y10 y11 y12 y13 y14 y15 y16 y17 y18))
 | 0 => ⟨fun _ _ _ _ _ _ _ _ _ _ r h => by simp [emendateref21_Follow.l0] at h, fun _ _ _ _ _ _ _ _ _ _ _ r h => by simp [emendateref21_Follow.l1] at h, fun _ _ _ _ _ _ _ _ _ _ _ _ _ _ _ r h => by simp [emendateref21_Follow.l2] at h, fun _ _ _ _ _ _ _ _ _ _ _ _ _ _ _ _ _ r h => by simp [emendateref21_Follow.l3] at h, fun _ _ _ _ _ _ _ _ _ _ _ _ _ _ _ _ _ _ r h => by simp [emendateref21_Follow.j4] at h, fun _ _ _ _ _ _ _ _ _ _ _ _ _ _ _ _ _ _ _ r h => by simp [emendateref21_Follow.l4] at h⟩
 | k + 1 => by
  obtain ⟨ih0, ih1, ih2, ih3, ih4, ih5⟩ := emendateref21_Follow.mono_l k
  refine ⟨?_, ?_, ?_, ?_, ?_, ?_⟩
  ·intro y0 y1 y2 y3 y4 y5 y6 y7 y8 y9
   unfold emendateref21_Follow.l0
   repeat' first
   | (with_reducible exact ih0 _ _ _ _ _ _ _ _ _ _)
   | (with_reducible exact ih1 _ _ _ _ _ _ _ _ _ _ _)
   | (with_reducible exact ih2 _ _ _ _ _ _ _ _ _ _ _ _ _ _ _)
   | (with_reducible exact ih3 _ _ _ _ _ _ _ _ _ _ _ _ _ _ _ _ _)
   | (with_reducible exact ih4 _ _ _ _ _ _ _ _ _ _ _ _ _ _ _ _ _ _)
   | (with_reducible exact ih5 _ _ _ _ _ _ _ _ _ _ _ _ _ _ _ _ _ _ _)
   | (with_reducible exact emendateref21_Nullable.mono _ _ _ _ _)
   | (with_reducible exact emendateref21_all.mono _ _ _ _)
   | (with_reducible exact emendateref21_first.mono _ _ _ _ _)
   | (with_reducible exact emendateref21_sets.mono _ _ _ _)
   | (with_reducible exact LeO.refl _)
   | (with_reducible exact LeO.none _)
   | (with_reducible refine LeO.ite ?_ ?_)
   | (with_reducible refine LeO.bind ?_ (fun _ => ?_))
   | exact ih0 _ _ _ _ _ _ _ _ _ _
   | exact ih1 _ _ _ _ _ _ _ _ _ _ _
   | exact ih2 _ _ _ _ _ _ _ _ _ _ _ _ _ _ _
   | exact ih3 _ _ _ _ _ _ _ _ _ _ _ _ _ _ _ _ _
   | exact ih4 _ _ _ _ _ _ _ _ _ _ _ _ _ _ _ _ _ _
   | exact ih5 _ _ _ _ _ _ _ _ _ _ _ _ _ _ _ _ _ _ _
   | exact emendateref21_Nullable.mono _ _ _ _ _
   | exact emendateref21_all.mono _ _ _ _
   | exact emendateref21_first.mono _ _ _ _ _
   | exact emendateref21_sets.mono _ _ _ _
   | exact LeO.none _
   | refine LeO.ite ?_ ?_
   | refine LeO.bind ?_ (fun _ => ?_)
  ·intro y0 y1 y2 y3 y4 y5 y6 y7 y8 y9 y10
   unfold emendateref21_Follow.l1
   repeat' first
   | (with_reducible exact ih0 _ _ _ _ _ _ _ _ _ _)
   | (with_reducible exact ih1 _ _ _ _ _ _ _ _ _ _ _)
   | (with_reducible exact ih2 _ _ _ _ _ _ _ _ _ _ _ _ _ _ _)
   | (with_reducible exact ih3 _ _ _ _ _ _ _ _ _ _ _ _ _ _ _ _ _)
   | (with_reducible exact ih4 _ _ _ _ _ _ _ _ _ _ _ _ _ _ _ _ _ _)
   | (with_reducible exact ih5 _ _ _ _ _ _ _ _ _ _ _ _ _ _ _ _ _ _ _)
   | (with_reducible exact emendateref21_Nullable.mono _ _ _ _ _)
   | (with_reducible exact emendateref21_all.mono _ _ _ _)
   | (with_reducible exact emendateref21_first.mono _ _ _ _ _)
   | (with_reducible exact emendateref21_sets.mono _ _ _ _)
   | (with_reducible exact LeO.refl _)
   | (with_reducible exact LeO.none _)
   | (with_reducible refine LeO.ite ?_ ?_)
   | (with_reducible refine LeO.bind ?_ (fun _ => ?_))
   | exact ih0 _ _ _ _ _ _ _ _ _ _
   | exact ih1 _ _ _ _ _ _ _ _ _ _ _
   | exact ih2 _ _ _ _ _ _ _ _ _ _ _ _ _ _ _
   | exact ih3 _ _ _ _ _ _ _ _ _ _ _ _ _ _ _ _ _
   | exact ih4 _ _ _ _ _ _ _ _ _ _ _ _ _ _ _ _ _ _
   | exact ih5 _ _ _ _ _ _ _ _ _ _ _ _ _ _ _ _ _ _ _
   | exact emendateref21_Nullable.mono _ _ _ _ _
   | exact emendateref21_all.mono _ _ _ _
   | exact emendateref21_first.mono _ _ _ _ _
   | exact emendateref21_sets.mono _ _ _ _
   | exact LeO.none _
   | refine LeO.ite ?_ ?_
   | refine LeO.bind ?_ (fun _ => ?_)
  ·intro y0 y1 y2 y3 y4 y5 y6 y7 y8 y9 y10 y11 y12 y13 y14
   unfold emendateref21_Follow.l2
   repeat' first
   | (with_reducible exact ih0 _ _ _ _ _ _ _ _ _ _)
   | (with_reducible exact ih1 _ _ _ _ _ _ _ _ _ _ _)
   | (with_reducible exact ih2 _ _ _ _ _ _ _ _ _ _ _ _ _ _ _)
   | (with_reducible exact ih3 _ _ _ _ _ _ _ _ _ _ _ _ _ _ _ _ _)
   | (with_reducible exact ih4 _ _ _ _ _ _ _ _ _ _ _ _ _ _ _ _ _ _)
   | (with_reducible exact ih5 _ _ _ _ _ _ _ _ _ _ _ _ _ _ _ _ _ _ _)
   | (with_reducible exact emendateref21_Nullable.mono _ _ _ _ _)
   | (with_reducible exact emendateref21_all.mono _ _ _ _)
   | (with_reducible exact emendateref21_first.mono _ _ _ _ _)
   | (with_reducible exact emendateref21_sets.mono _ _ _ _)
   | (with_reducible exact LeO.refl _)
   | (with_reducible exact LeO.none _)
   | (with_reducible refine LeO.ite ?_ ?_)
   | (with_reducible refine LeO.bind ?_ (fun _ => ?_))
   | exact ih0 _ _ _ _ _ _ _ _ _ _
   | exact ih1 _ _ _ _ _ _ _ _ _ _ _
   | exact ih2 _ _ _ _ _ _ _ _ _ _ _ _ _ _ _
   | exact ih3 _ _ _ _ _ _ _ _ _ _ _ _ _ _ _ _ _
   | exact ih4 _ _ _ _ _ _ _ _ _ _ _ _ _ _ _ _ _ _
   | exact ih5 _ _ _ _ _ _ _ _ _ _ _ _ _ _ _ _ _ _ _
   | exact emendateref21_Nullable.mono _ _ _ _ _
   | exact emendateref21_all.mono _ _ _ _
   | exact emendateref21_first.mono _ _ _ _ _
   | exact emendateref21_sets.mono _ _ _ _
   | exact LeO.none _
   | refine LeO.ite ?_ ?_
   | refine LeO.bind ?_ (fun _ => ?_)
  ·intro y0 y1 y2 y3 y4 y5 y6 y7 y8 y9 y10 y11 y12 y13 y14 y15 y16
   unfold emendateref21_Follow.l3
   repeat' first
   | (with_reducible exact ih0 _ _ _ _ _ _ _ _ _ _)
   | (with_reducible exact ih1 _ _ _ _ _ _ _ _ _ _ _)
   | (with_reducible exact ih2 _ _ _ _ _ _ _ _ _ _ _ _ _ _ _)
   | (with_reducible exact ih3 _ _ _ _ _ _ _ _ _ _ _ _ _ _ _ _ _)
   | (with_reducible exact ih4 _ _ _ _ _ _ _ _ _ _ _ _ _ _ _ _ _ _)
   | (with_reducible exact ih5 _ _ _ _ _ _ _ _ _ _ _ _ _ _ _ _ _ _ _)
   | (with_reducible exact emendateref21_Nullable.mono _ _ _ _ _)
   | (with_reducible exact emendateref21_all.mono _ _ _ _)
   | (with_reducible exact emendateref21_first.mono _ _ _ _ _)
   | (with_reducible exact emendateref21_sets.mono _ _ _ _)
   | (with_reducible exact LeO.refl _)
   | (with_reducible exact LeO.none _)
   | (with_reducible refine LeO.ite ?_ ?_)
   | (with_reducible refine LeO.bind ?_ (fun _ => ?_))
   | exact ih0 _ _ _ _ _ _ _ _ _ _
   | exact ih1 _ _ _ _ _ _ _ _ _ _ _
   | exact ih2 _ _ _ _ _ _ _ _ _ _ _ _ _ _ _
   | exact ih3 _ _ _ _ _ _ _ _ _ _ _ _ _ _ _ _ _
   | exact ih4 _ _ _ _ _ _ _ _ _ _ _ _ _ _ _ _ _ _
   | exact ih5 _ _ _ _ _ _ _ _ _ _ _ _ _ _ _ _ _ _ _
   | exact emendateref21_Nullable.mono _ _ _ _ _
   | exact emendateref21_all.mono _ _ _ _
   | exact emendateref21_first.mono _ _ _ _ _
   | exact emendateref21_sets.mono _ _ _ _
   | exact LeO.none _
   | refine LeO.ite ?_ ?_
   | refine LeO.bind ?_ (fun _ => ?_)
  ·intro y0 y1 y2 y3 y4 y5 y6 y7 y8 y9 y10 y11 y12 y13 y14 y15 y16 y17
   unfold emendateref21_Follow.j4
   repeat' first
   | (with_reducible exact ih0 _ _ _ _ _ _ _ _ _ _)
   | (with_reducible exact ih1 _ _ _ _ _ _ _ _ _ _ _)
   | (with_reducible exact ih2 _ _ _ _ _ _ _ _ _ _ _ _ _ _ _)
   | (with_reducible exact ih3 _ _ _ _ _ _ _ _ _ _ _ _ _ _ _ _ _)
   | (with_reducible exact ih4 _ _ _ _ _ _ _ _ _ _ _ _ _ _ _ _ _ _)
   | (with_reducible exact ih5 _ _ _ _ _ _ _ _ _ _ _ _ _ _ _ _ _ _ _)
   | (with_reducible exact emendateref21_Nullable.mono _ _ _ _ _)
   | (with_reducible exact emendateref21_all.mono _ _ _ _)
   | (with_reducible exact emendateref21_first.mono _ _ _ _ _)
   | (with_reducible exact emendateref21_sets.mono _ _ _ _)
   | (with_reducible exact LeO.refl _)
   | (with_reducible exact LeO.none _)
   | (with_reducible refine LeO.ite ?_ ?_)
   | (with_reducible refine LeO.bind ?_ (fun _ => ?_))
   | exact ih0 _ _ _ _ _ _ _ _ _ _
   | exact ih1 _ _ _ _ _ _ _ _ _ _ _
   | exact ih2 _ _ _ _ _ _ _ _ _ _ _ _ _ _ _
   | exact ih3 _ _ _ _ _ _ _ _ _ _ _ _ _ _ _ _ _
   | exact ih4 _ _ _ _ _ _ _ _ _ _ _ _ _ _ _ _ _ _
   | exact ih5 _ _ _ _ _ _ _ _ _ _ _ _ _ _ _ _ _ _ _
   | exact emendateref21_Nullable.mono _ _ _ _ _
   | exact emendateref21_all.mono _ _ _ _
   | exact emendateref21_first.mono _ _ _ _ _
   | exact emendateref21_sets.mono _ _ _ _
   | exact LeO.none _
   | refine LeO.ite ?_ ?_
   | refine LeO.bind ?_ (fun _ => ?_)
  ·intro y0 y1 y2 y3 y4 y5 y6 y7 y8 y9 y10 y11 y12 y13 y14 y15 y16 y17 y18
   unfold emendateref21_Follow.l4
   repeat' first
   | (with_reducible exact ih0 _ _ _ _ _ _ _ _ _ _)
   | (with_reducible exact ih1 _ _ _ _ _ _ _ _ _ _ _)
   | (with_reducible exact ih2 _ _ _ _ _ _ _ _ _ _ _ _ _ _ _)
   | (with_reducible exact ih3 _ _ _ _ _ _ _ _ _ _ _ _ _ _ _ _ _)
   | (with_reducible exact ih4 _ _ _ _ _ _ _ _ _ _ _ _ _ _ _ _ _ _)
   | (with_reducible exact ih5 _ _ _ _ _ _ _ _ _ _ _ _ _ _ _ _ _ _ _)
   | (with_reducible exact emendateref21_Nullable.mono _ _ _ _ _)
   | (with_reducible exact emendateref21_all.mono _ _ _ _)
   | (with_reducible exact emendateref21_first.mono _ _ _ _ _)
   | (with_reducible exact emendateref21_sets.mono _ _ _ _)
   | (with_reducible exact LeO.refl _)
   | (with_reducible exact LeO.none _)
   | (with_reducible refine LeO.ite ?_ ?_)
   | (with_reducible refine LeO.bind ?_ (fun _ => ?_))
   | exact ih0 _ _ _ _ _ _ _ _ _ _
   | exact ih1 _ _ _ _ _ _ _ _ _ _ _
   | exact ih2 _ _ _ _ _ _ _ _ _ _ _ _ _ _ _
   | exact ih3 _ _ _ _ _ _ _ _ _ _ _ _ _ _ _ _ _
   | exact ih4 _ _ _ _ _ _ _ _ _ _ _ _ _ _ _ _ _ _
   | exact ih5 _ _ _ _ _ _ _ _ _ _ _ _ _ _ _ _ _ _ _
   | exact emendateref21_Nullable.mono _ _ _ _ _
   | exact emendateref21_all.mono _ _ _ _
   | exact emendateref21_first.mono _ _ _ _ _
   | exact emendateref21_sets.mono _ _ _ _
   | exact LeO.none _
   | refine LeO.ite ?_ ?_
   | refine LeO.bind ?_ (fun _ => ?_)
theorem emendateref21_Follow.mono : ∀ a0 a1 a2 a3 k, LeO (emendateref21_Follow.f k a0 a1 a2 a3) (emendateref21_Follow.f (k + 1) a0 a1 a2 a3) := by
 intro a0 a1 a2 a3 k
 obtain ⟨ih0, ih1, ih2, ih3, ih4, ih5⟩ := emendateref21_Follow.mono_l k
 unfold emendateref21_Follow.f
 repeat' first
   | (with_reducible exact ih0 _ _ _ _ _ _ _ _ _ _)
   | (with_reducible exact ih1 _ _ _ _ _ _ _ _ _ _ _)
   | (with_reducible exact ih2 _ _ _ _ _ _ _ _ _ _ _ _ _ _ _)
   | (with_reducible exact ih3 _ _ _ _ _ _ _ _ _ _ _ _ _ _ _ _ _)
   | (with_reducible exact ih4 _ _ _ _ _ _ _ _ _ _ _ _ _ _ _ _ _ _)
   | (with_reducible exact ih5 _ _ _ _ _ _ _ _ _ _ _ _ _ _ _ _ _ _ _)
   | (with_reducible exact emendateref21_Nullable.mono _ _ _ _ _)
   | (with_reducible exact emendateref21_all.mono _ _ _ _)
   | (with_reducible exact emendateref21_first.mono _ _ _ _ _)
   | (with_reducible exact emendateref21_sets.mono _ _ _ _)
   | (with_reducible exact LeO.refl _)
   | (with_reducible exact LeO.none _)
   | (with_reducible refine LeO.ite ?_ ?_)
   | (with_reducible refine LeO.bind ?_ (fun _ => ?_))
   | exact ih0 _ _ _ _ _ _ _ _ _ _
   | exact ih1 _ _ _ _ _ _ _ _ _ _ _
   | exact ih2 _ _ _ _ _ _ _ _ _ _ _ _ _ _ _
   | exact ih3 _ _ _ _ _ _ _ _ _ _ _ _ _ _ _ _ _
   | exact ih4 _ _ _ _ _ _ _ _ _ _ _ _ _ _ _ _ _ _
   | exact ih5 _ _ _ _ _ _ _ _ _ _ _ _ _ _ _ _ _ _ _
   | exact emendateref21_Nullable.mono _ _ _ _ _
   | exact emendateref21_all.mono _ _ _ _
   | exact emendateref21_first.mono _ _ _ _ _
   | exact emendateref21_sets.mono _ _ _ _
   | exact LeO.none _
   | refine LeO.ite ?_ ?_
   | refine LeO.bind ?_ (fun _ => ?_)
set_option maxHeartbeats 8000000 in
set_option maxRecDepth 100000 in
theorem emendateref21_Follow.calls (k : Nat) (A0_0 : Option Addr) (c0_0 : Nat) (l0_0 : List ByteArray) (A0_1 : Option Addr) (c0_1 : Nat) (l0_1 : List ByteArray) (a0_2 : Int) (A0_3 : Option Addr) (c0_3 : Nat) (l0_3 : List (S41)) (r : List (List Int)) (w : World) (hr0_0 : Kd.C Kd.string w A0_0 l0_0.length l0_0) (hc0_0 : l0_0.length ≤ c0_0) (hr0_1 : Kd.C Kd.string w A0_1 l0_1.length l0_1) (hc0_1 : l0_1.length ≤ c0_1) (hr0_3 : Kd.C k41 w A0_3 l0_3.length l0_3) (hc0_3 : l0_3.length ≤ c0_3) (h : emendateref21_Follow.f k l0_0 l0_1 a0_2 l0_3 = some r) :
  Calls Try.prog 25 #[.agg #[.slice A0_0 l0_0.length c0_0, .slice A0_1 l0_1.length c0_1, .int .i64 a0_2, .slice A0_3 l0_3.length c0_3]] w fun e w' => ∃ v0_ : Value, e = .returned (v0_) ∧ Kd.S (Kd.slice 3 (Kd.int .i64)) 39 w' w.heap.size (fun _ => True) v0_ r ∧ Below w.heap.size w w' := by
 have hu25 := Try.underlying25
 have hu41 := Try.underlying41
 have HR0_0 := Aside0.mk hr0_0
 have HC0_0 := Aside0.mk hc0_0
 clear hr0_0 hc0_0
 have HR0_1 := Aside0.mk hr0_1
 have HC0_1 := Aside0.mk hc0_1
 clear hr0_1 hc0_1
 have HR0_3 := Aside0.mk hr0_3
 have HC0_3 := Aside0.mk hc0_3
 clear hr0_3 hc0_3
 have HB := Aside0.mk (Below.refl w.heap.size w)
 have H : ((emendateref21_Nullable.f k l0_0 l0_1 a0_2 l0_3).bind fun t275 => ((emendateref21_first.f k l0_0 l0_1 a0_2 l0_3).bind fun t278 => (if 0 ≤ (wrap64 ((l0_1.length : Int) * (wrap64 ((l0_0.length : Int) + 1)))) then (if (wrap64 ((l0_1.length : Int) * (wrap64 ((l0_0.length : Int) + 1))) : Int).toNat ≤ 281474976710656 then ((some (List.replicate (wrap64 ((l0_1.length : Int) * (wrap64 ((l0_0.length : Int) + 1))) : Int).toNat false : List Bool)).bind fun y281 => (if 0 ≤ (wrap64 (a0_2 * (wrap64 ((l0_0.length : Int) + 1)))) then (if (wrap64 (a0_2 * (wrap64 ((l0_0.length : Int) + 1)))) < (y281.length : Int) then (emendateref21_Follow.l0 k (l0_0.length : Int) (wrap64 ((l0_0.length : Int) + 1)) t275 t278 (y281.set ((wrap64 (a0_2 * (wrap64 ((l0_0.length : Int) + 1)))) : Int).toNat true) true l0_0 l0_1 a0_2 l0_3) else (none)) else (none))) else (none)) else (none)))) = some r := h
 clear h
 replace H := Option.bind_eq_some_iff.mp H
 obtain ⟨t275, A20, H⟩ := H
 replace H : ((emendateref21_first.f k l0_0 l0_1 a0_2 l0_3).bind fun t278 => (if 0 ≤ (wrap64 ((l0_1.length : Int) * (wrap64 ((l0_0.length : Int) + 1)))) then (if (wrap64 ((l0_1.length : Int) * (wrap64 ((l0_0.length : Int) + 1))) : Int).toNat ≤ 281474976710656 then ((some (List.replicate (wrap64 ((l0_1.length : Int) * (wrap64 ((l0_0.length : Int) + 1))) : Int).toNat false : List Bool)).bind fun y281 => (if 0 ≤ (wrap64 (a0_2 * (wrap64 ((l0_0.length : Int) + 1)))) then (if (wrap64 (a0_2 * (wrap64 ((l0_0.length : Int) + 1)))) < (y281.length : Int) then (emendateref21_Follow.l0 k (l0_0.length : Int) (wrap64 ((l0_0.length : Int) + 1)) t275 t278 (y281.set ((wrap64 (a0_2 * (wrap64 ((l0_0.length : Int) + 1)))) : Int).toNat true) true l0_0 l0_1 a0_2 l0_3) else (none)) else (none))) else (none)) else (none))) = some r := H
 have A2 := Aside0.mk A20
 clear A20
 replace H := Option.bind_eq_some_iff.mp H
 obtain ⟨t278, A30, H⟩ := H
 replace H : (if 0 ≤ (wrap64 ((l0_1.length : Int) * (wrap64 ((l0_0.length : Int) + 1)))) then (if (wrap64 ((l0_1.length : Int) * (wrap64 ((l0_0.length : Int) + 1))) : Int).toNat ≤ 281474976710656 then ((some (List.replicate (wrap64 ((l0_1.length : Int) * (wrap64 ((l0_0.length : Int) + 1))) : Int).toNat false : List Bool)).bind fun y281 => (if 0 ≤ (wrap64 (a0_2 * (wrap64 ((l0_0.length : Int) + 1)))) then (if (wrap64 (a0_2 * (wrap64 ((l0_0.length : Int) + 1)))) < (y281.length : Int) then (emendateref21_Follow.l0 k (l0_0.length : Int) (wrap64 ((l0_0.length : Int) + 1)) t275 t278 (y281.set ((wrap64 (a0_2 * (wrap64 ((l0_0.length : Int) + 1)))) : Int).toNat true) true l0_0 l0_1 a0_2 l0_3) else (none)) else (none))) else (none)) else (none)) = some r := H
 have A3 := Aside0.mk A30
 clear A30
 obtain ⟨ji4, hji4⟩ : ∃ j_ : Int, (wrap64 ((l0_1.length : Int) * (wrap64 ((l0_0.length : Int) + 1)))) = j_ := ⟨_, rfl⟩
 replace H : (if 0 ≤ (ji4) then (if (ji4 : Int).toNat ≤ 281474976710656 then ((some (List.replicate (ji4 : Int).toNat false : List Bool)).bind fun y281 => (if 0 ≤ (wrap64 (a0_2 * (wrap64 ((l0_0.length : Int) + 1)))) then (if (wrap64 (a0_2 * (wrap64 ((l0_0.length : Int) + 1)))) < (y281.length : Int) then (emendateref21_Follow.l0 k (l0_0.length : Int) (wrap64 ((l0_0.length : Int) + 1)) t275 t278 (y281.set ((wrap64 (a0_2 * (wrap64 ((l0_0.length : Int) + 1)))) : Int).toNat true) true l0_0 l0_1 a0_2 l0_3) else (none)) else (none))) else (none)) else (none)) = some r := by first | (rw [hji4] at H; exact H) | (simp only [hji4] at H ⊢; exact H)
 (try rw [hji4] at A2)
 (try rw [hji4] at A3)
 have hji4w : (IntKind.i64.wrap ((l0_1.length : Int) * (wrap64 ((l0_0.length : Int) + 1)))) = ji4 := (i64_w _).trans hji4
 by_cases c5 : 0 ≤ (ji4)
 ·rw [if_pos c5] at H
  have c5b0 := eq_true c5
  have c5b1 : decide (0 ≤ (ji4)) = true := decide_eq_true c5
  clear c5
  by_cases c6 : (ji4 : Int).toNat ≤ 281474976710656
  ·rw [if_pos c6] at H
   have c6b0 := eq_true c6
   have c6b1 : decide ((ji4 : Int).toNat ≤ 281474976710656) = true := decide_eq_true c6
   clear c6
   obtain ⟨y281, hy281⟩ : ∃ y_ : List Bool, y_ = (List.replicate (ji4 : Int).toNat false) := ⟨_, rfl⟩
   replace H : (if 0 ≤ (wrap64 (a0_2 * (wrap64 ((l0_0.length : Int) + 1)))) then (if (wrap64 (a0_2 * (wrap64 ((l0_0.length : Int) + 1)))) < (y281.length : Int) then (emendateref21_Follow.l0 k (l0_0.length : Int) (wrap64 ((l0_0.length : Int) + 1)) t275 t278 (y281.set ((wrap64 (a0_2 * (wrap64 ((l0_0.length : Int) + 1)))) : Int).toNat true) true l0_0 l0_1 a0_2 l0_3) else (none)) else (none)) = some r := by first | (rw [hy281]; with_reducible exact H) | (have H2_ := (Option.bind_some _ _).symm.trans H; rw [hy281]; with_reducible exact H2_) | (have H2_ := (Option.bind_some _ _).symm.trans H; with_reducible exact H2_) | with_reducible exact H | (rw [hy281]; exact H) | exact H
   have Ny281 := Aside0.mk hy281
   clear hy281
   obtain ⟨ji7, hji7⟩ : ∃ j_ : Int, (wrap64 (a0_2 * (wrap64 ((l0_0.length : Int) + 1)))) = j_ := ⟨_, rfl⟩
   replace H : (if 0 ≤ (ji7) then (if (ji7) < (y281.length : Int) then (emendateref21_Follow.l0 k (l0_0.length : Int) (wrap64 ((l0_0.length : Int) + 1)) t275 t278 (y281.set ((ji7) : Int).toNat true) true l0_0 l0_1 a0_2 l0_3) else (none)) else (none)) = some r := by first | (rw [hji7] at H; exact H) | (simp only [hji7] at H ⊢; exact H)
   (try rw [hji7] at A2)
   (try rw [hji7] at A3)
   have hji7w : (IntKind.i64.wrap (a0_2 * (wrap64 ((l0_0.length : Int) + 1)))) = ji7 := (i64_w _).trans hji7
   by_cases c8 : 0 ≤ (ji7)
   ·rw [if_pos c8] at H
    have c8b0 : decide (0 ≤ (ji7)) = true := decide_eq_true c8
    clear c8
    by_cases c9 : (ji7) < (y281.length : Int)
    ·rw [if_pos c9] at H
     have c9b0 : decide ((ji7) < (y281.length : Int)) = true := decide_eq_true c9
     clear c9
     obtain ⟨y284, hy284⟩ : ∃ y_ : List Bool, y_ = (y281.set ((ji7) : Int).toNat true) := ⟨_, rfl⟩
     replace H : (emendateref21_Follow.l0 k (l0_0.length : Int) (wrap64 ((l0_0.length : Int) + 1)) t275 t278 y284 true l0_0 l0_1 a0_2 l0_3) = some r := by first | (rw [hy284]; with_reducible exact H) | (have H2_ := (Option.bind_some _ _).symm.trans H; rw [hy284]; with_reducible exact H2_) | (have H2_ := (Option.bind_some _ _).symm.trans H; with_reducible exact H2_) | with_reducible exact H | (rw [hy284]; exact H) | exact H
     have Ny284 := Aside0.mk hy284
     clear hy284
     have H' := Aside0.mk H
     clear H
     go_enter Try.func25, Try.ntmps25
     go_wp2_with (first | ((with_reducible refine gate_dst (N := 1) rfl ?_); refine box_event ?hg (N := 1) ?hd (cs := #[.slice A0_0 l0_0.length c0_0, .slice A0_1 l0_1.length c0_1, .int .i64 a0_2, .slice A0_3 l0_3.length c0_3]) (t := 25) ?hr ?_; (case hd => rfl); (case hg => rfl); (case hr => first | (go_simp; done) | (go_simp; rfl)); intro gb274 hg w11 hbox hb; have n0_ := Aside0.mk (below_step (by repeat (first | (with_reducible first | exact HB.out | apply below_alloc | apply pw_below_drewN | apply below_drew1) | exact HB.out)) hb); have n1_ := Aside0.mk (hbox); have n2_ := Aside0.mk ((by rw [hg]; exact (below_size (by repeat (first | (with_reducible first | exact HB.out | apply below_alloc | apply pw_below_drewN | apply below_drew1) | exact HB.out))) : w.heap.size ≤ gb274)); have n3_ := Aside0.mk ((by rw [hg]; exact (below_size (by repeat (first | (with_reducible first | exact HB.out | apply below_alloc | apply pw_below_drewN | apply below_drew1) | exact HB.out))) : w.heap.size ≤ gb274)); clear HB; have HB := n0_; have BK274 := n1_; have GW274 := n2_; have GE274 := n3_; clear n0_ n1_ n2_ n3_; clear hb hbox hg; have hcz12_0 : w11.cell? ⟨gb274, 0, none⟩ = some (.slice A0_0 l0_0.length c0_0) := (blk_cell BK274.out 0).trans rfl; have hcz12_1 : w11.cell? ⟨gb274, 1, none⟩ = some (.slice A0_1 l0_1.length c0_1) := (blk_cell BK274.out 1).trans rfl; have hcz12_2 : w11.cell? ⟨gb274, 2, none⟩ = some (.int .i64 a0_2) := (blk_cell BK274.out 2).trans rfl; have hcz12_3 : w11.cell? ⟨gb274, 3, none⟩ = some (.slice A0_3 l0_3.length c0_3) := (blk_cell BK274.out 3).trans rfl; have hfz12_0 := blk_frozen BK274.out 0; have hfz12_1 := blk_frozen BK274.out 1; have hfz12_2 := blk_frozen BK274.out 2; have hfz12_3 := blk_frozen BK274.out 3) | ((with_reducible refine gate_callee (f := 14) rfl ?_); refine goesL_ (some 22) rfl rfl Try.func14 (by kernel_rfl) rfl #[.agg #[.slice A0_0 l0_0.length c0_0, .slice A0_1 l0_1.length c0_1, .int .i64 a0_2, .slice A0_3 l0_3.length c0_3]] rfl (by (try simp only [List.map_toArray, List.map_cons, List.map_nil]); first | done | rfl | (simp only [List.length_drop, List.length_take]; rfl)) ?_; (with_reducible refine (emendateref21_Nullable.calls k _ _ l0_0 _ _ l0_1 a0_2 _ _ l0_3 t275 _ ?side1 ?side2 ?side3 ?side4 ?side5 ?side6 A2.out).mono ?_); (case side1 => repeat (first | exact (Kd.C_below HR0_0.out HB.out) | (with_reducible refine Kd.C_alloc ?_ _) | (with_reducible refine Kd.C_drewN ?_ _) | (with_reducible refine Kd.C_drew ?_))); (case side2 => exact HC0_0.out); (case side3 => repeat (first | exact (Kd.C_below HR0_1.out HB.out) | (with_reducible refine Kd.C_alloc ?_ _) | (with_reducible refine Kd.C_drewN ?_ _) | (with_reducible refine Kd.C_drew ?_))); (case side4 => exact HC0_1.out); (case side5 => repeat (first | exact (Kd.C_below HR0_3.out HB.out) | (with_reducible refine Kd.C_alloc ?_ _) | (with_reducible refine Kd.C_drewN ?_ _) | (with_reducible refine Kd.C_drew ?_))); (case side6 => exact HC0_3.out); rintro e w13 ⟨v276, rfl, ho0, hb⟩; refine ⟨_, rfl, ?_⟩; have n0_ := Aside0.mk (Kd.R_lower ho0 (below_size (by repeat (first | (with_reducible first | exact HB.out | apply below_alloc | apply pw_below_drewN | apply below_drew1 | refine below_set ?_ GE274.out) | exact HB.out)))); have n1_ := Aside0.mk (blk_below (g := gb274) (o := .cells #[.slice A0_0 l0_0.length c0_0, .slice A0_1 l0_1.length c0_1, .int .i64 a0_2, .slice A0_3 l0_3.length c0_3] 25 (0, 0)) (by (with_reducible repeat (first | refine blk_drewN ?_ _ | refine blk_drew ?_ | refine blk_alloc ?_ _)); exact BK274.out) hb); have n2_ := Aside0.mk (below_step (by repeat (first | (with_reducible first | exact HB.out | apply below_alloc | apply pw_below_drewN | apply below_drew1 | refine below_set ?_ GE274.out) | exact HB.out)) hb); clear BK274; clear HB; have HO277 := n0_; have BK274 := n1_; have HB := n2_; clear n0_ n1_ n2_; (try clear hb); (try clear hb2); (try clear hk); (try clear hi); (try clear ho0); have hcz14_0 : w13.cell? ⟨gb274, 0, none⟩ = some (.slice A0_0 l0_0.length c0_0) := (blk_cell BK274.out 0).trans rfl; have hcz14_1 : w13.cell? ⟨gb274, 1, none⟩ = some (.slice A0_1 l0_1.length c0_1) := (blk_cell BK274.out 1).trans rfl; have hcz14_2 : w13.cell? ⟨gb274, 2, none⟩ = some (.int .i64 a0_2) := (blk_cell BK274.out 2).trans rfl; have hcz14_3 : w13.cell? ⟨gb274, 3, none⟩ = some (.slice A0_3 l0_3.length c0_3) := (blk_cell BK274.out 3).trans rfl; have hfz14_0 := blk_frozen BK274.out 0; have hfz14_1 := blk_frozen BK274.out 1; have hfz14_2 := blk_frozen BK274.out 2; have hfz14_3 := blk_frozen BK274.out 3) | ((with_reducible refine gate_callee (f := 44) rfl ?_); refine goesL_ (some 24) rfl rfl Try.func44 (by kernel_rfl) rfl #[.agg #[.slice A0_0 l0_0.length c0_0, .slice A0_1 l0_1.length c0_1, .int .i64 a0_2, .slice A0_3 l0_3.length c0_3]] rfl (by (try simp only [List.map_toArray, List.map_cons, List.map_nil]); first | done | rfl | (simp only [List.length_drop, List.length_take]; rfl)) ?_; (with_reducible refine (emendateref21_first.calls k _ _ l0_0 _ _ l0_1 a0_2 _ _ l0_3 t278 _ ?side1 ?side2 ?side3 ?side4 ?side5 ?side6 A3.out).mono ?_); (case side1 => repeat (first | exact (Kd.C_below HR0_0.out HB.out) | (with_reducible refine Kd.C_alloc ?_ _) | (with_reducible refine Kd.C_drewN ?_ _) | (with_reducible refine Kd.C_drew ?_))); (case side2 => exact HC0_0.out); (case side3 => repeat (first | exact (Kd.C_below HR0_1.out HB.out) | (with_reducible refine Kd.C_alloc ?_ _) | (with_reducible refine Kd.C_drewN ?_ _) | (with_reducible refine Kd.C_drew ?_))); (case side4 => exact HC0_1.out); (case side5 => repeat (first | exact (Kd.C_below HR0_3.out HB.out) | (with_reducible refine Kd.C_alloc ?_ _) | (with_reducible refine Kd.C_drewN ?_ _) | (with_reducible refine Kd.C_drew ?_))); (case side6 => exact HC0_3.out); rintro e w15 ⟨v279, rfl, ho0, hb⟩; refine ⟨_, rfl, ?_⟩; have n0_ := Aside0.mk (Kd.R_elder' (by (with_reducible repeat (first | apply Kd.R_alloc | apply Kd.R_drewN | apply Kd.R_drew)); exact HO277.out) (Kd.R_base ho0) hb); have n1_ := Aside0.mk (Kd.R_lower (Kd.R_new' ho0 (Kd.R_lt (by (with_reducible repeat (first | apply Kd.R_alloc | apply Kd.R_drewN | apply Kd.R_drew)); exact HO277.out))) (below_size (by repeat (first | (with_reducible first | exact HB.out | apply below_alloc | apply pw_below_drewN | apply below_drew1 | refine below_set ?_ GE274.out) | exact HB.out)))); have n2_ := Aside0.mk (blk_below (g := gb274) (o := .cells #[.slice A0_0 l0_0.length c0_0, .slice A0_1 l0_1.length c0_1, .int .i64 a0_2, .slice A0_3 l0_3.length c0_3] 25 (0, 0)) (by (with_reducible repeat (first | refine blk_drewN ?_ _ | refine blk_drew ?_ | refine blk_alloc ?_ _)); exact BK274.out) hb); have n3_ := Aside0.mk (below_step (by repeat (first | (with_reducible first | exact HB.out | apply below_alloc | apply pw_below_drewN | apply below_drew1 | refine below_set ?_ GE274.out) | exact HB.out)) hb); clear HO277; clear BK274; clear HB; have HO277 := n0_; have HO280 := n1_; have BK274 := n2_; have HB := n3_; clear n0_ n1_ n2_ n3_; (try clear hb); (try clear hb2); (try clear hk); (try clear hi); (try clear ho0); have hcz16_0 : w15.cell? ⟨gb274, 0, none⟩ = some (.slice A0_0 l0_0.length c0_0) := (blk_cell BK274.out 0).trans rfl; have hcz16_1 : w15.cell? ⟨gb274, 1, none⟩ = some (.slice A0_1 l0_1.length c0_1) := (blk_cell BK274.out 1).trans rfl; have hcz16_2 : w15.cell? ⟨gb274, 2, none⟩ = some (.int .i64 a0_2) := (blk_cell BK274.out 2).trans rfl; have hcz16_3 : w15.cell? ⟨gb274, 3, none⟩ = some (.slice A0_3 l0_3.length c0_3) := (blk_cell BK274.out 3).trans rfl; have hfz16_0 := blk_frozen BK274.out 0; have hfz16_1 := blk_frozen BK274.out 1; have hfz16_2 := blk_frozen BK274.out 2; have hfz16_3 := blk_frozen BK274.out 3) | ((with_reducible refine gate_dst (N := 30) rfl ?_); refine Kd.R_make Kd.bool _ 4 rfl (N := 30) rfl 29 _ _ rfl ji4 rfl rfl Try.underlying29 (.bool false) 1 info4 rfl (by decide) (by omega) false (ok := fun _ => True) (okp := fun _ => True) rfl (fun _ hk => hk) trivial (of_decide_eq_true (by first | (with_reducible assumption) | assumption)) (Nat.le_trans (Nat.mul_le_mul_right _ (of_decide_eq_true (by first | (with_reducible assumption) | assumption) : ji4.toNat ≤ 281474976710656)) (by omega)) (Below.refl _ _) (Nat.le_refl _) ?_; intro v282 w17 ho18 hb hg_ hnew_; clear hg_ hnew_; (first | rw [← Ny281.out] at ho18 | (simp only [Int.reduceToNat] at ho18; rw [← Ny281.out] at ho18)); have n0_ := Aside0.mk (Kd.R_elder' (by (with_reducible repeat (first | apply Kd.R_alloc | apply Kd.R_drewN | apply Kd.R_drew)); exact HO277.out) (Kd.R_base ho18) hb); have n1_ := Aside0.mk (Kd.R_elder' (by (with_reducible repeat (first | apply Kd.R_alloc | apply Kd.R_drewN | apply Kd.R_drew)); exact HO280.out) (Kd.R_base ho18) hb); have n2_ := Aside0.mk (Kd.R_lower (Kd.R_new' (Kd.R_new' ho18 (Kd.R_lt (by (with_reducible repeat (first | apply Kd.R_alloc | apply Kd.R_drewN | apply Kd.R_drew)); exact HO277.out))) (Kd.R_lt (by (with_reducible repeat (first | apply Kd.R_alloc | apply Kd.R_drewN | apply Kd.R_drew)); exact HO280.out))) (below_size (by repeat (first | (with_reducible first | exact HB.out | apply below_alloc | apply pw_below_drewN | apply below_drew1 | refine below_set ?_ GE274.out) | exact HB.out)))); have n3_ := Aside0.mk (blk_below (g := gb274) (o := .cells #[.slice A0_0 l0_0.length c0_0, .slice A0_1 l0_1.length c0_1, .int .i64 a0_2, .slice A0_3 l0_3.length c0_3] 25 (0, 0)) (by (with_reducible repeat (first | refine blk_drewN ?_ _ | refine blk_drew ?_ | refine blk_alloc ?_ _)); exact BK274.out) hb); have n4_ := Aside0.mk (below_step (by repeat (first | (with_reducible first | exact HB.out | apply below_alloc | apply pw_below_drewN | apply below_drew1 | refine below_set ?_ GE274.out) | exact HB.out)) hb); clear HO277; clear HO280; clear BK274; clear HB; have HO277 := n0_; have HO280 := n1_; have HO283 := n2_; have BK274 := n3_; have HB := n4_; clear n0_ n1_ n2_ n3_ n4_; clear hb ho18; have hcz19_0 : w17.cell? ⟨gb274, 0, none⟩ = some (.slice A0_0 l0_0.length c0_0) := (blk_cell BK274.out 0).trans rfl; have hcz19_1 : w17.cell? ⟨gb274, 1, none⟩ = some (.slice A0_1 l0_1.length c0_1) := (blk_cell BK274.out 1).trans rfl; have hcz19_2 : w17.cell? ⟨gb274, 2, none⟩ = some (.int .i64 a0_2) := (blk_cell BK274.out 2).trans rfl; have hcz19_3 : w17.cell? ⟨gb274, 3, none⟩ = some (.slice A0_3 l0_3.length c0_3) := (blk_cell BK274.out 3).trans rfl; have hfz19_0 := blk_frozen BK274.out 0; have hfz19_1 := blk_frozen BK274.out 1; have hfz19_2 := blk_frozen BK274.out 2; have hfz19_3 := blk_frozen BK274.out 3; have p10 : 0 ≤ ((ji7) : Int) := of_decide_eq_true (by first | (with_reducible assumption) | assumption); have q10 : ((ji7) : Int) < ((y281.length : Int) : Int) := of_decide_eq_true (by first | (with_reducible assumption) | assumption); obtain ⟨go10, co10, eo10, gb10, gl10, cl10, HG10⟩ := Kd.R_form HO283.out (by omega); (first | cases eo10 | (injection eo10 with ea_ en_ ec_; (first | subst ea_ | (injection ea_ with ea_; subst ea_)); subst ec_; clear en_)); have GB10 := Aside0.mk gb10; have GG10 := Aside0.mk HG10; clear gb10 gl10 HG10; obtain ⟨hx10_0, hf10_0⟩ := Kd.R_celln false HO283.out ((ji7) : Int) p10 q10; replace p10 := eq_true p10; replace q10 := eq_true q10; have n_ := Aside0.mk (Kd.R_mono (ok' := (fun k_ => some k_ ≠ (v276 : Value).ownBlock ∧ some k_ ≠ (v279 : Value).ownBlock)) HO283.out (fun k_ hk => ⟨hk.1.2, hk.2⟩)); clear HO283; have HO283 := n_; clear n_; obtain ⟨hy20_, hz20_⟩ := Kd.R_celln false HO283.out ((ji7) : Int) (of_decide_eq_true (by first | (with_reducible assumption) | assumption)) (of_decide_eq_true (by first | (with_reducible assumption) | assumption)); have HP20 := Kd.R_putg HO283.out ((ji7) : Int) true) | ((with_reducible refine gate_store (t := 4) (p := 36) rfl ?_); refine store_event (t := 4) (p := 36) (v := ?vo_w21) (w1 := (w17.setCell ⟨go10, ((ji7) : Int).toNat, none⟩ (.bool true))) ?hg ?ho ?hn ?hr ?_; (case ho => rfl); (case hg => rfl); (case hn => rfl); (case hr => first | (go_simp; done) | (go_simp; rfl)); intro w21 hw; have hg : w17.grownBy w21 (some go10) := (by rw [hw]; exact HP20.2); have hp_ : Kd.R Kd.bool 4 w21 w.heap.size (fun k_ => some k_ ≠ (v276 : Value).ownBlock ∧ some k_ ≠ (v279 : Value).ownBlock) (.slice (some ⟨go10, 0, none⟩) y281.length co10) y284 := (by rw [hw, Ny284.out]; exact HP20.1); clear HP20; have n0_ := Aside0.mk (blk_grown (g := gb274) (o := .cells #[.slice A0_0 l0_0.length c0_0, .slice A0_1 l0_1.length c0_1, .int .i64 a0_2, .slice A0_3 l0_3.length c0_3] 25 (0, 0)) (by (with_reducible repeat (first | refine blk_drewN ?_ _ | refine blk_drew ?_ | refine blk_alloc ?_ _)); exact BK274.out) hg (Kd.R_ne HO283.out BK274.out (by decide))); have n1_ := Aside0.mk (Kd.R_after (v := (.slice (some ⟨go10, 0, none⟩) y281.length co10)) (v1 := (.slice (some ⟨go10, 0, none⟩) y281.length co10)) (ok := (fun k_ => some k_ ≠ (v279 : Value).ownBlock)) (by (with_reducible repeat (first | apply Kd.R_alloc | apply Kd.R_drewN | apply Kd.R_drew)); exact Kd.R_mono HO277.out (fun _ hk => ⟨hk.1.2, hk.2⟩)) hg (.inl rfl)); have n2_ := Aside0.mk (Kd.R_after (v := (.slice (some ⟨go10, 0, none⟩) y281.length co10)) (v1 := (.slice (some ⟨go10, 0, none⟩) y281.length co10)) (ok := (fun k_ => some k_ ≠ (v276 : Value).ownBlock)) (by (with_reducible repeat (first | apply Kd.R_alloc | apply Kd.R_drewN | apply Kd.R_drew)); exact Kd.R_mono HO280.out (fun _ hk => ⟨hk.1.2, hk.2⟩)) hg (.inl rfl)); have n3_ := Aside0.mk (hp_); have n4_ := Aside0.mk ((by rw [hw]; exact below_set (HB.out) GB10.out : Below w.heap.size w w21)); clear BK274; clear HO277; clear HO280; clear HO283; clear HB; have BK274 := n0_; have HO277 := n1_; have HO280 := n2_; have HO283 := n3_; have HB := n4_; clear n0_ n1_ n2_ n3_ n4_; clear hg hw hp_))
     go_loopg [8] k (fun kq v8 w' => ∃ (x7_1 : List Bool) (x8_1 : Bool), v8 = .bool x8_1 ∧ Aside0 (emendateref21_Follow.l0 kq (l0_0.length : Int) (wrap64 ((l0_0.length : Int) + 1)) t275 t278 x7_1 x8_1 l0_0 l0_1 a0_2 l0_3 = some r) ∧ Aside0 (kq ≤ k) ∧ Aside0 (Kd.R Kd.bool 4 w' w.heap.size (fun k_ => some k_ ≠ (v279 : Value).ownBlock ∧ some k_ ≠ ((.slice (some ⟨go10, 0, none⟩) y281.length co10) : Value).ownBlock) v276 t275) ∧ Aside0 (Kd.R Kd.bool 4 w' w.heap.size (fun k_ => some k_ ≠ (v276 : Value).ownBlock ∧ some k_ ≠ ((.slice (some ⟨go10, 0, none⟩) y281.length co10) : Value).ownBlock) v279 t278) ∧ Aside0 (Kd.R Kd.bool 4 w' w.heap.size (fun k_ => some k_ ≠ (v276 : Value).ownBlock ∧ some k_ ≠ (v279 : Value).ownBlock) (.slice (some ⟨go10, 0, none⟩) y281.length co10) x7_1) ∧ Aside0 (w'.heap[gb274]? = some (.cells #[(.slice A0_0 l0_0.length c0_0), (.slice A0_1 l0_1.length c0_1), .int .i64 a0_2, (.slice A0_3 l0_3.length c0_3)] 25 (0, 0))) ∧ Aside0 (Below w.heap.size w w'))
     case atStart => exact ⟨(y284), (true), (by first | rfl | (simp; done) | (simp [*]; done)), H', ⟨Nat.le_refl _⟩, ⟨by (with_reducible repeat (first | apply Kd.R_alloc | apply Kd.R_drewN | apply Kd.R_drew)); exact HO277.out⟩, ⟨by (with_reducible repeat (first | apply Kd.R_alloc | apply Kd.R_drewN | apply Kd.R_drew)); exact HO280.out⟩, ⟨by (with_reducible repeat (first | apply Kd.R_alloc | apply Kd.R_drewN | apply Kd.R_drew)); exact HO283.out⟩, ⟨by (with_reducible repeat (first | refine blk_drewN ?_ _ | refine blk_drew ?_ | refine blk_alloc ?_ _)); exact BK274.out⟩, ⟨by repeat (first | (with_reducible first | exact HB.out | apply below_alloc | apply pw_below_drewN | apply below_drew1 | refine below_set ?_ GE274.out) | exact HB.out)⟩⟩
     case round => as_aux_lemma =>
      clear H'
      try clear c1
      try clear p1
      try clear q1
      try clear hx1
      try clear hf1
      try clear c2
      try clear p2
      try clear c4
      try clear c5
      try clear c5b0
      try clear c5b1
      try clear c6
      try clear c6b0
      try clear c6b1
      try clear p6
      try clear c8
      try clear c8b0
      try clear c9
      try clear c9b0
      try clear p10
      try clear q10
      try clear hx10
      try clear hf10
      try clear c14
      try clear hcz12_0
      try clear hcz12_1
      try clear hcz12_2
      try clear hcz12_3
      try clear hcz14_0
      try clear hcz14_1
      try clear hcz14_2
      try clear hcz14_3
      try clear hcz16_0
      try clear hcz16_1
      try clear hcz16_2
      try clear hcz16_3
      try clear hcz19_0
      try clear hcz19_1
      try clear hcz19_2
      try clear hcz19_3
      try clear hfz12_0
      try clear hfz12_1
      try clear hfz12_2
      try clear hfz12_3
      try clear hfz14_0
      try clear hfz14_1
      try clear hfz14_2
      try clear hfz14_3
      try clear hfz16_0
      try clear hfz16_1
      try clear hfz16_2
      try clear hfz16_3
      try clear hfz19_0
      try clear hfz19_1
      try clear hfz19_2
      try clear hfz19_3
      try clear hx10_0
      try clear p10
      try clear q10
      obtain ⟨x7_1, x8_1, rfl, HA, HK1, HO_5, HO_6, HO_7, BK274, HB⟩ := hrel
      have hl7_1 := (Kd.R_reads' HO_7.out).1
      rw [hl7_1] at HO_7
      (try simp only [hl7_1])
      (try simp only [hl7_1] at BK274)
      (try simp only [hl7_1] at HO_5)
      (try simp only [hl7_1] at HO_6)
      cases gk with
      | zero => exact absurd HA.out (by simp [emendateref21_Follow.l0])
      | succ k1 =>
       have H := HA.out
       clear HA
       simp only [emendateref21_Follow.l0] at H
       by_cases c22 : x8_1 = true
       ·subst c22
        have H1 : (emendateref21_Follow.l1 k1 (l0_0.length : Int) (wrap64 ((l0_0.length : Int) + 1)) t275 t278 x7_1 false 0 l0_0 l0_1 a0_2 l0_3) = some r := by rw [if_pos rfl] at H; exact H
        clear H
        have H := H1
        clear H1
        have H' := Aside0.mk H
        clear H
        go_wp2
        go_loopg [8, 9] k1 (fun kq v8 v9 w' => ∃ (x7_2 : List Bool) (x8_2 : Bool) (x9_2 : Int), v8 = .bool x8_2 ∧ v9 = .int .i64 x9_2 ∧ Aside0 (emendateref21_Follow.l1 kq (l0_0.length : Int) (wrap64 ((l0_0.length : Int) + 1)) t275 t278 x7_2 x8_2 x9_2 l0_0 l0_1 a0_2 l0_3 = some r) ∧ Aside0 (kq ≤ k1) ∧ Aside0 (Kd.R Kd.bool 4 w' w.heap.size (fun k_ => some k_ ≠ (v279 : Value).ownBlock ∧ some k_ ≠ ((.slice (some ⟨go10, 0, none⟩) x7_1.length co10) : Value).ownBlock) v276 t275) ∧ Aside0 (Kd.R Kd.bool 4 w' w.heap.size (fun k_ => some k_ ≠ (v276 : Value).ownBlock ∧ some k_ ≠ ((.slice (some ⟨go10, 0, none⟩) x7_1.length co10) : Value).ownBlock) v279 t278) ∧ Aside0 (Kd.R Kd.bool 4 w' w.heap.size (fun k_ => some k_ ≠ (v276 : Value).ownBlock ∧ some k_ ≠ (v279 : Value).ownBlock) (.slice (some ⟨go10, 0, none⟩) x7_1.length co10) x7_2) ∧ Aside0 (w'.heap[gb274]? = some (.cells #[(.slice A0_0 l0_0.length c0_0), (.slice A0_1 l0_1.length c0_1), .int .i64 a0_2, (.slice A0_3 l0_3.length c0_3)] 25 (0, 0))) ∧ Aside0 (Below w.heap.size w w'))
        case atStart => exact ⟨(x7_1), (false), (0), (by first | rfl | (simp; done) | (simp [*]; done)), (by first | rfl | (simp; done) | (simp [*]; done)), H', ⟨Nat.le_refl _⟩, ⟨by (try simp only [hl7_1]); (with_reducible repeat (first | apply Kd.R_alloc | apply Kd.R_drewN | apply Kd.R_drew)); exact HO_5.out⟩, ⟨by (try simp only [hl7_1]); (with_reducible repeat (first | apply Kd.R_alloc | apply Kd.R_drewN | apply Kd.R_drew)); exact HO_6.out⟩, ⟨by (try simp only [hl7_1]); (with_reducible repeat (first | apply Kd.R_alloc | apply Kd.R_drewN | apply Kd.R_drew)); exact HO_7.out⟩, ⟨by (try simp only [hl7_1]); (with_reducible repeat (first | refine blk_drewN ?_ _ | refine blk_drew ?_ | refine blk_alloc ?_ _)); exact BK274.out⟩, ⟨by repeat (first | (with_reducible first | exact HB.out | apply below_alloc | apply pw_below_drewN | apply below_drew1 | refine below_set ?_ GE274.out) | exact HB.out)⟩⟩
        case round => as_aux_lemma =>
         clear H'
         try clear c1
         try clear p1
         try clear q1
         try clear hx1
         try clear hf1
         try clear c2
         try clear p2
         try clear c4
         try clear c5
         try clear c5b0
         try clear c5b1
         try clear c6
         try clear c6b0
         try clear c6b1
         try clear p6
         try clear c8
         try clear c8b0
         try clear c9
         try clear c9b0
         try clear p10
         try clear q10
         try clear hx10
         try clear hf10
         try clear c14
         try clear c22
         try clear hcz12_0
         try clear hcz12_1
         try clear hcz12_2
         try clear hcz12_3
         try clear hcz14_0
         try clear hcz14_1
         try clear hcz14_2
         try clear hcz14_3
         try clear hcz16_0
         try clear hcz16_1
         try clear hcz16_2
         try clear hcz16_3
         try clear hcz19_0
         try clear hcz19_1
         try clear hcz19_2
         try clear hcz19_3
         try clear hfz12_0
         try clear hfz12_1
         try clear hfz12_2
         try clear hfz12_3
         try clear hfz14_0
         try clear hfz14_1
         try clear hfz14_2
         try clear hfz14_3
         try clear hfz16_0
         try clear hfz16_1
         try clear hfz16_2
         try clear hfz16_3
         try clear hfz19_0
         try clear hfz19_1
         try clear hfz19_2
         try clear hfz19_3
         try clear hx10_0
         try clear p1
         try clear p10
         try clear p2
         try clear p6
         try clear q1
         try clear q10
         obtain ⟨x7_2, x8_2, x9_2, rfl, rfl, HA, HK2, HO_5, HO_6, HO_7, BK274, HB⟩ := hrel
         have hl7_2 := (Kd.R_reads' HO_7.out).1
         rw [hl7_2] at HO_7
         (try simp only [hl7_2])
         (try simp only [hl7_2] at BK274)
         (try simp only [hl7_2] at HO_5)
         (try simp only [hl7_2] at HO_6)
         cases gk with
         | zero => exact absurd HA.out (by simp [emendateref21_Follow.l1])
         | succ k2 =>
          have H := HA.out
          clear HA
          simp only [emendateref21_Follow.l1] at H
          by_cases c23 : x9_2 < (l0_3.length : Int)
          ·rw [if_pos c23] at H
           have c23b0 : decide (x9_2 < (l0_3.length : Int)) = true := decide_eq_true c23
           clear c23
           by_cases c24 : 0 ≤ x9_2
           ·rw [if_pos c24] at H
            have c24b0 : decide (0 ≤ x9_2) = true := decide_eq_true c24
            clear c24
            have H' := Aside0.mk H
            clear H
            have hcz25_0 : wr.cell? ⟨gb274, 0, none⟩ = some (.slice A0_0 l0_0.length c0_0) := (blk_cell BK274.out 0).trans rfl
            have hcz25_1 : wr.cell? ⟨gb274, 1, none⟩ = some (.slice A0_1 l0_1.length c0_1) := (blk_cell BK274.out 1).trans rfl
            have hcz25_2 : wr.cell? ⟨gb274, 2, none⟩ = some (.int .i64 a0_2) := (blk_cell BK274.out 2).trans rfl
            have hcz25_3 : wr.cell? ⟨gb274, 3, none⟩ = some (.slice A0_3 l0_3.length c0_3) := (blk_cell BK274.out 3).trans rfl
            have hfz25_0 := blk_frozen BK274.out 0
            have hfz25_1 := blk_frozen BK274.out 1
            have hfz25_2 := blk_frozen BK274.out 2
            have hfz25_3 := blk_frozen BK274.out 3
            have p288 : 0 ≤ (x9_2 : Int) := of_decide_eq_true (by first | (with_reducible assumption) | assumption)
            have q288 : x9_2 < (l0_3.length : Int) := of_decide_eq_true (by first | (with_reducible assumption) | assumption)
            obtain ⟨ad288, A288_1, c288_1, e288, hx288_0, hx288_1, hx288_2, hl288_1, hi288_1⟩ := at_T41 HR0_3.out x9_2 p288 q288
            cases e288
            replace hx288_0 := (HB.out.cell (World.block_lt_of_cell? w _ hx288_0)).trans hx288_0
            replace hx288_1 := (HB.out.cell (World.block_lt_of_cell? w _ hx288_1)).trans hx288_1
            replace hx288_2 := (HB.out.cell (World.block_lt_of_cell? w _ hx288_2)).trans hx288_2
            have HR288_1 := Aside0.mk hi288_1
            have HC288_1 := Aside0.mk hl288_1
            clear hi288_1 hl288_1
            replace p288 := eq_true p288
            replace q288 := eq_true q288
            go_wp2_with (first | ((with_reducible refine gate_dst (N := 10) rfl ?_); refine box_event ?hg (N := 10) ?hd (cs := #[.int .i64 0, .slice none 0 0, .int .i64 0]) (t := 41) ?hr ?_; (case hd => rfl); (case hg => rfl); (case hr => first | (go_simp; done) | (go_simp; rfl)); intro gb289 hg w26 hbox hb; have n0_ := Aside0.mk (Kd.R_below (by (with_reducible repeat (first | apply Kd.R_alloc | apply Kd.R_drewN | apply Kd.R_drew)); exact HO_5.out) hb); have n1_ := Aside0.mk (Kd.R_below (by (with_reducible repeat (first | apply Kd.R_alloc | apply Kd.R_drewN | apply Kd.R_drew)); exact HO_6.out) hb); have n2_ := Aside0.mk (Kd.R_below (by (with_reducible repeat (first | apply Kd.R_alloc | apply Kd.R_drewN | apply Kd.R_drew)); exact HO_7.out) hb); have n3_ := Aside0.mk (blk_below (g := gb274) (o := .cells #[.slice A0_0 l0_0.length c0_0, .slice A0_1 l0_1.length c0_1, .int .i64 a0_2, .slice (some ad288) l0_3.length c0_3] 25 (0, 0)) (by (with_reducible repeat (first | refine blk_drewN ?_ _ | refine blk_drew ?_ | refine blk_alloc ?_ _)); exact BK274.out) hb); have n4_ := Aside0.mk (below_step (by repeat (first | (with_reducible first | exact HB.out | apply below_alloc | apply pw_below_drewN | apply below_drew1 | refine below_set ?_ GE274.out) | exact HB.out)) hb); have n5_ := Aside0.mk (hbox); have n6_ := Aside0.mk ((by rw [hg]; exact (below_size (by repeat (first | (with_reducible first | exact HB.out | apply below_alloc | apply pw_below_drewN | apply below_drew1 | refine below_set ?_ GE274.out) | exact HB.out))) : w.heap.size ≤ gb289)); have n7_ := Aside0.mk ((by rw [hg]; exact (below_size (by repeat (first | (with_reducible first | exact HB.out | apply below_alloc | apply pw_below_drewN | apply below_drew1 | refine below_set ?_ GE274.out) | exact HB.out))) : w.heap.size ≤ gb289)); have n8_ := Aside0.mk ((by rw [hg]; exact Nat.ne_of_lt (blk_lt (g := gb274) (o := .cells #[.slice A0_0 l0_0.length c0_0, .slice A0_1 l0_1.length c0_1, .int .i64 a0_2, .slice (some ad288) l0_3.length c0_3] 25 (0, 0)) (by (with_reducible repeat (first | refine blk_drewN ?_ _ | refine blk_drew ?_ | refine blk_alloc ?_ _)); exact BK274.out)) : gb274 ≠ gb289)); have n9_ := Aside0.mk ((by rw [hg]; exact Nat.ne_of_gt (blk_lt (g := gb274) (o := .cells #[.slice A0_0 l0_0.length c0_0, .slice A0_1 l0_1.length c0_1, .int .i64 a0_2, .slice (some ad288) l0_3.length c0_3] 25 (0, 0)) (by (with_reducible repeat (first | refine blk_drewN ?_ _ | refine blk_drew ?_ | refine blk_alloc ?_ _)); exact BK274.out)) : gb289 ≠ gb274)); clear HO_5; clear HO_6; clear HO_7; clear BK274; clear HB; have HO_5 := n0_; have HO_6 := n1_; have HO_7 := n2_; have BK274 := n3_; have HB := n4_; have BK289 := n5_; have GW289 := n6_; have GE289 := n7_; have NB274_289 := n8_; have NB289_274 := n9_; clear n0_ n1_ n2_ n3_ n4_ n5_ n6_ n7_ n8_ n9_; clear hb hbox hg; have hnb27 := NB289_274.out; have hnc27 := NB274_289.out; have hcz28_0 : w26.cell? ⟨gb289, 0, none⟩ = some (.int .i64 0) := (blk_cell BK289.out 0).trans rfl; have hcz28_1 : w26.cell? ⟨gb289, 1, none⟩ = some (.slice none 0 0) := (blk_cell BK289.out 1).trans rfl; have hcz28_2 : w26.cell? ⟨gb289, 2, none⟩ = some (.int .i64 0) := (blk_cell BK289.out 2).trans rfl; have hfz28_0 := blk_frozen BK289.out 0; have hfz28_1 := blk_frozen BK289.out 1; have hfz28_2 := blk_frozen BK289.out 2))
            go_loopg [8, 11] k2 (fun kq v8 v11 w' => ∃ (x7_3 : List Bool) (x8_3 : Bool) (x11_3 : Int), v8 = .bool x8_3 ∧ v11 = .int .i64 x11_3 ∧ Aside0 (emendateref21_Follow.l2 kq (l0_0.length : Int) (wrap64 ((l0_0.length : Int) + 1)) t275 t278 x7_3 x8_3 x9_2 x11_3 l0_0 l0_1 a0_2 l0_3 ((rd_T41 l0_3 x9_2).f0) ((rd_T41 l0_3 x9_2).f1) ((rd_T41 l0_3 x9_2).f2) = some r) ∧ Aside0 (kq ≤ k2) ∧ Aside0 (Kd.R Kd.bool 4 w' w.heap.size (fun k_ => some k_ ≠ (v279 : Value).ownBlock ∧ some k_ ≠ ((.slice (some ⟨go10, 0, none⟩) x7_2.length co10) : Value).ownBlock) v276 t275) ∧ Aside0 (Kd.R Kd.bool 4 w' w.heap.size (fun k_ => some k_ ≠ (v276 : Value).ownBlock ∧ some k_ ≠ ((.slice (some ⟨go10, 0, none⟩) x7_2.length co10) : Value).ownBlock) v279 t278) ∧ Aside0 (Kd.R Kd.bool 4 w' w.heap.size (fun k_ => some k_ ≠ (v276 : Value).ownBlock ∧ some k_ ≠ (v279 : Value).ownBlock) (.slice (some ⟨go10, 0, none⟩) x7_2.length co10) x7_3) ∧ Aside0 (w'.heap[gb274]? = some (.cells #[(.slice A0_0 l0_0.length c0_0), (.slice A0_1 l0_1.length c0_1), .int .i64 a0_2, (.slice (some ad288) l0_3.length c0_3)] 25 (0, 0))) ∧ Aside0 (w'.heap[gb289]? = some (.cells #[.int .i64 ((rd_T41 l0_3 x9_2).f0), (.slice A288_1 ((rd_T41 l0_3 x9_2).f1).length c288_1), .int .i64 ((rd_T41 l0_3 x9_2).f2)] 41 (0, 0))) ∧ Aside0 (Below w.heap.size w w'))
            case atStart => exact ⟨(x7_2), (x8_2), (0), (by first | rfl | (simp; done) | (simp [*]; done)), (by first | rfl | (simp; done) | (simp [*]; done)), H', ⟨Nat.le_refl _⟩, ⟨by (try simp only [hl7_1]); (try simp only [hl7_2]); (with_reducible repeat (first | apply Kd.R_alloc | apply Kd.R_drewN | apply Kd.R_drew)); exact Kd.R_mono (Kd.R_far (p := ⟨gb289, 2, none⟩) (Kd.R_far (p := ⟨gb289, 1, none⟩) (Kd.R_far (p := ⟨gb289, 0, none⟩) (Kd.R_types HO_5.out BK289.out (by decide)) (fun _ hk => hk.2) (.int .i64 ((rd_T41 l0_3 x9_2).f0))) (fun _ hk => hk.2) (.slice A288_1 ((rd_T41 l0_3 x9_2).f1).length c288_1)) (fun _ hk => hk.2) (.int .i64 ((rd_T41 l0_3 x9_2).f2))) (fun _ hk => ⟨hk.1.1, hk.1.2⟩)⟩, ⟨by (try simp only [hl7_1]); (try simp only [hl7_2]); (with_reducible repeat (first | apply Kd.R_alloc | apply Kd.R_drewN | apply Kd.R_drew)); exact Kd.R_mono (Kd.R_far (p := ⟨gb289, 2, none⟩) (Kd.R_far (p := ⟨gb289, 1, none⟩) (Kd.R_far (p := ⟨gb289, 0, none⟩) (Kd.R_types HO_6.out BK289.out (by decide)) (fun _ hk => hk.2) (.int .i64 ((rd_T41 l0_3 x9_2).f0))) (fun _ hk => hk.2) (.slice A288_1 ((rd_T41 l0_3 x9_2).f1).length c288_1)) (fun _ hk => hk.2) (.int .i64 ((rd_T41 l0_3 x9_2).f2))) (fun _ hk => ⟨hk.1.1, hk.1.2⟩)⟩, ⟨by (try simp only [hl7_1]); (try simp only [hl7_2]); (with_reducible repeat (first | apply Kd.R_alloc | apply Kd.R_drewN | apply Kd.R_drew)); exact Kd.R_mono (Kd.R_far (p := ⟨gb289, 2, none⟩) (Kd.R_far (p := ⟨gb289, 1, none⟩) (Kd.R_far (p := ⟨gb289, 0, none⟩) (Kd.R_types HO_7.out BK289.out (by decide)) (fun _ hk => hk.2) (.int .i64 ((rd_T41 l0_3 x9_2).f0))) (fun _ hk => hk.2) (.slice A288_1 ((rd_T41 l0_3 x9_2).f1).length c288_1)) (fun _ hk => hk.2) (.int .i64 ((rd_T41 l0_3 x9_2).f2))) (fun _ hk => ⟨hk.1.1, hk.1.2⟩)⟩, ⟨by (try simp only [hl7_1]); (try simp only [hl7_2]); (with_reducible repeat (first | refine blk_drewN ?_ _ | refine blk_drew ?_ | refine blk_alloc ?_ _)); refine blk_far ?_ NB274_289.out _; (with_reducible repeat (first | refine blk_drewN ?_ _ | refine blk_drew ?_ | refine blk_alloc ?_ _)); refine blk_far ?_ NB274_289.out _; (with_reducible repeat (first | refine blk_drewN ?_ _ | refine blk_drew ?_ | refine blk_alloc ?_ _)); refine blk_far ?_ NB274_289.out _; (with_reducible repeat (first | refine blk_drewN ?_ _ | refine blk_drew ?_ | refine blk_alloc ?_ _)); exact BK274.out⟩, ⟨by (try simp only [hl7_1]); (try simp only [hl7_2]); (with_reducible repeat (first | refine blk_drewN ?_ _ | refine blk_drew ?_ | refine blk_alloc ?_ _)); refine blk_put (cs := #[.int .i64 ((rd_T41 l0_3 x9_2).f0), .slice A288_1 ((rd_T41 l0_3 x9_2).f1).length c288_1, .int .i64 0]) ?_ 2 _ rfl; (with_reducible repeat (first | refine blk_drewN ?_ _ | refine blk_drew ?_ | refine blk_alloc ?_ _)); refine blk_put (cs := #[.int .i64 ((rd_T41 l0_3 x9_2).f0), .slice none 0 0, .int .i64 0]) ?_ 1 _ rfl; (with_reducible repeat (first | refine blk_drewN ?_ _ | refine blk_drew ?_ | refine blk_alloc ?_ _)); refine blk_put (cs := #[.int .i64 0, .slice none 0 0, .int .i64 0]) ?_ 0 _ rfl; (with_reducible repeat (first | refine blk_drewN ?_ _ | refine blk_drew ?_ | refine blk_alloc ?_ _)); exact BK289.out⟩, ⟨by repeat (first | (with_reducible first | exact HB.out | apply below_alloc | apply pw_below_drewN | apply below_drew1 | refine below_set ?_ GE274.out | refine below_set ?_ GE289.out) | exact HB.out)⟩⟩
            case round => as_aux_lemma =>
             clear H'
             try clear c1
             try clear p1
             try clear q1
             try clear hx1
             try clear hf1
             try clear c2
             try clear p2
             try clear q2
             try clear hx2
             try clear c4
             try clear c5
             try clear c5b0
             try clear c5b1
             try clear c6
             try clear c6b0
             try clear c6b1
             try clear p6
             try clear c8
             try clear c8b0
             try clear c9
             try clear c9b0
             try clear p10
             try clear q10
             try clear hx10
             try clear hf10
             try clear c14
             try clear c22
             try clear c23
             try clear c23b0
             try clear c24
             try clear c24b0
             try clear c25
             try clear c27
             try clear c28
             try clear p28
             try clear q28
             try clear hx28
             try clear hcz12_0
             try clear hcz12_1
             try clear hcz12_2
             try clear hcz12_3
             try clear hcz14_0
             try clear hcz14_1
             try clear hcz14_2
             try clear hcz14_3
             try clear hcz16_0
             try clear hcz16_1
             try clear hcz16_2
             try clear hcz16_3
             try clear hcz19_0
             try clear hcz19_1
             try clear hcz19_2
             try clear hcz19_3
             try clear hcz25_0
             try clear hcz25_1
             try clear hcz25_2
             try clear hcz25_3
             try clear hcz28_0
             try clear hcz28_1
             try clear hcz28_2
             try clear hfz12_0
             try clear hfz12_1
             try clear hfz12_2
             try clear hfz12_3
             try clear hfz14_0
             try clear hfz14_1
             try clear hfz14_2
             try clear hfz14_3
             try clear hfz16_0
             try clear hfz16_1
             try clear hfz16_2
             try clear hfz16_3
             try clear hfz19_0
             try clear hfz19_1
             try clear hfz19_2
             try clear hfz19_3
             try clear hfz25_0
             try clear hfz25_1
             try clear hfz25_2
             try clear hfz25_3
             try clear hfz28_0
             try clear hfz28_1
             try clear hfz28_2
             try clear hx10_0
             try clear hx288_0
             try clear hx288_1
             try clear hx288_2
             try clear p1
             try clear p10
             try clear p2
             try clear p288
             try clear p6
             try clear q1
             try clear q10
             try clear q288
             obtain ⟨x7_3, x8_3, x11_3, rfl, rfl, HA, HK3, HO_5, HO_6, HO_7, BK274, BK289, HB⟩ := hrel
             have hl7_3 := (Kd.R_reads' HO_7.out).1
             rw [hl7_3] at HO_7
             (try simp only [hl7_3])
             (try simp only [hl7_3] at BK274)
             (try simp only [hl7_3] at BK289)
             (try simp only [hl7_3] at HO_5)
             (try simp only [hl7_3] at HO_6)
             cases gk with
             | zero => exact absurd HA.out (by simp [emendateref21_Follow.l2])
             | succ k3 =>
              have H := HA.out
              clear HA
              simp only [emendateref21_Follow.l2] at H
              by_cases c29 : x11_3 < (((rd_T41 l0_3 x9_2).f1).length : Int)
              ·rw [if_pos c29] at H
               have c29b0 : decide (x11_3 < (((rd_T41 l0_3 x9_2).f1).length : Int)) = true := decide_eq_true c29
               clear c29
               by_cases c30 : 0 ≤ x11_3
               ·rw [if_pos c30] at H
                have c30b0 : decide (0 ≤ x11_3) = true := decide_eq_true c30
                clear c30
                by_cases c31 : (rd ((rd_T41 l0_3 x9_2).f1) x11_3) ≥ 0
                ·rw [if_pos c31] at H
                 have c31b0 : decide (0 ≤ (rd ((rd_T41 l0_3 x9_2).f1) x11_3)) = true := decide_eq_true c31
                 clear c31
                 have H' := Aside0.mk H
                 clear H
                 have hnb32 := NB289_274.out
                 have hnc32 := NB274_289.out
                 have hcz33_0 : wr.cell? ⟨gb289, 0, none⟩ = some (.int .i64 ((rd_T41 l0_3 x9_2).f0)) := (blk_cell BK289.out 0).trans rfl
                 have hcz33_1 : wr.cell? ⟨gb289, 1, none⟩ = some (.slice A288_1 ((rd_T41 l0_3 x9_2).f1).length c288_1) := (blk_cell BK289.out 1).trans rfl
                 have hcz33_2 : wr.cell? ⟨gb289, 2, none⟩ = some (.int .i64 ((rd_T41 l0_3 x9_2).f2)) := (blk_cell BK289.out 2).trans rfl
                 have hfz33_0 := blk_frozen BK289.out 0
                 have hfz33_1 := blk_frozen BK289.out 1
                 have hfz33_2 := blk_frozen BK289.out 2
                 have p290 : 0 ≤ (x11_3 : Int) := of_decide_eq_true (by first | (with_reducible assumption) | assumption)
                 have q290 : x11_3 < (((rd_T41 l0_3 x9_2).f1).length : Int) := of_decide_eq_true (by first | (with_reducible assumption) | assumption)
                 obtain ⟨ad290, e290, hx290_0⟩ := Kd.at_int HR288_1.out x11_3 p290 q290
                 cases e290
                 replace hx290_0 := (HB.out.cell (World.block_lt_of_cell? w _ hx290_0)).trans hx290_0
                 replace p290 := eq_true p290
                 replace q290 := eq_true q290
                 go_wp2
                 (try simp only [← hl7_3])
                 go_roundg k3
                 case measure => have := HK1.out; have := HK2.out; have := HK3.out; omega
                 case rel => exact ⟨(x7_3), (x8_3), (wrap64 (x11_3 + 1)), (by first | rfl | (simp; done) | (simp [*]; done)), (by first | rfl | (simp; done) | (simp [*]; done)), H', ⟨by have := HK1.out; have := HK2.out; have := HK3.out; omega⟩, ⟨by (try simp only [hl7_1]); (try simp only [hl7_2]); (try simp only [hl7_3]); (with_reducible repeat (first | apply Kd.R_alloc | apply Kd.R_drewN | apply Kd.R_drew)); exact HO_5.out⟩, ⟨by (try simp only [hl7_1]); (try simp only [hl7_2]); (try simp only [hl7_3]); (with_reducible repeat (first | apply Kd.R_alloc | apply Kd.R_drewN | apply Kd.R_drew)); exact HO_6.out⟩, ⟨by (try simp only [hl7_1]); (try simp only [hl7_2]); (try simp only [hl7_3]); (with_reducible repeat (first | apply Kd.R_alloc | apply Kd.R_drewN | apply Kd.R_drew)); exact HO_7.out⟩, ⟨by (try simp only [hl7_1]); (try simp only [hl7_2]); (try simp only [hl7_3]); (with_reducible repeat (first | refine blk_drewN ?_ _ | refine blk_drew ?_ | refine blk_alloc ?_ _)); exact BK274.out⟩, ⟨by (try simp only [hl7_1]); (try simp only [hl7_2]); (try simp only [hl7_3]); (with_reducible repeat (first | refine blk_drewN ?_ _ | refine blk_drew ?_ | refine blk_alloc ?_ _)); exact BK289.out⟩, ⟨by repeat (first | (with_reducible first | exact HB.out | apply below_alloc | apply pw_below_drewN | apply below_drew1 | refine below_set ?_ GE274.out | refine below_set ?_ GE289.out) | exact HB.out)⟩⟩
                ·rw [if_neg c31] at H
                 have c31b0 : decide (0 ≤ (rd ((rd_T41 l0_3 x9_2).f1) x11_3)) = false := decide_eq_false c31
                 clear c31
                 have H' := Aside0.mk H
                 clear H
                 have hnb34 := NB289_274.out
                 have hnc34 := NB274_289.out
                 have hcz35_0 : wr.cell? ⟨gb289, 0, none⟩ = some (.int .i64 ((rd_T41 l0_3 x9_2).f0)) := (blk_cell BK289.out 0).trans rfl
                 have hcz35_1 : wr.cell? ⟨gb289, 1, none⟩ = some (.slice A288_1 ((rd_T41 l0_3 x9_2).f1).length c288_1) := (blk_cell BK289.out 1).trans rfl
                 have hcz35_2 : wr.cell? ⟨gb289, 2, none⟩ = some (.int .i64 ((rd_T41 l0_3 x9_2).f2)) := (blk_cell BK289.out 2).trans rfl
                 have hfz35_0 := blk_frozen BK289.out 0
                 have hfz35_1 := blk_frozen BK289.out 1
                 have hfz35_2 := blk_frozen BK289.out 2
                 have p290 : 0 ≤ (x11_3 : Int) := of_decide_eq_true (by first | (with_reducible assumption) | assumption)
                 have q290 : x11_3 < (((rd_T41 l0_3 x9_2).f1).length : Int) := of_decide_eq_true (by first | (with_reducible assumption) | assumption)
                 obtain ⟨ad290, e290, hx290_0⟩ := Kd.at_int HR288_1.out x11_3 p290 q290
                 cases e290
                 replace hx290_0 := (HB.out.cell (World.block_lt_of_cell? w _ hx290_0)).trans hx290_0
                 replace p290 := eq_true p290
                 replace q290 := eq_true q290
                 have p291 : 0 ≤ (x11_3 : Int) := of_decide_eq_true (by first | (with_reducible assumption) | assumption)
                 have q291 : x11_3 < (((rd_T41 l0_3 x9_2).f1).length : Int) := of_decide_eq_true (by first | (with_reducible assumption) | assumption)
                 obtain ⟨ad291, e291, hx291_0⟩ := Kd.at_int HR288_1.out x11_3 p291 q291
                 obtain rfl : ad290 = ad291 := (by injection e291)
                 replace hx291_0 := (HB.out.cell (World.block_lt_of_cell? w _ hx291_0)).trans hx291_0
                 replace p291 := eq_true p291
                 replace q291 := eq_true q291
                 go_wp2
                 go_loopg [8, 13] k3 (fun kq v8 v13 w' => ∃ (x7_4 : List Bool) (x8_4 : Bool) (x13_4 : Int), v8 = .bool x8_4 ∧ v13 = .int .i64 x13_4 ∧ Aside0 (emendateref21_Follow.l3 kq (l0_0.length : Int) (wrap64 ((l0_0.length : Int) + 1)) t275 t278 x7_4 x8_4 x9_2 x11_3 (wrap64 ((-1) - (rd ((rd_T41 l0_3 x9_2).f1) x11_3))) x13_4 l0_0 l0_1 a0_2 l0_3 ((rd_T41 l0_3 x9_2).f0) ((rd_T41 l0_3 x9_2).f1) ((rd_T41 l0_3 x9_2).f2) = some r) ∧ Aside0 (kq ≤ k3) ∧ Aside0 (Kd.R Kd.bool 4 w' w.heap.size (fun k_ => some k_ ≠ (v279 : Value).ownBlock ∧ some k_ ≠ ((.slice (some ⟨go10, 0, none⟩) x7_3.length co10) : Value).ownBlock) v276 t275) ∧ Aside0 (Kd.R Kd.bool 4 w' w.heap.size (fun k_ => some k_ ≠ (v276 : Value).ownBlock ∧ some k_ ≠ ((.slice (some ⟨go10, 0, none⟩) x7_3.length co10) : Value).ownBlock) v279 t278) ∧ Aside0 (Kd.R Kd.bool 4 w' w.heap.size (fun k_ => some k_ ≠ (v276 : Value).ownBlock ∧ some k_ ≠ (v279 : Value).ownBlock) (.slice (some ⟨go10, 0, none⟩) x7_3.length co10) x7_4) ∧ Aside0 (w'.heap[gb274]? = some (.cells #[(.slice A0_0 l0_0.length c0_0), (.slice A0_1 l0_1.length c0_1), .int .i64 a0_2, (.slice (some ad288) l0_3.length c0_3)] 25 (0, 0))) ∧ Aside0 (w'.heap[gb289]? = some (.cells #[.int .i64 ((rd_T41 l0_3 x9_2).f0), (.slice (some ad290) ((rd_T41 l0_3 x9_2).f1).length c288_1), .int .i64 ((rd_T41 l0_3 x9_2).f2)] 41 (0, 0))) ∧ Aside0 (Below w.heap.size w w'))
                 case atStart => exact ⟨(x7_3), (x8_3), (0), (by first | rfl | (simp; done) | (simp [*]; done)), (by first | rfl | (simp; done) | (simp [*]; done)), H', ⟨Nat.le_refl _⟩, ⟨by (try simp only [hl7_1]); (try simp only [hl7_2]); (try simp only [hl7_3]); (with_reducible repeat (first | apply Kd.R_alloc | apply Kd.R_drewN | apply Kd.R_drew)); exact HO_5.out⟩, ⟨by (try simp only [hl7_1]); (try simp only [hl7_2]); (try simp only [hl7_3]); (with_reducible repeat (first | apply Kd.R_alloc | apply Kd.R_drewN | apply Kd.R_drew)); exact HO_6.out⟩, ⟨by (try simp only [hl7_1]); (try simp only [hl7_2]); (try simp only [hl7_3]); (with_reducible repeat (first | apply Kd.R_alloc | apply Kd.R_drewN | apply Kd.R_drew)); exact HO_7.out⟩, ⟨by (try simp only [hl7_1]); (try simp only [hl7_2]); (try simp only [hl7_3]); (with_reducible repeat (first | refine blk_drewN ?_ _ | refine blk_drew ?_ | refine blk_alloc ?_ _)); exact BK274.out⟩, ⟨by (try simp only [hl7_1]); (try simp only [hl7_2]); (try simp only [hl7_3]); (with_reducible repeat (first | refine blk_drewN ?_ _ | refine blk_drew ?_ | refine blk_alloc ?_ _)); exact BK289.out⟩, ⟨by repeat (first | (with_reducible first | exact HB.out | apply below_alloc | apply pw_below_drewN | apply below_drew1 | refine below_set ?_ GE274.out | refine below_set ?_ GE289.out) | exact HB.out)⟩⟩
                 case round => as_aux_lemma =>
                  clear H'
                  try clear c1
                  try clear p1
                  try clear q1
                  try clear hx1
                  try clear hf1
                  try clear c2
                  try clear p2
                  try clear q2
                  try clear hx2
                  try clear c3
                  try clear c4
                  try clear c5
                  try clear c5b0
                  try clear c5b1
                  try clear c6
                  try clear c6b0
                  try clear c6b1
                  try clear p6
                  try clear c8
                  try clear c8b0
                  try clear c9
                  try clear c9b0
                  try clear p10
                  try clear q10
                  try clear hx10
                  try clear hf10
                  try clear c14
                  try clear c22
                  try clear c23
                  try clear c23b0
                  try clear c24
                  try clear c24b0
                  try clear c25
                  try clear c27
                  try clear c28
                  try clear p28
                  try clear q28
                  try clear hx28
                  try clear c29
                  try clear c29b0
                  try clear p29
                  try clear q29
                  try clear hx29
                  try clear c30
                  try clear c30b0
                  try clear c31
                  try clear c31b0
                  try clear c32
                  try clear c34
                  try clear hcz12_0
                  try clear hcz12_1
                  try clear hcz12_2
                  try clear hcz12_3
                  try clear hcz14_0
                  try clear hcz14_1
                  try clear hcz14_2
                  try clear hcz14_3
                  try clear hcz16_0
                  try clear hcz16_1
                  try clear hcz16_2
                  try clear hcz16_3
                  try clear hcz19_0
                  try clear hcz19_1
                  try clear hcz19_2
                  try clear hcz19_3
                  try clear hcz25_0
                  try clear hcz25_1
                  try clear hcz25_2
                  try clear hcz25_3
                  try clear hcz28_0
                  try clear hcz28_1
                  try clear hcz28_2
                  try clear hcz33_0
                  try clear hcz33_1
                  try clear hcz33_2
                  try clear hcz35_0
                  try clear hcz35_1
                  try clear hcz35_2
                  try clear hfz12_0
                  try clear hfz12_1
                  try clear hfz12_2
                  try clear hfz12_3
                  try clear hfz14_0
                  try clear hfz14_1
                  try clear hfz14_2
                  try clear hfz14_3
                  try clear hfz16_0
                  try clear hfz16_1
                  try clear hfz16_2
                  try clear hfz16_3
                  try clear hfz19_0
                  try clear hfz19_1
                  try clear hfz19_2
                  try clear hfz19_3
                  try clear hfz25_0
                  try clear hfz25_1
                  try clear hfz25_2
                  try clear hfz25_3
                  try clear hfz28_0
                  try clear hfz28_1
                  try clear hfz28_2
                  try clear hfz33_0
                  try clear hfz33_1
                  try clear hfz33_2
                  try clear hfz35_0
                  try clear hfz35_1
                  try clear hfz35_2
                  try clear hx10_0
                  try clear hx288_0
                  try clear hx288_1
                  try clear hx288_2
                  try clear hx290_0
                  try clear hx291_0
                  try clear p1
                  try clear p10
                  try clear p2
                  try clear p28
                  try clear p288
                  try clear p290
                  try clear p291
                  try clear p6
                  try clear q1
                  try clear q10
                  try clear q2
                  try clear q28
                  try clear q288
                  try clear q290
                  try clear q291
                  obtain ⟨x7_4, x8_4, x13_4, rfl, rfl, HA, HK4, HO_5, HO_6, HO_7, BK274, BK289, HB⟩ := hrel
                  have hl7_4 := (Kd.R_reads' HO_7.out).1
                  rw [hl7_4] at HO_7
                  (try simp only [hl7_4])
                  (try simp only [hl7_4] at BK274)
                  (try simp only [hl7_4] at BK289)
                  (try simp only [hl7_4] at HO_5)
                  (try simp only [hl7_4] at HO_6)
                  cases gk with
                  | zero => exact absurd HA.out (by simp [emendateref21_Follow.l3])
                  | succ k4 =>
                   have H := HA.out
                   clear HA
                   simp only [emendateref21_Follow.l3] at H
                   by_cases c36 : x13_4 < (wrap64 ((l0_0.length : Int) + 1))
                   ·rw [if_pos c36] at H
                    have c36b0 : decide (x13_4 < (wrap64 ((l0_0.length : Int) + 1))) = true := decide_eq_true c36
                    clear c36
                    have HC37 := Aside0.mk H
                    clear H
                    go_upto_region 22 with (fail)
                    go_cut [14] (fun v14 wc => ∃ (kq : Nat) (x14_36 : Bool), v14 = .bool x14_36 ∧ Aside0 (emendateref21_Follow.j4 kq (l0_0.length : Int) (wrap64 ((l0_0.length : Int) + 1)) t275 t278 x7_4 x8_4 x9_2 x11_3 (wrap64 ((-1) - (rd ((rd_T41 l0_3 x9_2).f1) x11_3))) x13_4 x14_36 l0_0 l0_1 a0_2 l0_3 ((rd_T41 l0_3 x9_2).f0) ((rd_T41 l0_3 x9_2).f1) ((rd_T41 l0_3 x9_2).f2) = some r) ∧ Aside0 (kq ≤ k4) ∧ Aside0 (Kd.R Kd.bool 4 wc w.heap.size (fun k_ => some k_ ≠ (v279 : Value).ownBlock ∧ some k_ ≠ ((.slice (some ⟨go10, 0, none⟩) x7_4.length co10) : Value).ownBlock) v276 t275) ∧ Aside0 (Kd.R Kd.bool 4 wc w.heap.size (fun k_ => some k_ ≠ (v276 : Value).ownBlock ∧ some k_ ≠ ((.slice (some ⟨go10, 0, none⟩) x7_4.length co10) : Value).ownBlock) v279 t278) ∧ Aside0 (Kd.R Kd.bool 4 wc w.heap.size (fun k_ => some k_ ≠ (v276 : Value).ownBlock ∧ some k_ ≠ (v279 : Value).ownBlock) (.slice (some ⟨go10, 0, none⟩) x7_4.length co10) x7_4) ∧ Aside0 (wc.heap[gb274]? = some (.cells #[(.slice A0_0 l0_0.length c0_0), (.slice A0_1 l0_1.length c0_1), .int .i64 a0_2, (.slice (some ad288) l0_3.length c0_3)] 25 (0, 0))) ∧ Aside0 (wc.heap[gb289]? = some (.cells #[.int .i64 ((rd_T41 l0_3 x9_2).f0), (.slice (some ad290) ((rd_T41 l0_3 x9_2).f1).length c288_1), .int .i64 ((rd_T41 l0_3 x9_2).f2)] 41 (0, 0))) ∧ Aside0 (Below w.heap.size w wc))
                    case first =>
                     have H := HC37.out
                     clear HC37
                     obtain ⟨ji38, hji38⟩ : ∃ j_ : Int, (wrap64 (x11_3 + 1)) = j_ := ⟨_, rfl⟩
                     replace H : (if 0 ≤ (ji38) then (if (ji38) ≤ (((rd_T41 l0_3 x9_2).f1).length : Int) then ((emendateref21_all.f k4 (((rd_T41 l0_3 x9_2).f1).drop ((ji38) : Int).toNat) t275 false).bind fun t293 => (if t293 = true then (if 0 ≤ (wrap64 ((wrap64 (((rd_T41 l0_3 x9_2).f0) * (wrap64 ((l0_0.length : Int) + 1)))) + x13_4)) then (if (wrap64 ((wrap64 (((rd_T41 l0_3 x9_2).f0) * (wrap64 ((l0_0.length : Int) + 1)))) + x13_4)) < (x7_4.length : Int) then (emendateref21_Follow.j4 k4 (l0_0.length : Int) (wrap64 ((l0_0.length : Int) + 1)) t275 t278 x7_4 x8_4 x9_2 x11_3 (wrap64 ((-1) - (rd ((rd_T41 l0_3 x9_2).f1) x11_3))) x13_4 (rdOf false x7_4 (wrap64 ((wrap64 (((rd_T41 l0_3 x9_2).f0) * (wrap64 ((l0_0.length : Int) + 1)))) + x13_4))) l0_0 l0_1 a0_2 l0_3 ((rd_T41 l0_3 x9_2).f0) ((rd_T41 l0_3 x9_2).f1) ((rd_T41 l0_3 x9_2).f2)) else (none)) else (none)) else (emendateref21_Follow.j4 k4 (l0_0.length : Int) (wrap64 ((l0_0.length : Int) + 1)) t275 t278 x7_4 x8_4 x9_2 x11_3 (wrap64 ((-1) - (rd ((rd_T41 l0_3 x9_2).f1) x11_3))) x13_4 false l0_0 l0_1 a0_2 l0_3 ((rd_T41 l0_3 x9_2).f0) ((rd_T41 l0_3 x9_2).f1) ((rd_T41 l0_3 x9_2).f2)))) else (none)) else (none)) = some r := by first | (rw [hji38] at H; exact H) | (simp only [hji38] at H ⊢; exact H)
                     have hji38w : (IntKind.i64.wrap (x11_3 + 1)) = ji38 := (i64_w _).trans hji38
                     by_cases c39 : 0 ≤ (ji38)
                     ·rw [if_pos c39] at H
                      have c39b0 := eq_true c39
                      have c39b1 : decide (0 ≤ (ji38)) = true := decide_eq_true c39
                      clear c39
                      by_cases c40 : (ji38) ≤ (((rd_T41 l0_3 x9_2).f1).length : Int)
                      ·rw [if_pos c40] at H
                       have c40b0 := eq_true c40
                       have c40b1 : decide ((ji38) ≤ (((rd_T41 l0_3 x9_2).f1).length : Int)) = true := decide_eq_true c40
                       clear c40
                       replace H := Option.bind_eq_some_iff.mp H
                       obtain ⟨t293, A410, H⟩ := H
                       replace H : (if t293 = true then (if 0 ≤ (wrap64 ((wrap64 (((rd_T41 l0_3 x9_2).f0) * (wrap64 ((l0_0.length : Int) + 1)))) + x13_4)) then (if (wrap64 ((wrap64 (((rd_T41 l0_3 x9_2).f0) * (wrap64 ((l0_0.length : Int) + 1)))) + x13_4)) < (x7_4.length : Int) then (emendateref21_Follow.j4 k4 (l0_0.length : Int) (wrap64 ((l0_0.length : Int) + 1)) t275 t278 x7_4 x8_4 x9_2 x11_3 (wrap64 ((-1) - (rd ((rd_T41 l0_3 x9_2).f1) x11_3))) x13_4 (rdOf false x7_4 (wrap64 ((wrap64 (((rd_T41 l0_3 x9_2).f0) * (wrap64 ((l0_0.length : Int) + 1)))) + x13_4))) l0_0 l0_1 a0_2 l0_3 ((rd_T41 l0_3 x9_2).f0) ((rd_T41 l0_3 x9_2).f1) ((rd_T41 l0_3 x9_2).f2)) else (none)) else (none)) else (emendateref21_Follow.j4 k4 (l0_0.length : Int) (wrap64 ((l0_0.length : Int) + 1)) t275 t278 x7_4 x8_4 x9_2 x11_3 (wrap64 ((-1) - (rd ((rd_T41 l0_3 x9_2).f1) x11_3))) x13_4 false l0_0 l0_1 a0_2 l0_3 ((rd_T41 l0_3 x9_2).f0) ((rd_T41 l0_3 x9_2).f1) ((rd_T41 l0_3 x9_2).f2))) = some r := H
                       have A41 := Aside0.mk A410
                       clear A410
                       by_cases c42 : t293 = true
                       ·subst c42
                        have H1 : (if 0 ≤ (wrap64 ((wrap64 (((rd_T41 l0_3 x9_2).f0) * (wrap64 ((l0_0.length : Int) + 1)))) + x13_4)) then (if (wrap64 ((wrap64 (((rd_T41 l0_3 x9_2).f0) * (wrap64 ((l0_0.length : Int) + 1)))) + x13_4)) < (x7_4.length : Int) then (emendateref21_Follow.j4 k4 (l0_0.length : Int) (wrap64 ((l0_0.length : Int) + 1)) t275 t278 x7_4 x8_4 x9_2 x11_3 (wrap64 ((-1) - (rd ((rd_T41 l0_3 x9_2).f1) x11_3))) x13_4 (rdOf false x7_4 (wrap64 ((wrap64 (((rd_T41 l0_3 x9_2).f0) * (wrap64 ((l0_0.length : Int) + 1)))) + x13_4))) l0_0 l0_1 a0_2 l0_3 ((rd_T41 l0_3 x9_2).f0) ((rd_T41 l0_3 x9_2).f1) ((rd_T41 l0_3 x9_2).f2)) else (none)) else (none)) = some r := by rw [if_pos rfl] at H; exact H
                        clear H
                        have H := H1
                        clear H1
                        obtain ⟨ji43, hji43⟩ : ∃ j_ : Int, (wrap64 ((wrap64 (((rd_T41 l0_3 x9_2).f0) * (wrap64 ((l0_0.length : Int) + 1)))) + x13_4)) = j_ := ⟨_, rfl⟩
                        replace H : (if 0 ≤ (ji43) then (if (ji43) < (x7_4.length : Int) then (emendateref21_Follow.j4 k4 (l0_0.length : Int) (wrap64 ((l0_0.length : Int) + 1)) t275 t278 x7_4 x8_4 x9_2 x11_3 (wrap64 ((-1) - (rd ((rd_T41 l0_3 x9_2).f1) x11_3))) x13_4 (rdOf false x7_4 (ji43)) l0_0 l0_1 a0_2 l0_3 ((rd_T41 l0_3 x9_2).f0) ((rd_T41 l0_3 x9_2).f1) ((rd_T41 l0_3 x9_2).f2)) else (none)) else (none)) = some r := by first | (rw [hji43] at H; exact H) | (simp only [hji43] at H ⊢; exact H)
                        (try rw [hji43] at A41)
                        have hji43w : (IntKind.i64.wrap ((wrap64 (((rd_T41 l0_3 x9_2).f0) * (wrap64 ((l0_0.length : Int) + 1)))) + x13_4)) = ji43 := (i64_w _).trans hji43
                        by_cases c44 : 0 ≤ (ji43)
                        ·rw [if_pos c44] at H
                         have c44b0 : decide (0 ≤ (ji43)) = true := decide_eq_true c44
                         clear c44
                         (first | rw [c44b0] | (simp only [i64_w, i32_w]; rw [c44b0]) | skip)
                         by_cases c45 : (ji43) < (x7_4.length : Int)
                         ·rw [if_pos c45] at H
                          have c45b0 : decide ((ji43) < (x7_4.length : Int)) = true := decide_eq_true c45
                          clear c45
                          have H' := Aside0.mk H
                          clear H
                          have hnb46 := NB289_274.out
                          have hnc46 := NB274_289.out
                          have hcz47_0 : wr.cell? ⟨gb289, 0, none⟩ = some (.int .i64 ((rd_T41 l0_3 x9_2).f0)) := (blk_cell BK289.out 0).trans rfl
                          have hcz47_1 : wr.cell? ⟨gb289, 1, none⟩ = some (.slice (some ad290) ((rd_T41 l0_3 x9_2).f1).length c288_1) := (blk_cell BK289.out 1).trans rfl
                          have hcz47_2 : wr.cell? ⟨gb289, 2, none⟩ = some (.int .i64 ((rd_T41 l0_3 x9_2).f2)) := (blk_cell BK289.out 2).trans rfl
                          have hfz47_0 := blk_frozen BK289.out 0
                          have hfz47_1 := blk_frozen BK289.out 1
                          have hfz47_2 := blk_frozen BK289.out 2
                          obtain ⟨i048, hi048, _, hsz48, _⟩ := info_parts info3
                          obtain ⟨A48, hcut48, hA48, hC48⟩ := print_drop_of (P := Try.prog) (Value.int .i64) 0 39 3 .i64 Try.underlying39 hi048 hsz48 (some ad290) c288_1 ((rd_T41 l0_3 x9_2).f1) (ji38) (of_decide_eq_true (by first | (with_reducible assumption) | assumption)) (of_decide_eq_true (by first | (with_reducible assumption) | assumption)) HC288_1.out
                          have HLN48 := Aside0.mk (len_drop_n ((rd_T41 l0_3 x9_2).f1) (ji38) (of_decide_eq_true (by first | (with_reducible assumption) | assumption)) (of_decide_eq_true (by first | (with_reducible assumption) | assumption)))
                          have HR292 := Aside0.mk (Kd.C_of_reads (h1 := fun _ => rfl) (hA48 _ (Kd.reads_of_C HR288_1.out)))
                          have HC292 := Aside0.mk hC48
                          clear hA48 hC48 hi048 hsz48
                          obtain ⟨Ao49, co49, eo49⟩ := Kd.R_slice HO_5.out
                          subst eo49
                          go_wp2_with (first | ((with_reducible refine gate_callee (f := 40) rfl ?_); refine goesL_ (some 80) rfl rfl Try.func40 (by kernel_rfl) rfl #[.slice A48 (((rd_T41 l0_3 x9_2).f1).drop ((ji38) : Int).toNat).length (c288_1 - (ji38).toNat), .slice Ao49 t275.length co49, .bool false] rfl (by (try simp only [List.map_toArray, List.map_cons, List.map_nil]); first | done | (rw [show (((rd_T41 l0_3 x9_2).f1).drop ((ji38) : Int).toNat).length = (((rd_T41 l0_3 x9_2).f1).length - (ji38).toNat) from List.length_drop] <;> rfl) | (simp only [hji38]; rfl) | rfl | (simp only [List.length_drop, List.length_take]; rfl)) ?_; (with_reducible refine (emendateref21_all.calls k4 _ _ (((rd_T41 l0_3 x9_2).f1).drop ((ji38) : Int).toNat) _ _ t275 false true _ ?side1 ?side2 ?side3 ?side4 A41.out).mono ?_); (case side1 => repeat (first | exact (Kd.C_below HR292.out HB.out) | (with_reducible refine Kd.C_alloc ?_ _) | (with_reducible refine Kd.C_drewN ?_ _) | (with_reducible refine Kd.C_drew ?_))); (case side2 => exact HC292.out); (case side3 => repeat (first | exact (Kd.R_reads' HO_5.out).2.2 | (with_reducible refine Kd.C_alloc ?_ _) | (with_reducible refine Kd.C_drewN ?_ _) | (with_reducible refine Kd.C_drew ?_))); (case side4 => exact (Kd.R_reads' HO_5.out).2.1); rintro e w' ⟨rfl, ⟨nd, rfl⟩⟩; refine ⟨_, rfl, ?_⟩; have p294 : 0 ≤ ((ji43) : Int) := of_decide_eq_true (by first | (with_reducible assumption) | assumption); have q294 : (ji43) < (x7_4.length : Int) := of_decide_eq_true (by first | (with_reducible assumption) | assumption); obtain ⟨ad294, e294, hx294_0⟩ := Kd.at_bool (Kd.R_reads' HO_7.out).2.2 (ji43) p294 q294; obtain rfl : (⟨go10, 0, none⟩ : Addr) = ad294 := (by injection e294); (first | simp only [add_plain] at hx294_0 | simp only [add_at] at hx294_0 | simp only [Addr.add, Nat.zero_add] at hx294_0 | skip); replace p294 := eq_true p294; replace q294 := eq_true q294))
                          go_meet
                          case rel => exact ⟨_, (rdOf false x7_4 (ji43)), (by first | rfl | (simp; done) | (simp only [← hji43] <;> (first | rfl | simp)) | (simp [*]; done)), H', ⟨by have := HK1.out; have := HK2.out; have := HK3.out; have := HK4.out; first | omega | exact Nat.le_refl _⟩, ⟨by (try simp only [hl7_1]); (try simp only [hl7_2]); (try simp only [hl7_3]); (try simp only [hl7_4]); (with_reducible repeat (first | apply Kd.R_alloc | apply Kd.R_drewN | apply Kd.R_drew)); exact HO_5.out⟩, ⟨by (try simp only [hl7_1]); (try simp only [hl7_2]); (try simp only [hl7_3]); (try simp only [hl7_4]); (with_reducible repeat (first | apply Kd.R_alloc | apply Kd.R_drewN | apply Kd.R_drew)); exact HO_6.out⟩, ⟨by (try simp only [hl7_1]); (try simp only [hl7_2]); (try simp only [hl7_3]); (try simp only [hl7_4]); (with_reducible repeat (first | apply Kd.R_alloc | apply Kd.R_drewN | apply Kd.R_drew)); exact HO_7.out⟩, ⟨by (try simp only [hl7_1]); (try simp only [hl7_2]); (try simp only [hl7_3]); (try simp only [hl7_4]); (with_reducible repeat (first | refine blk_drewN ?_ _ | refine blk_drew ?_ | refine blk_alloc ?_ _)); exact BK274.out⟩, ⟨by (try simp only [hl7_1]); (try simp only [hl7_2]); (try simp only [hl7_3]); (try simp only [hl7_4]); (with_reducible repeat (first | refine blk_drewN ?_ _ | refine blk_drew ?_ | refine blk_alloc ?_ _)); exact BK289.out⟩, ⟨by repeat (first | (with_reducible first | exact HB.out | apply below_alloc | apply pw_below_drewN | apply below_drew1 | refine below_set ?_ GE274.out | refine below_set ?_ GE289.out) | exact HB.out)⟩⟩
                         ·rw [if_neg c45] at H
                          exact absurd H (by simp)
                        ·rw [if_neg c44] at H
                         exact absurd H (by simp)
                       ·replace c42 := Bool.eq_false_iff.mpr c42
                        subst c42
                        have H1 : (emendateref21_Follow.j4 k4 (l0_0.length : Int) (wrap64 ((l0_0.length : Int) + 1)) t275 t278 x7_4 x8_4 x9_2 x11_3 (wrap64 ((-1) - (rd ((rd_T41 l0_3 x9_2).f1) x11_3))) x13_4 false l0_0 l0_1 a0_2 l0_3 ((rd_T41 l0_3 x9_2).f0) ((rd_T41 l0_3 x9_2).f1) ((rd_T41 l0_3 x9_2).f2)) = some r := by rw [if_neg (show ¬ (false = true) by decide)] at H; exact H
                        clear H
                        have H := H1
                        clear H1
                        have H' := Aside0.mk H
                        clear H
                        have hnb50 := NB289_274.out
                        have hnc50 := NB274_289.out
                        have hcz51_0 : wr.cell? ⟨gb289, 0, none⟩ = some (.int .i64 ((rd_T41 l0_3 x9_2).f0)) := (blk_cell BK289.out 0).trans rfl
                        have hcz51_1 : wr.cell? ⟨gb289, 1, none⟩ = some (.slice (some ad290) ((rd_T41 l0_3 x9_2).f1).length c288_1) := (blk_cell BK289.out 1).trans rfl
                        have hcz51_2 : wr.cell? ⟨gb289, 2, none⟩ = some (.int .i64 ((rd_T41 l0_3 x9_2).f2)) := (blk_cell BK289.out 2).trans rfl
                        have hfz51_0 := blk_frozen BK289.out 0
                        have hfz51_1 := blk_frozen BK289.out 1
                        have hfz51_2 := blk_frozen BK289.out 2
                        obtain ⟨i052, hi052, _, hsz52, _⟩ := info_parts info3
                        obtain ⟨A52, hcut52, hA52, hC52⟩ := print_drop_of (P := Try.prog) (Value.int .i64) 0 39 3 .i64 Try.underlying39 hi052 hsz52 (some ad290) c288_1 ((rd_T41 l0_3 x9_2).f1) (ji38) (of_decide_eq_true (by first | (with_reducible assumption) | assumption)) (of_decide_eq_true (by first | (with_reducible assumption) | assumption)) HC288_1.out
                        have HLN52 := Aside0.mk (len_drop_n ((rd_T41 l0_3 x9_2).f1) (ji38) (of_decide_eq_true (by first | (with_reducible assumption) | assumption)) (of_decide_eq_true (by first | (with_reducible assumption) | assumption)))
                        have HR292 := Aside0.mk (Kd.C_of_reads (h1 := fun _ => rfl) (hA52 _ (Kd.reads_of_C HR288_1.out)))
                        have HC292 := Aside0.mk hC52
                        clear hA52 hC52 hi052 hsz52
                        obtain ⟨Ao53, co53, eo53⟩ := Kd.R_slice HO_5.out
                        subst eo53
                        go_wp2_with (first | ((with_reducible refine gate_callee (f := 40) rfl ?_); refine goesL_ (some 80) rfl rfl Try.func40 (by kernel_rfl) rfl #[.slice A52 (((rd_T41 l0_3 x9_2).f1).drop ((ji38) : Int).toNat).length (c288_1 - (ji38).toNat), .slice Ao53 t275.length co53, .bool false] rfl (by (try simp only [List.map_toArray, List.map_cons, List.map_nil]); first | done | (rw [show (((rd_T41 l0_3 x9_2).f1).drop ((ji38) : Int).toNat).length = (((rd_T41 l0_3 x9_2).f1).length - (ji38).toNat) from List.length_drop] <;> rfl) | (simp only [hji38]; rfl) | rfl | (simp only [List.length_drop, List.length_take]; rfl)) ?_; (with_reducible refine (emendateref21_all.calls k4 _ _ (((rd_T41 l0_3 x9_2).f1).drop ((ji38) : Int).toNat) _ _ t275 false false _ ?side1 ?side2 ?side3 ?side4 A41.out).mono ?_); (case side1 => repeat (first | exact (Kd.C_below HR292.out HB.out) | (with_reducible refine Kd.C_alloc ?_ _) | (with_reducible refine Kd.C_drewN ?_ _) | (with_reducible refine Kd.C_drew ?_))); (case side2 => exact HC292.out); (case side3 => repeat (first | exact (Kd.R_reads' HO_5.out).2.2 | (with_reducible refine Kd.C_alloc ?_ _) | (with_reducible refine Kd.C_drewN ?_ _) | (with_reducible refine Kd.C_drew ?_))); (case side4 => exact (Kd.R_reads' HO_5.out).2.1); rintro e w' ⟨rfl, ⟨nd, rfl⟩⟩; refine ⟨_, rfl, ?_⟩))
                        go_meet
                        case rel => exact ⟨_, (false), (by first | rfl | (simp; done) | (simp [*]; done)), H', ⟨by have := HK1.out; have := HK2.out; have := HK3.out; have := HK4.out; first | omega | exact Nat.le_refl _⟩, ⟨by (try simp only [hl7_1]); (try simp only [hl7_2]); (try simp only [hl7_3]); (try simp only [hl7_4]); (with_reducible repeat (first | apply Kd.R_alloc | apply Kd.R_drewN | apply Kd.R_drew)); exact HO_5.out⟩, ⟨by (try simp only [hl7_1]); (try simp only [hl7_2]); (try simp only [hl7_3]); (try simp only [hl7_4]); (with_reducible repeat (first | apply Kd.R_alloc | apply Kd.R_drewN | apply Kd.R_drew)); exact HO_6.out⟩, ⟨by (try simp only [hl7_1]); (try simp only [hl7_2]); (try simp only [hl7_3]); (try simp only [hl7_4]); (with_reducible repeat (first | apply Kd.R_alloc | apply Kd.R_drewN | apply Kd.R_drew)); exact HO_7.out⟩, ⟨by (try simp only [hl7_1]); (try simp only [hl7_2]); (try simp only [hl7_3]); (try simp only [hl7_4]); (with_reducible repeat (first | refine blk_drewN ?_ _ | refine blk_drew ?_ | refine blk_alloc ?_ _)); exact BK274.out⟩, ⟨by (try simp only [hl7_1]); (try simp only [hl7_2]); (try simp only [hl7_3]); (try simp only [hl7_4]); (with_reducible repeat (first | refine blk_drewN ?_ _ | refine blk_drew ?_ | refine blk_alloc ?_ _)); exact BK289.out⟩, ⟨by repeat (first | (with_reducible first | exact HB.out | apply below_alloc | apply pw_below_drewN | apply below_drew1 | refine below_set ?_ GE274.out | refine below_set ?_ GE289.out) | exact HB.out)⟩⟩
                      ·rw [if_neg c40] at H
                       exact absurd H (by simp)
                     ·rw [if_neg c39] at H
                      exact absurd H (by simp)
                    case rest =>
                     clear HC37
                     try clear c1
                     try clear p1
                     try clear q1
                     try clear hx1
                     try clear hf1
                     try clear c2
                     try clear p2
                     try clear q2
                     try clear hx2
                     try clear c3
                     try clear c4
                     try clear c5
                     try clear c5b0
                     try clear c5b1
                     try clear c6
                     try clear c6b0
                     try clear c6b1
                     try clear p6
                     try clear c8
                     try clear c8b0
                     try clear c9
                     try clear c9b0
                     try clear p10
                     try clear q10
                     try clear hx10
                     try clear hf10
                     try clear c14
                     try clear c22
                     try clear c23
                     try clear c23b0
                     try clear c24
                     try clear c24b0
                     try clear c25
                     try clear c27
                     try clear c28
                     try clear p28
                     try clear q28
                     try clear hx28
                     try clear c29
                     try clear c29b0
                     try clear p29
                     try clear q29
                     try clear hx29
                     try clear c30
                     try clear c30b0
                     try clear c31
                     try clear c31b0
                     try clear c32
                     try clear c34
                     try clear c36
                     try clear c36b0
                     try clear c39
                     try clear c39b0
                     try clear c39b1
                     try clear c40
                     try clear c40b0
                     try clear c40b1
                     try clear c42
                     try clear c44
                     try clear c44b0
                     try clear c45
                     try clear c45b0
                     try clear c46
                     try clear c50
                     try clear hcz12_0
                     try clear hcz12_1
                     try clear hcz12_2
                     try clear hcz12_3
                     try clear hcz14_0
                     try clear hcz14_1
                     try clear hcz14_2
                     try clear hcz14_3
                     try clear hcz16_0
                     try clear hcz16_1
                     try clear hcz16_2
                     try clear hcz16_3
                     try clear hcz19_0
                     try clear hcz19_1
                     try clear hcz19_2
                     try clear hcz19_3
                     try clear hcz25_0
                     try clear hcz25_1
                     try clear hcz25_2
                     try clear hcz25_3
                     try clear hcz28_0
                     try clear hcz28_1
                     try clear hcz28_2
                     try clear hcz33_0
                     try clear hcz33_1
                     try clear hcz33_2
                     try clear hcz35_0
                     try clear hcz35_1
                     try clear hcz35_2
                     try clear hcz47_0
                     try clear hcz47_1
                     try clear hcz47_2
                     try clear hcz51_0
                     try clear hcz51_1
                     try clear hcz51_2
                     try clear hfz12_0
                     try clear hfz12_1
                     try clear hfz12_2
                     try clear hfz12_3
                     try clear hfz14_0
                     try clear hfz14_1
                     try clear hfz14_2
                     try clear hfz14_3
                     try clear hfz16_0
                     try clear hfz16_1
                     try clear hfz16_2
                     try clear hfz16_3
                     try clear hfz19_0
                     try clear hfz19_1
                     try clear hfz19_2
                     try clear hfz19_3
                     try clear hfz25_0
                     try clear hfz25_1
                     try clear hfz25_2
                     try clear hfz25_3
                     try clear hfz28_0
                     try clear hfz28_1
                     try clear hfz28_2
                     try clear hfz33_0
                     try clear hfz33_1
                     try clear hfz33_2
                     try clear hfz35_0
                     try clear hfz35_1
                     try clear hfz35_2
                     try clear hfz47_0
                     try clear hfz47_1
                     try clear hfz47_2
                     try clear hfz51_0
                     try clear hfz51_1
                     try clear hfz51_2
                     try clear hx10_0
                     try clear hx288_0
                     try clear hx288_1
                     try clear hx288_2
                     try clear hx290_0
                     try clear hx291_0
                     try clear hx294_0
                     try clear p1
                     try clear p10
                     try clear p2
                     try clear p28
                     try clear p288
                     try clear p29
                     try clear p290
                     try clear p291
                     try clear p294
                     try clear p6
                     try clear q1
                     try clear q10
                     try clear q2
                     try clear q28
                     try clear q288
                     try clear q29
                     try clear q290
                     try clear q291
                     try clear q294
                     obtain ⟨kq, x14_36, rfl, HA, HJ36, HO_5, HO_6, HO_7, BK274, BK289, HB⟩ := hcut
                     cases kq with
                     | zero => exact absurd HA.out (by simp [emendateref21_Follow.j4])
                     | succ kj36 =>
                      have H := HA.out
                      clear HA
                      simp only [emendateref21_Follow.j4] at H
                      have H' := Aside0.mk H
                      clear H
                      go_wp2
                      go_loopg [14, 15] kj36 (fun kq v14 v15 w' => ∃ (x14_6 : Bool) (x15_6 : Int), v14 = .bool x14_6 ∧ v15 = .int .i64 x15_6 ∧ Aside0 (emendateref21_Follow.l4 kq (l0_0.length : Int) (wrap64 ((l0_0.length : Int) + 1)) t275 t278 x7_4 x8_4 x9_2 x11_3 (wrap64 ((-1) - (rd ((rd_T41 l0_3 x9_2).f1) x11_3))) x13_4 x14_6 x15_6 l0_0 l0_1 a0_2 l0_3 ((rd_T41 l0_3 x9_2).f0) ((rd_T41 l0_3 x9_2).f1) ((rd_T41 l0_3 x9_2).f2) = some r) ∧ Aside0 (kq ≤ kj36) ∧ Aside0 (Kd.R Kd.bool 4 w' w.heap.size (fun k_ => some k_ ≠ (v279 : Value).ownBlock ∧ some k_ ≠ ((.slice (some ⟨go10, 0, none⟩) x7_4.length co10) : Value).ownBlock) v276 t275) ∧ Aside0 (Kd.R Kd.bool 4 w' w.heap.size (fun k_ => some k_ ≠ (v276 : Value).ownBlock ∧ some k_ ≠ ((.slice (some ⟨go10, 0, none⟩) x7_4.length co10) : Value).ownBlock) v279 t278) ∧ Aside0 (Kd.R Kd.bool 4 w' w.heap.size (fun k_ => some k_ ≠ (v276 : Value).ownBlock ∧ some k_ ≠ (v279 : Value).ownBlock) (.slice (some ⟨go10, 0, none⟩) x7_4.length co10) x7_4) ∧ Aside0 (w'.heap[gb274]? = some (.cells #[(.slice A0_0 l0_0.length c0_0), (.slice A0_1 l0_1.length c0_1), .int .i64 a0_2, (.slice (some ad288) l0_3.length c0_3)] 25 (0, 0))) ∧ Aside0 (w'.heap[gb289]? = some (.cells #[.int .i64 ((rd_T41 l0_3 x9_2).f0), (.slice (some ad290) ((rd_T41 l0_3 x9_2).f1).length c288_1), .int .i64 ((rd_T41 l0_3 x9_2).f2)] 41 (0, 0))) ∧ Aside0 (Below w.heap.size w w'))
                      case atStart => exact ⟨(x14_36), (wrap64 (x11_3 + 1)), (by first | rfl | (simp; done) | (simp [*]; done)), (by first | rfl | (simp; done) | (simp [*]; done)), H', ⟨Nat.le_refl _⟩, ⟨by (try simp only [hl7_1]); (try simp only [hl7_2]); (try simp only [hl7_3]); (try simp only [hl7_4]); (with_reducible repeat (first | apply Kd.R_alloc | apply Kd.R_drewN | apply Kd.R_drew)); exact HO_5.out⟩, ⟨by (try simp only [hl7_1]); (try simp only [hl7_2]); (try simp only [hl7_3]); (try simp only [hl7_4]); (with_reducible repeat (first | apply Kd.R_alloc | apply Kd.R_drewN | apply Kd.R_drew)); exact HO_6.out⟩, ⟨by (try simp only [hl7_1]); (try simp only [hl7_2]); (try simp only [hl7_3]); (try simp only [hl7_4]); (with_reducible repeat (first | apply Kd.R_alloc | apply Kd.R_drewN | apply Kd.R_drew)); exact HO_7.out⟩, ⟨by (try simp only [hl7_1]); (try simp only [hl7_2]); (try simp only [hl7_3]); (try simp only [hl7_4]); (with_reducible repeat (first | refine blk_drewN ?_ _ | refine blk_drew ?_ | refine blk_alloc ?_ _)); exact BK274.out⟩, ⟨by (try simp only [hl7_1]); (try simp only [hl7_2]); (try simp only [hl7_3]); (try simp only [hl7_4]); (with_reducible repeat (first | refine blk_drewN ?_ _ | refine blk_drew ?_ | refine blk_alloc ?_ _)); exact BK289.out⟩, ⟨by repeat (first | (with_reducible first | exact HB.out | apply below_alloc | apply pw_below_drewN | apply below_drew1 | refine below_set ?_ GE274.out | refine below_set ?_ GE289.out) | exact HB.out)⟩⟩
                      case round => as_aux_lemma =>
                       clear H'
                       try clear c1
                       try clear p1
                       try clear q1
                       try clear hx1
                       try clear hf1
                       try clear c2
                       try clear p2
                       try clear q2
                       try clear hx2
                       try clear c3
                       try clear c4
                       try clear c5
                       try clear c5b0
                       try clear c5b1
                       try clear c6
                       try clear c6b0
                       try clear c6b1
                       try clear p6
                       try clear c8
                       try clear c8b0
                       try clear c9
                       try clear c9b0
                       try clear p10
                       try clear q10
                       try clear hx10
                       try clear hf10
                       try clear c14
                       try clear c22
                       try clear c23
                       try clear c23b0
                       try clear c24
                       try clear c24b0
                       try clear c25
                       try clear c27
                       try clear c28
                       try clear p28
                       try clear q28
                       try clear hx28
                       try clear c29
                       try clear c29b0
                       try clear p29
                       try clear q29
                       try clear hx29
                       try clear c30
                       try clear c30b0
                       try clear c31
                       try clear c31b0
                       try clear c32
                       try clear c34
                       try clear c36
                       try clear c36b0
                       try clear c39
                       try clear c39b0
                       try clear c39b1
                       try clear c40
                       try clear c40b0
                       try clear c40b1
                       try clear c42
                       try clear c44
                       try clear c44b0
                       try clear c45
                       try clear c45b0
                       try clear c46
                       try clear c50
                       try clear hcz12_0
                       try clear hcz12_1
                       try clear hcz12_2
                       try clear hcz12_3
                       try clear hcz14_0
                       try clear hcz14_1
                       try clear hcz14_2
                       try clear hcz14_3
                       try clear hcz16_0
                       try clear hcz16_1
                       try clear hcz16_2
                       try clear hcz16_3
                       try clear hcz19_0
                       try clear hcz19_1
                       try clear hcz19_2
                       try clear hcz19_3
                       try clear hcz25_0
                       try clear hcz25_1
                       try clear hcz25_2
                       try clear hcz25_3
                       try clear hcz28_0
                       try clear hcz28_1
                       try clear hcz28_2
                       try clear hcz33_0
                       try clear hcz33_1
                       try clear hcz33_2
                       try clear hcz35_0
                       try clear hcz35_1
                       try clear hcz35_2
                       try clear hcz47_0
                       try clear hcz47_1
                       try clear hcz47_2
                       try clear hcz51_0
                       try clear hcz51_1
                       try clear hcz51_2
                       try clear hfz12_0
                       try clear hfz12_1
                       try clear hfz12_2
                       try clear hfz12_3
                       try clear hfz14_0
                       try clear hfz14_1
                       try clear hfz14_2
                       try clear hfz14_3
                       try clear hfz16_0
                       try clear hfz16_1
                       try clear hfz16_2
                       try clear hfz16_3
                       try clear hfz19_0
                       try clear hfz19_1
                       try clear hfz19_2
                       try clear hfz19_3
                       try clear hfz25_0
                       try clear hfz25_1
                       try clear hfz25_2
                       try clear hfz25_3
                       try clear hfz28_0
                       try clear hfz28_1
                       try clear hfz28_2
                       try clear hfz33_0
                       try clear hfz33_1
                       try clear hfz33_2
                       try clear hfz35_0
                       try clear hfz35_1
                       try clear hfz35_2
                       try clear hfz47_0
                       try clear hfz47_1
                       try clear hfz47_2
                       try clear hfz51_0
                       try clear hfz51_1
                       try clear hfz51_2
                       try clear hx10_0
                       try clear hx288_0
                       try clear hx288_1
                       try clear hx288_2
                       try clear hx290_0
                       try clear hx291_0
                       try clear hx294_0
                       try clear p1
                       try clear p10
                       try clear p2
                       try clear p28
                       try clear p288
                       try clear p29
                       try clear p290
                       try clear p291
                       try clear p294
                       try clear p6
                       try clear q1
                       try clear q10
                       try clear q2
                       try clear q28
                       try clear q288
                       try clear q29
                       try clear q290
                       try clear q291
                       try clear q294
                       obtain ⟨x14_6, x15_6, rfl, rfl, HA, HK6, HO_5, HO_6, HO_7, BK274, BK289, HB⟩ := hrel
                       cases gk with
                       | zero => exact absurd HA.out (by simp [emendateref21_Follow.l4])
                       | succ k6 =>
                        have H := HA.out
                        clear HA
                        simp only [emendateref21_Follow.l4] at H
                        by_cases c54 : x15_6 < (((rd_T41 l0_3 x9_2).f1).length : Int)
                        ·rw [if_pos c54] at H
                         have c54b0 : decide (x15_6 < (((rd_T41 l0_3 x9_2).f1).length : Int)) = true := decide_eq_true c54
                         clear c54
                         by_cases c55 : x13_4 > 0
                         ·rw [if_pos c55] at H
                          have c55b0 : decide (0 < x13_4) = true := decide_eq_true c55
                          clear c55
                          replace H : (if 0 ≤ ((wrap64 (x11_3 + 1))) then (if ((wrap64 (x11_3 + 1))) ≤ x15_6 then (if x15_6 ≤ (((rd_T41 l0_3 x9_2).f1).length : Int) then ((emendateref21_all.f k6 ((((rd_T41 l0_3 x9_2).f1).take (x15_6 : Int).toNat).drop (((wrap64 (x11_3 + 1))) : Int).toNat) t275 false).bind fun t296 => (if t296 = true then (if x14_6 = true then (emendateref21_Follow.l4 k6 (l0_0.length : Int) (wrap64 ((l0_0.length : Int) + 1)) t275 t278 x7_4 x8_4 x9_2 x11_3 (wrap64 ((-1) - (rd ((rd_T41 l0_3 x9_2).f1) x11_3))) x13_4 true (wrap64 (x15_6 + 1)) l0_0 l0_1 a0_2 l0_3 ((rd_T41 l0_3 x9_2).f0) ((rd_T41 l0_3 x9_2).f1) ((rd_T41 l0_3 x9_2).f2)) else (if 0 ≤ x15_6 then (if (rd ((rd_T41 l0_3 x9_2).f1) x15_6) = (wrap64 (x13_4 - 1)) then (emendateref21_Follow.l4 k6 (l0_0.length : Int) (wrap64 ((l0_0.length : Int) + 1)) t275 t278 x7_4 x8_4 x9_2 x11_3 (wrap64 ((-1) - (rd ((rd_T41 l0_3 x9_2).f1) x11_3))) x13_4 true (wrap64 (x15_6 + 1)) l0_0 l0_1 a0_2 l0_3 ((rd_T41 l0_3 x9_2).f0) ((rd_T41 l0_3 x9_2).f1) ((rd_T41 l0_3 x9_2).f2)) else (if (rd ((rd_T41 l0_3 x9_2).f1) x15_6) < 0 then (if 0 ≤ (wrap64 ((wrap64 ((wrap64 ((wrap64 ((-1) - (rd ((rd_T41 l0_3 x9_2).f1) x15_6))) * (l0_0.length : Int))) + x13_4)) - 1)) then (if (wrap64 ((wrap64 ((wrap64 ((wrap64 ((-1) - (rd ((rd_T41 l0_3 x9_2).f1) x15_6))) * (l0_0.length : Int))) + x13_4)) - 1)) < (t278.length : Int) then (emendateref21_Follow.l4 k6 (l0_0.length : Int) (wrap64 ((l0_0.length : Int) + 1)) t275 t278 x7_4 x8_4 x9_2 x11_3 (wrap64 ((-1) - (rd ((rd_T41 l0_3 x9_2).f1) x11_3))) x13_4 (rdOf false t278 (wrap64 ((wrap64 ((wrap64 ((wrap64 ((-1) - (rd ((rd_T41 l0_3 x9_2).f1) x15_6))) * (l0_0.length : Int))) + x13_4)) - 1))) (wrap64 (x15_6 + 1)) l0_0 l0_1 a0_2 l0_3 ((rd_T41 l0_3 x9_2).f0) ((rd_T41 l0_3 x9_2).f1) ((rd_T41 l0_3 x9_2).f2)) else (none)) else (none)) else (emendateref21_Follow.l4 k6 (l0_0.length : Int) (wrap64 ((l0_0.length : Int) + 1)) t275 t278 x7_4 x8_4 x9_2 x11_3 (wrap64 ((-1) - (rd ((rd_T41 l0_3 x9_2).f1) x11_3))) x13_4 false (wrap64 (x15_6 + 1)) l0_0 l0_1 a0_2 l0_3 ((rd_T41 l0_3 x9_2).f0) ((rd_T41 l0_3 x9_2).f1) ((rd_T41 l0_3 x9_2).f2)))) else (none))) else (if x14_6 = true then (if 0 ≤ (wrap64 ((wrap64 ((wrap64 ((-1) - (rd ((rd_T41 l0_3 x9_2).f1) x11_3))) * (wrap64 ((l0_0.length : Int) + 1)))) + x13_4)) then (if (wrap64 ((wrap64 ((wrap64 ((-1) - (rd ((rd_T41 l0_3 x9_2).f1) x11_3))) * (wrap64 ((l0_0.length : Int) + 1)))) + x13_4)) < (x7_4.length : Int) then (if (rdOf false x7_4 (wrap64 ((wrap64 ((wrap64 ((-1) - (rd ((rd_T41 l0_3 x9_2).f1) x11_3))) * (wrap64 ((l0_0.length : Int) + 1)))) + x13_4)) = true) then (emendateref21_Follow.l3 k6 (l0_0.length : Int) (wrap64 ((l0_0.length : Int) + 1)) t275 t278 x7_4 x8_4 x9_2 x11_3 (wrap64 ((-1) - (rd ((rd_T41 l0_3 x9_2).f1) x11_3))) (wrap64 (x13_4 + 1)) l0_0 l0_1 a0_2 l0_3 ((rd_T41 l0_3 x9_2).f0) ((rd_T41 l0_3 x9_2).f1) ((rd_T41 l0_3 x9_2).f2)) else (emendateref21_Follow.l3 k6 (l0_0.length : Int) (wrap64 ((l0_0.length : Int) + 1)) t275 t278 (x7_4.set ((wrap64 ((wrap64 ((wrap64 ((-1) - (rd ((rd_T41 l0_3 x9_2).f1) x11_3))) * (wrap64 ((l0_0.length : Int) + 1)))) + x13_4)) : Int).toNat true) true x9_2 x11_3 (wrap64 ((-1) - (rd ((rd_T41 l0_3 x9_2).f1) x11_3))) (wrap64 (x13_4 + 1)) l0_0 l0_1 a0_2 l0_3 ((rd_T41 l0_3 x9_2).f0) ((rd_T41 l0_3 x9_2).f1) ((rd_T41 l0_3 x9_2).f2))) else (none)) else (none)) else (emendateref21_Follow.l3 k6 (l0_0.length : Int) (wrap64 ((l0_0.length : Int) + 1)) t275 t278 x7_4 x8_4 x9_2 x11_3 (wrap64 ((-1) - (rd ((rd_T41 l0_3 x9_2).f1) x11_3))) (wrap64 (x13_4 + 1)) l0_0 l0_1 a0_2 l0_3 ((rd_T41 l0_3 x9_2).f0) ((rd_T41 l0_3 x9_2).f1) ((rd_T41 l0_3 x9_2).f2))))) else (none)) else (none)) else (none)) = some r := by first | (rw [show (wrap64 (x11_3 + 1)) = (wrap64 (x11_3 + 1)) from rfl] at H; exact H) | (simp only [(rfl : (wrap64 (x11_3 + 1)) = (wrap64 (x11_3 + 1)))] at H ⊢; exact H)
                          have hji56w : (IntKind.i64.wrap (x11_3 + 1)) = (wrap64 (x11_3 + 1)) := i64_w _
                          by_cases c57 : 0 ≤ ((wrap64 (x11_3 + 1)))
                          ·rw [if_pos c57] at H
                           have c57b0 := eq_true c57
                           have c57b1 : decide (0 ≤ ((wrap64 (x11_3 + 1)))) = true := decide_eq_true c57
                           clear c57
                           by_cases c58 : ((wrap64 (x11_3 + 1))) ≤ x15_6
                           ·rw [if_pos c58] at H
                            have c58b0 := eq_true c58
                            have c58b1 : decide (((wrap64 (x11_3 + 1))) ≤ x15_6) = true := decide_eq_true c58
                            clear c58
                            by_cases c59 : x15_6 ≤ (((rd_T41 l0_3 x9_2).f1).length : Int)
                            ·rw [if_pos c59] at H
                             have c59b0 := eq_true c59
                             have c59b1 : decide (x15_6 ≤ (((rd_T41 l0_3 x9_2).f1).length : Int)) = true := decide_eq_true c59
                             clear c59
                             replace H := Option.bind_eq_some_iff.mp H
                             obtain ⟨t296, A600, H⟩ := H
                             replace H : (if t296 = true then (if x14_6 = true then (emendateref21_Follow.l4 k6 (l0_0.length : Int) (wrap64 ((l0_0.length : Int) + 1)) t275 t278 x7_4 x8_4 x9_2 x11_3 (wrap64 ((-1) - (rd ((rd_T41 l0_3 x9_2).f1) x11_3))) x13_4 true (wrap64 (x15_6 + 1)) l0_0 l0_1 a0_2 l0_3 ((rd_T41 l0_3 x9_2).f0) ((rd_T41 l0_3 x9_2).f1) ((rd_T41 l0_3 x9_2).f2)) else (if 0 ≤ x15_6 then (if (rd ((rd_T41 l0_3 x9_2).f1) x15_6) = (wrap64 (x13_4 - 1)) then (emendateref21_Follow.l4 k6 (l0_0.length : Int) (wrap64 ((l0_0.length : Int) + 1)) t275 t278 x7_4 x8_4 x9_2 x11_3 (wrap64 ((-1) - (rd ((rd_T41 l0_3 x9_2).f1) x11_3))) x13_4 true (wrap64 (x15_6 + 1)) l0_0 l0_1 a0_2 l0_3 ((rd_T41 l0_3 x9_2).f0) ((rd_T41 l0_3 x9_2).f1) ((rd_T41 l0_3 x9_2).f2)) else (if (rd ((rd_T41 l0_3 x9_2).f1) x15_6) < 0 then (if 0 ≤ (wrap64 ((wrap64 ((wrap64 ((wrap64 ((-1) - (rd ((rd_T41 l0_3 x9_2).f1) x15_6))) * (l0_0.length : Int))) + x13_4)) - 1)) then (if (wrap64 ((wrap64 ((wrap64 ((wrap64 ((-1) - (rd ((rd_T41 l0_3 x9_2).f1) x15_6))) * (l0_0.length : Int))) + x13_4)) - 1)) < (t278.length : Int) then (emendateref21_Follow.l4 k6 (l0_0.length : Int) (wrap64 ((l0_0.length : Int) + 1)) t275 t278 x7_4 x8_4 x9_2 x11_3 (wrap64 ((-1) - (rd ((rd_T41 l0_3 x9_2).f1) x11_3))) x13_4 (rdOf false t278 (wrap64 ((wrap64 ((wrap64 ((wrap64 ((-1) - (rd ((rd_T41 l0_3 x9_2).f1) x15_6))) * (l0_0.length : Int))) + x13_4)) - 1))) (wrap64 (x15_6 + 1)) l0_0 l0_1 a0_2 l0_3 ((rd_T41 l0_3 x9_2).f0) ((rd_T41 l0_3 x9_2).f1) ((rd_T41 l0_3 x9_2).f2)) else (none)) else (none)) else (emendateref21_Follow.l4 k6 (l0_0.length : Int) (wrap64 ((l0_0.length : Int) + 1)) t275 t278 x7_4 x8_4 x9_2 x11_3 (wrap64 ((-1) - (rd ((rd_T41 l0_3 x9_2).f1) x11_3))) x13_4 false (wrap64 (x15_6 + 1)) l0_0 l0_1 a0_2 l0_3 ((rd_T41 l0_3 x9_2).f0) ((rd_T41 l0_3 x9_2).f1) ((rd_T41 l0_3 x9_2).f2)))) else (none))) else (if x14_6 = true then (if 0 ≤ (wrap64 ((wrap64 ((wrap64 ((-1) - (rd ((rd_T41 l0_3 x9_2).f1) x11_3))) * (wrap64 ((l0_0.length : Int) + 1)))) + x13_4)) then (if (wrap64 ((wrap64 ((wrap64 ((-1) - (rd ((rd_T41 l0_3 x9_2).f1) x11_3))) * (wrap64 ((l0_0.length : Int) + 1)))) + x13_4)) < (x7_4.length : Int) then (if (rdOf false x7_4 (wrap64 ((wrap64 ((wrap64 ((-1) - (rd ((rd_T41 l0_3 x9_2).f1) x11_3))) * (wrap64 ((l0_0.length : Int) + 1)))) + x13_4)) = true) then (emendateref21_Follow.l3 k6 (l0_0.length : Int) (wrap64 ((l0_0.length : Int) + 1)) t275 t278 x7_4 x8_4 x9_2 x11_3 (wrap64 ((-1) - (rd ((rd_T41 l0_3 x9_2).f1) x11_3))) (wrap64 (x13_4 + 1)) l0_0 l0_1 a0_2 l0_3 ((rd_T41 l0_3 x9_2).f0) ((rd_T41 l0_3 x9_2).f1) ((rd_T41 l0_3 x9_2).f2)) else (emendateref21_Follow.l3 k6 (l0_0.length : Int) (wrap64 ((l0_0.length : Int) + 1)) t275 t278 (x7_4.set ((wrap64 ((wrap64 ((wrap64 ((-1) - (rd ((rd_T41 l0_3 x9_2).f1) x11_3))) * (wrap64 ((l0_0.length : Int) + 1)))) + x13_4)) : Int).toNat true) true x9_2 x11_3 (wrap64 ((-1) - (rd ((rd_T41 l0_3 x9_2).f1) x11_3))) (wrap64 (x13_4 + 1)) l0_0 l0_1 a0_2 l0_3 ((rd_T41 l0_3 x9_2).f0) ((rd_T41 l0_3 x9_2).f1) ((rd_T41 l0_3 x9_2).f2))) else (none)) else (none)) else (emendateref21_Follow.l3 k6 (l0_0.length : Int) (wrap64 ((l0_0.length : Int) + 1)) t275 t278 x7_4 x8_4 x9_2 x11_3 (wrap64 ((-1) - (rd ((rd_T41 l0_3 x9_2).f1) x11_3))) (wrap64 (x13_4 + 1)) l0_0 l0_1 a0_2 l0_3 ((rd_T41 l0_3 x9_2).f0) ((rd_T41 l0_3 x9_2).f1) ((rd_T41 l0_3 x9_2).f2)))) = some r := H
                             have A60 := Aside0.mk A600
                             clear A600
                             by_cases c61 : t296 = true
                             ·subst c61
                              have H1 : (if x14_6 = true then (emendateref21_Follow.l4 k6 (l0_0.length : Int) (wrap64 ((l0_0.length : Int) + 1)) t275 t278 x7_4 x8_4 x9_2 x11_3 (wrap64 ((-1) - (rd ((rd_T41 l0_3 x9_2).f1) x11_3))) x13_4 true (wrap64 (x15_6 + 1)) l0_0 l0_1 a0_2 l0_3 ((rd_T41 l0_3 x9_2).f0) ((rd_T41 l0_3 x9_2).f1) ((rd_T41 l0_3 x9_2).f2)) else (if 0 ≤ x15_6 then (if (rd ((rd_T41 l0_3 x9_2).f1) x15_6) = (wrap64 (x13_4 - 1)) then (emendateref21_Follow.l4 k6 (l0_0.length : Int) (wrap64 ((l0_0.length : Int) + 1)) t275 t278 x7_4 x8_4 x9_2 x11_3 (wrap64 ((-1) - (rd ((rd_T41 l0_3 x9_2).f1) x11_3))) x13_4 true (wrap64 (x15_6 + 1)) l0_0 l0_1 a0_2 l0_3 ((rd_T41 l0_3 x9_2).f0) ((rd_T41 l0_3 x9_2).f1) ((rd_T41 l0_3 x9_2).f2)) else (if (rd ((rd_T41 l0_3 x9_2).f1) x15_6) < 0 then (if 0 ≤ (wrap64 ((wrap64 ((wrap64 ((wrap64 ((-1) - (rd ((rd_T41 l0_3 x9_2).f1) x15_6))) * (l0_0.length : Int))) + x13_4)) - 1)) then (if (wrap64 ((wrap64 ((wrap64 ((wrap64 ((-1) - (rd ((rd_T41 l0_3 x9_2).f1) x15_6))) * (l0_0.length : Int))) + x13_4)) - 1)) < (t278.length : Int) then (emendateref21_Follow.l4 k6 (l0_0.length : Int) (wrap64 ((l0_0.length : Int) + 1)) t275 t278 x7_4 x8_4 x9_2 x11_3 (wrap64 ((-1) - (rd ((rd_T41 l0_3 x9_2).f1) x11_3))) x13_4 (rdOf false t278 (wrap64 ((wrap64 ((wrap64 ((wrap64 ((-1) - (rd ((rd_T41 l0_3 x9_2).f1) x15_6))) * (l0_0.length : Int))) + x13_4)) - 1))) (wrap64 (x15_6 + 1)) l0_0 l0_1 a0_2 l0_3 ((rd_T41 l0_3 x9_2).f0) ((rd_T41 l0_3 x9_2).f1) ((rd_T41 l0_3 x9_2).f2)) else (none)) else (none)) else (emendateref21_Follow.l4 k6 (l0_0.length : Int) (wrap64 ((l0_0.length : Int) + 1)) t275 t278 x7_4 x8_4 x9_2 x11_3 (wrap64 ((-1) - (rd ((rd_T41 l0_3 x9_2).f1) x11_3))) x13_4 false (wrap64 (x15_6 + 1)) l0_0 l0_1 a0_2 l0_3 ((rd_T41 l0_3 x9_2).f0) ((rd_T41 l0_3 x9_2).f1) ((rd_T41 l0_3 x9_2).f2)))) else (none))) = some r := by rw [if_pos rfl] at H; exact H
                              clear H
                              have H := H1
                              clear H1
                              by_cases c62 : x14_6 = true
                              ·subst c62
                               have H1 : (emendateref21_Follow.l4 k6 (l0_0.length : Int) (wrap64 ((l0_0.length : Int) + 1)) t275 t278 x7_4 x8_4 x9_2 x11_3 (wrap64 ((-1) - (rd ((rd_T41 l0_3 x9_2).f1) x11_3))) x13_4 true (wrap64 (x15_6 + 1)) l0_0 l0_1 a0_2 l0_3 ((rd_T41 l0_3 x9_2).f0) ((rd_T41 l0_3 x9_2).f1) ((rd_T41 l0_3 x9_2).f2)) = some r := by rw [if_pos rfl] at H; exact H
                               clear H
                               have H := H1
                               clear H1
                               have H' := Aside0.mk H
                               clear H
                               have hnb63 := NB289_274.out
                               have hnc63 := NB274_289.out
                               have hcz64_0 : wr.cell? ⟨gb289, 0, none⟩ = some (.int .i64 ((rd_T41 l0_3 x9_2).f0)) := (blk_cell BK289.out 0).trans rfl
                               have hcz64_1 : wr.cell? ⟨gb289, 1, none⟩ = some (.slice (some ad290) ((rd_T41 l0_3 x9_2).f1).length c288_1) := (blk_cell BK289.out 1).trans rfl
                               have hcz64_2 : wr.cell? ⟨gb289, 2, none⟩ = some (.int .i64 ((rd_T41 l0_3 x9_2).f2)) := (blk_cell BK289.out 2).trans rfl
                               have hfz64_0 := blk_frozen BK289.out 0
                               have hfz64_1 := blk_frozen BK289.out 1
                               have hfz64_2 := blk_frozen BK289.out 2
                               obtain ⟨i065, hi065, _, hsz65, _⟩ := info_parts info3
                               obtain ⟨A65, hcut65, hA65, hC65⟩ := print_mid_of (P := Try.prog) (Value.int .i64) 0 39 3 .i64 .i64 Try.underlying39 hi065 hsz65 (some ad290) c288_1 ((rd_T41 l0_3 x9_2).f1) ((wrap64 (x11_3 + 1))) x15_6 (of_decide_eq_true (by first | (with_reducible assumption) | assumption)) (by first | omega | exact of_decide_eq_true (by first | (with_reducible assumption) | assumption)) (of_decide_eq_true (by first | (with_reducible assumption) | assumption)) HC288_1.out
                               have HLN65 := Aside0.mk (len_mid_n ((rd_T41 l0_3 x9_2).f1) ((wrap64 (x11_3 + 1))) (x15_6) (of_decide_eq_true (by first | (with_reducible assumption) | assumption)) (by first | omega | exact of_decide_eq_true (by first | (with_reducible assumption) | assumption)) (of_decide_eq_true (by first | (with_reducible assumption) | assumption)))
                               have HR295 := Aside0.mk (Kd.C_of_reads (h1 := fun _ => rfl) (hA65 _ (Kd.reads_of_C HR288_1.out)))
                               have HC295 := Aside0.mk hC65
                               clear hA65 hC65 hi065 hsz65
                               obtain ⟨Ao66, co66, eo66⟩ := Kd.R_slice HO_5.out
                               subst eo66
                               go_wp2_with (first | (go_at_call 40; (with_reducible refine (emendateref21_all.callsN k6 _ _ ((((rd_T41 l0_3 x9_2).f1).take (x15_6 : Int).toNat).drop (((wrap64 (x11_3 + 1))) : Int).toNat) HLN65.out _ _ t275 false true _ ?side1 ?side2 ?side3 ?side4 A60.out).mono ?_); (case side1 => repeat (first | exact (Kd.C_below HR295.out HB.out) | (with_reducible refine Kd.C_alloc ?_ _) | (with_reducible refine Kd.C_drewN ?_ _) | (with_reducible refine Kd.C_drew ?_))); (case side2 => exact HC295.out); (case side3 => repeat (first | exact (Kd.R_reads' HO_5.out).2.2 | (with_reducible refine Kd.C_alloc ?_ _) | (with_reducible refine Kd.C_drewN ?_ _) | (with_reducible refine Kd.C_drew ?_))); (case side4 => exact (Kd.R_reads' HO_5.out).2.1); rintro e w' ⟨rfl, ⟨nd, rfl⟩⟩))
                               go_roundg k6
                               case measure => have := HK1.out; have := HK2.out; have := HK3.out; have := HK4.out; have := HJ36.out; have := HK6.out; omega
                               case rel => exact ⟨(true), (wrap64 (x15_6 + 1)), (by first | rfl | (simp; done) | (simp [*]; done)), (by first | rfl | (simp; done) | (simp [*]; done)), H', ⟨by have := HK1.out; have := HK2.out; have := HK3.out; have := HK4.out; have := HJ36.out; have := HK6.out; omega⟩, ⟨by (try simp only [hl7_1]); (try simp only [hl7_2]); (try simp only [hl7_3]); (try simp only [hl7_4]); (with_reducible repeat (first | apply Kd.R_alloc | apply Kd.R_drewN | apply Kd.R_drew)); exact HO_5.out⟩, ⟨by (try simp only [hl7_1]); (try simp only [hl7_2]); (try simp only [hl7_3]); (try simp only [hl7_4]); (with_reducible repeat (first | apply Kd.R_alloc | apply Kd.R_drewN | apply Kd.R_drew)); exact HO_6.out⟩, ⟨by (try simp only [hl7_1]); (try simp only [hl7_2]); (try simp only [hl7_3]); (try simp only [hl7_4]); (with_reducible repeat (first | apply Kd.R_alloc | apply Kd.R_drewN | apply Kd.R_drew)); exact HO_7.out⟩, ⟨by (try simp only [hl7_1]); (try simp only [hl7_2]); (try simp only [hl7_3]); (try simp only [hl7_4]); (with_reducible repeat (first | refine blk_drewN ?_ _ | refine blk_drew ?_ | refine blk_alloc ?_ _)); exact BK274.out⟩, ⟨by (try simp only [hl7_1]); (try simp only [hl7_2]); (try simp only [hl7_3]); (try simp only [hl7_4]); (with_reducible repeat (first | refine blk_drewN ?_ _ | refine blk_drew ?_ | refine blk_alloc ?_ _)); exact BK289.out⟩, ⟨by repeat (first | (with_reducible first | exact HB.out | apply below_alloc | apply pw_below_drewN | apply below_drew1 | refine below_set ?_ GE274.out | refine below_set ?_ GE289.out) | exact HB.out)⟩⟩
                              ·replace c62 := Bool.eq_false_iff.mpr c62
                               subst c62
                               have H1 : (if 0 ≤ x15_6 then (if (rd ((rd_T41 l0_3 x9_2).f1) x15_6) = (wrap64 (x13_4 - 1)) then (emendateref21_Follow.l4 k6 (l0_0.length : Int) (wrap64 ((l0_0.length : Int) + 1)) t275 t278 x7_4 x8_4 x9_2 x11_3 (wrap64 ((-1) - (rd ((rd_T41 l0_3 x9_2).f1) x11_3))) x13_4 true (wrap64 (x15_6 + 1)) l0_0 l0_1 a0_2 l0_3 ((rd_T41 l0_3 x9_2).f0) ((rd_T41 l0_3 x9_2).f1) ((rd_T41 l0_3 x9_2).f2)) else (if (rd ((rd_T41 l0_3 x9_2).f1) x15_6) < 0 then (if 0 ≤ (wrap64 ((wrap64 ((wrap64 ((wrap64 ((-1) - (rd ((rd_T41 l0_3 x9_2).f1) x15_6))) * (l0_0.length : Int))) + x13_4)) - 1)) then (if (wrap64 ((wrap64 ((wrap64 ((wrap64 ((-1) - (rd ((rd_T41 l0_3 x9_2).f1) x15_6))) * (l0_0.length : Int))) + x13_4)) - 1)) < (t278.length : Int) then (emendateref21_Follow.l4 k6 (l0_0.length : Int) (wrap64 ((l0_0.length : Int) + 1)) t275 t278 x7_4 x8_4 x9_2 x11_3 (wrap64 ((-1) - (rd ((rd_T41 l0_3 x9_2).f1) x11_3))) x13_4 (rdOf false t278 (wrap64 ((wrap64 ((wrap64 ((wrap64 ((-1) - (rd ((rd_T41 l0_3 x9_2).f1) x15_6))) * (l0_0.length : Int))) + x13_4)) - 1))) (wrap64 (x15_6 + 1)) l0_0 l0_1 a0_2 l0_3 ((rd_T41 l0_3 x9_2).f0) ((rd_T41 l0_3 x9_2).f1) ((rd_T41 l0_3 x9_2).f2)) else (none)) else (none)) else (emendateref21_Follow.l4 k6 (l0_0.length : Int) (wrap64 ((l0_0.length : Int) + 1)) t275 t278 x7_4 x8_4 x9_2 x11_3 (wrap64 ((-1) - (rd ((rd_T41 l0_3 x9_2).f1) x11_3))) x13_4 false (wrap64 (x15_6 + 1)) l0_0 l0_1 a0_2 l0_3 ((rd_T41 l0_3 x9_2).f0) ((rd_T41 l0_3 x9_2).f1) ((rd_T41 l0_3 x9_2).f2)))) else (none)) = some r := by rw [if_neg (show ¬ (false = true) by decide)] at H; exact H
                               clear H
                               have H := H1
                               clear H1
                               by_cases c67 : 0 ≤ x15_6
                               ·rw [if_pos c67] at H
                                have c67b0 : decide (0 ≤ x15_6) = true := decide_eq_true c67
                                clear c67
                                by_cases c68 : (rd ((rd_T41 l0_3 x9_2).f1) x15_6) = (wrap64 (x13_4 - 1))
                                ·rw [if_pos c68] at H
                                 have c68b0 : ((rd ((rd_T41 l0_3 x9_2).f1) x15_6) == (wrap64 (x13_4 - 1))) = true := beq_iff_eq.mpr c68
                                 have c68b1 : ((rd ((rd_T41 l0_3 x9_2).f1) x15_6) != (wrap64 (x13_4 - 1))) = false := bne_eq_false_iff_eq.mpr c68
                                 clear c68
                                 have H' := Aside0.mk H
                                 clear H
                                 have hnb69 := NB289_274.out
                                 have hnc69 := NB274_289.out
                                 have hcz70_0 : wr.cell? ⟨gb289, 0, none⟩ = some (.int .i64 ((rd_T41 l0_3 x9_2).f0)) := (blk_cell BK289.out 0).trans rfl
                                 have hcz70_1 : wr.cell? ⟨gb289, 1, none⟩ = some (.slice (some ad290) ((rd_T41 l0_3 x9_2).f1).length c288_1) := (blk_cell BK289.out 1).trans rfl
                                 have hcz70_2 : wr.cell? ⟨gb289, 2, none⟩ = some (.int .i64 ((rd_T41 l0_3 x9_2).f2)) := (blk_cell BK289.out 2).trans rfl
                                 have hfz70_0 := blk_frozen BK289.out 0
                                 have hfz70_1 := blk_frozen BK289.out 1
                                 have hfz70_2 := blk_frozen BK289.out 2
                                 obtain ⟨i071, hi071, _, hsz71, _⟩ := info_parts info3
                                 obtain ⟨A71, hcut71, hA71, hC71⟩ := print_mid_of (P := Try.prog) (Value.int .i64) 0 39 3 .i64 .i64 Try.underlying39 hi071 hsz71 (some ad290) c288_1 ((rd_T41 l0_3 x9_2).f1) ((wrap64 (x11_3 + 1))) x15_6 (of_decide_eq_true (by first | (with_reducible assumption) | assumption)) (by first | omega | exact of_decide_eq_true (by first | (with_reducible assumption) | assumption)) (of_decide_eq_true (by first | (with_reducible assumption) | assumption)) HC288_1.out
                                 have HLN71 := Aside0.mk (len_mid_n ((rd_T41 l0_3 x9_2).f1) ((wrap64 (x11_3 + 1))) (x15_6) (of_decide_eq_true (by first | (with_reducible assumption) | assumption)) (by first | omega | exact of_decide_eq_true (by first | (with_reducible assumption) | assumption)) (of_decide_eq_true (by first | (with_reducible assumption) | assumption)))
                                 have HR295 := Aside0.mk (Kd.C_of_reads (h1 := fun _ => rfl) (hA71 _ (Kd.reads_of_C HR288_1.out)))
                                 have HC295 := Aside0.mk hC71
                                 clear hA71 hC71 hi071 hsz71
                                 obtain ⟨Ao72, co72, eo72⟩ := Kd.R_slice HO_5.out
                                 subst eo72
                                 go_wp2_with (first | (go_at_call 40; (with_reducible refine (emendateref21_all.callsN k6 _ _ ((((rd_T41 l0_3 x9_2).f1).take (x15_6 : Int).toNat).drop (((wrap64 (x11_3 + 1))) : Int).toNat) HLN71.out _ _ t275 false true _ ?side1 ?side2 ?side3 ?side4 A60.out).mono ?_); (case side1 => repeat (first | exact (Kd.C_below HR295.out HB.out) | (with_reducible refine Kd.C_alloc ?_ _) | (with_reducible refine Kd.C_drewN ?_ _) | (with_reducible refine Kd.C_drew ?_))); (case side2 => exact HC295.out); (case side3 => repeat (first | exact (Kd.R_reads' HO_5.out).2.2 | (with_reducible refine Kd.C_alloc ?_ _) | (with_reducible refine Kd.C_drewN ?_ _) | (with_reducible refine Kd.C_drew ?_))); (case side4 => exact (Kd.R_reads' HO_5.out).2.1); rintro e w' ⟨rfl, ⟨nd, rfl⟩⟩; have p297 : 0 ≤ (x15_6 : Int) := of_decide_eq_true (by first | (with_reducible assumption) | assumption); have q297 : x15_6 < (((rd_T41 l0_3 x9_2).f1).length : Int) := of_decide_eq_true (by first | (with_reducible assumption) | assumption); obtain ⟨ad297, e297, hx297_0⟩ := Kd.at_int HR288_1.out x15_6 p297 q297; obtain rfl : ad290 = ad297 := (by injection e297); replace hx297_0 := (HB.out.cell (World.block_lt_of_cell? w _ hx297_0)).trans hx297_0; replace p297 := eq_true p297; replace q297 := eq_true q297))
                                 go_roundg k6
                                 case measure => have := HK1.out; have := HK2.out; have := HK3.out; have := HK4.out; have := HJ36.out; have := HK6.out; omega
                                 case rel => exact ⟨(true), (wrap64 (x15_6 + 1)), (by first | rfl | (simp; done) | (simp [*]; done)), (by first | rfl | (simp; done) | (simp [*]; done)), H', ⟨by have := HK1.out; have := HK2.out; have := HK3.out; have := HK4.out; have := HJ36.out; have := HK6.out; omega⟩, ⟨by (try simp only [hl7_1]); (try simp only [hl7_2]); (try simp only [hl7_3]); (try simp only [hl7_4]); (with_reducible repeat (first | apply Kd.R_alloc | apply Kd.R_drewN | apply Kd.R_drew)); exact HO_5.out⟩, ⟨by (try simp only [hl7_1]); (try simp only [hl7_2]); (try simp only [hl7_3]); (try simp only [hl7_4]); (with_reducible repeat (first | apply Kd.R_alloc | apply Kd.R_drewN | apply Kd.R_drew)); exact HO_6.out⟩, ⟨by (try simp only [hl7_1]); (try simp only [hl7_2]); (try simp only [hl7_3]); (try simp only [hl7_4]); (with_reducible repeat (first | apply Kd.R_alloc | apply Kd.R_drewN | apply Kd.R_drew)); exact HO_7.out⟩, ⟨by (try simp only [hl7_1]); (try simp only [hl7_2]); (try simp only [hl7_3]); (try simp only [hl7_4]); (with_reducible repeat (first | refine blk_drewN ?_ _ | refine blk_drew ?_ | refine blk_alloc ?_ _)); exact BK274.out⟩, ⟨by (try simp only [hl7_1]); (try simp only [hl7_2]); (try simp only [hl7_3]); (try simp only [hl7_4]); (with_reducible repeat (first | refine blk_drewN ?_ _ | refine blk_drew ?_ | refine blk_alloc ?_ _)); exact BK289.out⟩, ⟨by repeat (first | (with_reducible first | exact HB.out | apply below_alloc | apply pw_below_drewN | apply below_drew1 | refine below_set ?_ GE274.out | refine below_set ?_ GE289.out) | exact HB.out)⟩⟩
                                ·rw [if_neg c68] at H
                                 have c68b0 : ((rd ((rd_T41 l0_3 x9_2).f1) x15_6) == (wrap64 (x13_4 - 1))) = false := beq_eq_false_iff_ne.mpr c68
                                 have c68b1 : ((rd ((rd_T41 l0_3 x9_2).f1) x15_6) != (wrap64 (x13_4 - 1))) = true := bne_iff_ne.mpr c68
                                 by_cases c73 : (rd ((rd_T41 l0_3 x9_2).f1) x15_6) < 0
                                 ·rw [if_pos c73] at H
                                  have c73b0 : decide ((rd ((rd_T41 l0_3 x9_2).f1) x15_6) < 0) = true := decide_eq_true c73
                                  clear c73
                                  obtain ⟨ji74, hji74⟩ : ∃ j_ : Int, (wrap64 ((wrap64 ((wrap64 ((wrap64 ((-1) - (rd ((rd_T41 l0_3 x9_2).f1) x15_6))) * (l0_0.length : Int))) + x13_4)) - 1)) = j_ := ⟨_, rfl⟩
                                  replace H : (if 0 ≤ (ji74) then (if (ji74) < (t278.length : Int) then (emendateref21_Follow.l4 k6 (l0_0.length : Int) (wrap64 ((l0_0.length : Int) + 1)) t275 t278 x7_4 x8_4 x9_2 x11_3 (wrap64 ((-1) - (rd ((rd_T41 l0_3 x9_2).f1) x11_3))) x13_4 (rdOf false t278 (ji74)) (wrap64 (x15_6 + 1)) l0_0 l0_1 a0_2 l0_3 ((rd_T41 l0_3 x9_2).f0) ((rd_T41 l0_3 x9_2).f1) ((rd_T41 l0_3 x9_2).f2)) else (none)) else (none)) = some r := by first | (rw [hji74] at H; exact H) | (simp only [hji74] at H ⊢; exact H)
                                  (try rw [hji74] at A60)
                                  have hji74w : (IntKind.i64.wrap ((wrap64 ((wrap64 ((wrap64 ((-1) - (rd ((rd_T41 l0_3 x9_2).f1) x15_6))) * (l0_0.length : Int))) + x13_4)) - 1)) = ji74 := (i64_w _).trans hji74
                                  by_cases c75 : 0 ≤ (ji74)
                                  ·rw [if_pos c75] at H
                                   have c75b0 : decide (0 ≤ (ji74)) = true := decide_eq_true c75
                                   clear c75
                                   by_cases c76 : (ji74) < (t278.length : Int)
                                   ·rw [if_pos c76] at H
                                    have c76b0 : decide ((ji74) < (t278.length : Int)) = true := decide_eq_true c76
                                    clear c76
                                    have H' := Aside0.mk H
                                    clear H
                                    have hnb77 := NB289_274.out
                                    have hnc77 := NB274_289.out
                                    have hcz78_0 : wr.cell? ⟨gb289, 0, none⟩ = some (.int .i64 ((rd_T41 l0_3 x9_2).f0)) := (blk_cell BK289.out 0).trans rfl
                                    have hcz78_1 : wr.cell? ⟨gb289, 1, none⟩ = some (.slice (some ad290) ((rd_T41 l0_3 x9_2).f1).length c288_1) := (blk_cell BK289.out 1).trans rfl
                                    have hcz78_2 : wr.cell? ⟨gb289, 2, none⟩ = some (.int .i64 ((rd_T41 l0_3 x9_2).f2)) := (blk_cell BK289.out 2).trans rfl
                                    have hfz78_0 := blk_frozen BK289.out 0
                                    have hfz78_1 := blk_frozen BK289.out 1
                                    have hfz78_2 := blk_frozen BK289.out 2
                                    obtain ⟨i079, hi079, _, hsz79, _⟩ := info_parts info3
                                    obtain ⟨A79, hcut79, hA79, hC79⟩ := print_mid_of (P := Try.prog) (Value.int .i64) 0 39 3 .i64 .i64 Try.underlying39 hi079 hsz79 (some ad290) c288_1 ((rd_T41 l0_3 x9_2).f1) ((wrap64 (x11_3 + 1))) x15_6 (of_decide_eq_true (by first | (with_reducible assumption) | assumption)) (by first | omega | exact of_decide_eq_true (by first | (with_reducible assumption) | assumption)) (of_decide_eq_true (by first | (with_reducible assumption) | assumption)) HC288_1.out
                                    have HLN79 := Aside0.mk (len_mid_n ((rd_T41 l0_3 x9_2).f1) ((wrap64 (x11_3 + 1))) (x15_6) (of_decide_eq_true (by first | (with_reducible assumption) | assumption)) (by first | omega | exact of_decide_eq_true (by first | (with_reducible assumption) | assumption)) (of_decide_eq_true (by first | (with_reducible assumption) | assumption)))
                                    have HR295 := Aside0.mk (Kd.C_of_reads (h1 := fun _ => rfl) (hA79 _ (Kd.reads_of_C HR288_1.out)))
                                    have HC295 := Aside0.mk hC79
                                    clear hA79 hC79 hi079 hsz79
                                    obtain ⟨Ao80, co80, eo80⟩ := Kd.R_slice HO_5.out
                                    subst eo80
                                    go_wp2_with (first | (go_at_call 40; (with_reducible refine (emendateref21_all.callsN k6 _ _ ((((rd_T41 l0_3 x9_2).f1).take (x15_6 : Int).toNat).drop (((wrap64 (x11_3 + 1))) : Int).toNat) HLN79.out _ _ t275 false true _ ?side1 ?side2 ?side3 ?side4 A60.out).mono ?_); (case side1 => repeat (first | exact (Kd.C_below HR295.out HB.out) | (with_reducible refine Kd.C_alloc ?_ _) | (with_reducible refine Kd.C_drewN ?_ _) | (with_reducible refine Kd.C_drew ?_))); (case side2 => exact HC295.out); (case side3 => repeat (first | exact (Kd.R_reads' HO_5.out).2.2 | (with_reducible refine Kd.C_alloc ?_ _) | (with_reducible refine Kd.C_drewN ?_ _) | (with_reducible refine Kd.C_drew ?_))); (case side4 => exact (Kd.R_reads' HO_5.out).2.1); rintro e w' ⟨rfl, ⟨nd, rfl⟩⟩; have p297 : 0 ≤ (x15_6 : Int) := of_decide_eq_true (by first | (with_reducible assumption) | assumption); have q297 : x15_6 < (((rd_T41 l0_3 x9_2).f1).length : Int) := of_decide_eq_true (by first | (with_reducible assumption) | assumption); obtain ⟨ad297, e297, hx297_0⟩ := Kd.at_int HR288_1.out x15_6 p297 q297; obtain rfl : ad290 = ad297 := (by injection e297); replace hx297_0 := (HB.out.cell (World.block_lt_of_cell? w _ hx297_0)).trans hx297_0; replace p297 := eq_true p297; replace q297 := eq_true q297; have p298 : 0 ≤ (x15_6 : Int) := of_decide_eq_true (by first | (with_reducible assumption) | assumption); have q298 : x15_6 < (((rd_T41 l0_3 x9_2).f1).length : Int) := of_decide_eq_true (by first | (with_reducible assumption) | assumption); obtain ⟨ad298, e298, hx298_0⟩ := Kd.at_int HR288_1.out x15_6 p298 q298; obtain rfl : ad290 = ad298 := (by injection e298); replace hx298_0 := (HB.out.cell (World.block_lt_of_cell? w _ hx298_0)).trans hx298_0; replace p298 := eq_true p298; replace q298 := eq_true q298; have p299 : 0 ≤ (x15_6 : Int) := of_decide_eq_true (by first | (with_reducible assumption) | assumption); have q299 : x15_6 < (((rd_T41 l0_3 x9_2).f1).length : Int) := of_decide_eq_true (by first | (with_reducible assumption) | assumption); obtain ⟨ad299, e299, hx299_0⟩ := Kd.at_int HR288_1.out x15_6 p299 q299; obtain rfl : ad290 = ad299 := (by injection e299); replace hx299_0 := (HB.out.cell (World.block_lt_of_cell? w _ hx299_0)).trans hx299_0; replace p299 := eq_true p299; replace q299 := eq_true q299; obtain ⟨Ao81, co81, eo81⟩ := Kd.R_slice HO_6.out; subst eo81; have p300 : 0 ≤ ((ji74) : Int) := of_decide_eq_true (by first | (with_reducible assumption) | assumption); have q300 : (ji74) < (t278.length : Int) := of_decide_eq_true (by first | (with_reducible assumption) | assumption); obtain ⟨ad300, e300, hx300_0⟩ := Kd.at_bool (Kd.R_reads' HO_6.out).2.2 (ji74) p300 q300; cases e300; replace p300 := eq_true p300; replace q300 := eq_true q300))
                                    go_roundg k6
                                    case measure => have := HK1.out; have := HK2.out; have := HK3.out; have := HK4.out; have := HJ36.out; have := HK6.out; omega
                                    case rel => exact ⟨(rdOf false t278 (ji74)), (wrap64 (x15_6 + 1)), (by first | rfl | (simp; done) | (simp only [← hji74] <;> (first | rfl | simp)) | (simp [*]; done)), (by first | rfl | (simp; done) | (simp [*]; done)), H', ⟨by have := HK1.out; have := HK2.out; have := HK3.out; have := HK4.out; have := HJ36.out; have := HK6.out; omega⟩, ⟨by (try simp only [hl7_1]); (try simp only [hl7_2]); (try simp only [hl7_3]); (try simp only [hl7_4]); (with_reducible repeat (first | apply Kd.R_alloc | apply Kd.R_drewN | apply Kd.R_drew)); exact HO_5.out⟩, ⟨by (try simp only [hl7_1]); (try simp only [hl7_2]); (try simp only [hl7_3]); (try simp only [hl7_4]); (with_reducible repeat (first | apply Kd.R_alloc | apply Kd.R_drewN | apply Kd.R_drew)); exact HO_6.out⟩, ⟨by (try simp only [hl7_1]); (try simp only [hl7_2]); (try simp only [hl7_3]); (try simp only [hl7_4]); (with_reducible repeat (first | apply Kd.R_alloc | apply Kd.R_drewN | apply Kd.R_drew)); exact HO_7.out⟩, ⟨by (try simp only [hl7_1]); (try simp only [hl7_2]); (try simp only [hl7_3]); (try simp only [hl7_4]); (with_reducible repeat (first | refine blk_drewN ?_ _ | refine blk_drew ?_ | refine blk_alloc ?_ _)); exact BK274.out⟩, ⟨by (try simp only [hl7_1]); (try simp only [hl7_2]); (try simp only [hl7_3]); (try simp only [hl7_4]); (with_reducible repeat (first | refine blk_drewN ?_ _ | refine blk_drew ?_ | refine blk_alloc ?_ _)); exact BK289.out⟩, ⟨by repeat (first | (with_reducible first | exact HB.out | apply below_alloc | apply pw_below_drewN | apply below_drew1 | refine below_set ?_ GE274.out | refine below_set ?_ GE289.out) | exact HB.out)⟩⟩
                                   ·rw [if_neg c76] at H
                                    exact absurd H (by simp)
                                  ·rw [if_neg c75] at H
                                   exact absurd H (by simp)
                                 ·rw [if_neg c73] at H
                                  have c73b0 : decide ((rd ((rd_T41 l0_3 x9_2).f1) x15_6) < 0) = false := decide_eq_false c73
                                  clear c73
                                  have H' := Aside0.mk H
                                  clear H
                                  have hnb82 := NB289_274.out
                                  have hnc82 := NB274_289.out
                                  have hcz83_0 : wr.cell? ⟨gb289, 0, none⟩ = some (.int .i64 ((rd_T41 l0_3 x9_2).f0)) := (blk_cell BK289.out 0).trans rfl
                                  have hcz83_1 : wr.cell? ⟨gb289, 1, none⟩ = some (.slice (some ad290) ((rd_T41 l0_3 x9_2).f1).length c288_1) := (blk_cell BK289.out 1).trans rfl
                                  have hcz83_2 : wr.cell? ⟨gb289, 2, none⟩ = some (.int .i64 ((rd_T41 l0_3 x9_2).f2)) := (blk_cell BK289.out 2).trans rfl
                                  have hfz83_0 := blk_frozen BK289.out 0
                                  have hfz83_1 := blk_frozen BK289.out 1
                                  have hfz83_2 := blk_frozen BK289.out 2
                                  obtain ⟨i084, hi084, _, hsz84, _⟩ := info_parts info3
                                  obtain ⟨A84, hcut84, hA84, hC84⟩ := print_mid_of (P := Try.prog) (Value.int .i64) 0 39 3 .i64 .i64 Try.underlying39 hi084 hsz84 (some ad290) c288_1 ((rd_T41 l0_3 x9_2).f1) ((wrap64 (x11_3 + 1))) x15_6 (of_decide_eq_true (by first | (with_reducible assumption) | assumption)) (by first | omega | exact of_decide_eq_true (by first | (with_reducible assumption) | assumption)) (of_decide_eq_true (by first | (with_reducible assumption) | assumption)) HC288_1.out
                                  have HLN84 := Aside0.mk (len_mid_n ((rd_T41 l0_3 x9_2).f1) ((wrap64 (x11_3 + 1))) (x15_6) (of_decide_eq_true (by first | (with_reducible assumption) | assumption)) (by first | omega | exact of_decide_eq_true (by first | (with_reducible assumption) | assumption)) (of_decide_eq_true (by first | (with_reducible assumption) | assumption)))
                                  have HR295 := Aside0.mk (Kd.C_of_reads (h1 := fun _ => rfl) (hA84 _ (Kd.reads_of_C HR288_1.out)))
                                  have HC295 := Aside0.mk hC84
                                  clear hA84 hC84 hi084 hsz84
                                  obtain ⟨Ao85, co85, eo85⟩ := Kd.R_slice HO_5.out
                                  subst eo85
                                  go_wp2_with (first | (go_at_call 40; (with_reducible refine (emendateref21_all.callsN k6 _ _ ((((rd_T41 l0_3 x9_2).f1).take (x15_6 : Int).toNat).drop (((wrap64 (x11_3 + 1))) : Int).toNat) HLN84.out _ _ t275 false true _ ?side1 ?side2 ?side3 ?side4 A60.out).mono ?_); (case side1 => repeat (first | exact (Kd.C_below HR295.out HB.out) | (with_reducible refine Kd.C_alloc ?_ _) | (with_reducible refine Kd.C_drewN ?_ _) | (with_reducible refine Kd.C_drew ?_))); (case side2 => exact HC295.out); (case side3 => repeat (first | exact (Kd.R_reads' HO_5.out).2.2 | (with_reducible refine Kd.C_alloc ?_ _) | (with_reducible refine Kd.C_drewN ?_ _) | (with_reducible refine Kd.C_drew ?_))); (case side4 => exact (Kd.R_reads' HO_5.out).2.1); rintro e w' ⟨rfl, ⟨nd, rfl⟩⟩; have p297 : 0 ≤ (x15_6 : Int) := of_decide_eq_true (by first | (with_reducible assumption) | assumption); have q297 : x15_6 < (((rd_T41 l0_3 x9_2).f1).length : Int) := of_decide_eq_true (by first | (with_reducible assumption) | assumption); obtain ⟨ad297, e297, hx297_0⟩ := Kd.at_int HR288_1.out x15_6 p297 q297; obtain rfl : ad290 = ad297 := (by injection e297); replace hx297_0 := (HB.out.cell (World.block_lt_of_cell? w _ hx297_0)).trans hx297_0; replace p297 := eq_true p297; replace q297 := eq_true q297; have p298 : 0 ≤ (x15_6 : Int) := of_decide_eq_true (by first | (with_reducible assumption) | assumption); have q298 : x15_6 < (((rd_T41 l0_3 x9_2).f1).length : Int) := of_decide_eq_true (by first | (with_reducible assumption) | assumption); obtain ⟨ad298, e298, hx298_0⟩ := Kd.at_int HR288_1.out x15_6 p298 q298; obtain rfl : ad290 = ad298 := (by injection e298); replace hx298_0 := (HB.out.cell (World.block_lt_of_cell? w _ hx298_0)).trans hx298_0; replace p298 := eq_true p298; replace q298 := eq_true q298))
                                  go_roundg k6
                                  case measure => have := HK1.out; have := HK2.out; have := HK3.out; have := HK4.out; have := HJ36.out; have := HK6.out; omega
                                  case rel => exact ⟨(false), (wrap64 (x15_6 + 1)), (by first | rfl | (simp; done) | (simp [*]; done)), (by first | rfl | (simp; done) | (simp [*]; done)), H', ⟨by have := HK1.out; have := HK2.out; have := HK3.out; have := HK4.out; have := HJ36.out; have := HK6.out; omega⟩, ⟨by (try simp only [hl7_1]); (try simp only [hl7_2]); (try simp only [hl7_3]); (try simp only [hl7_4]); (with_reducible repeat (first | apply Kd.R_alloc | apply Kd.R_drewN | apply Kd.R_drew)); exact HO_5.out⟩, ⟨by (try simp only [hl7_1]); (try simp only [hl7_2]); (try simp only [hl7_3]); (try simp only [hl7_4]); (with_reducible repeat (first | apply Kd.R_alloc | apply Kd.R_drewN | apply Kd.R_drew)); exact HO_6.out⟩, ⟨by (try simp only [hl7_1]); (try simp only [hl7_2]); (try simp only [hl7_3]); (try simp only [hl7_4]); (with_reducible repeat (first | apply Kd.R_alloc | apply Kd.R_drewN | apply Kd.R_drew)); exact HO_7.out⟩, ⟨by (try simp only [hl7_1]); (try simp only [hl7_2]); (try simp only [hl7_3]); (try simp only [hl7_4]); (with_reducible repeat (first | refine blk_drewN ?_ _ | refine blk_drew ?_ | refine blk_alloc ?_ _)); exact BK274.out⟩, ⟨by (try simp only [hl7_1]); (try simp only [hl7_2]); (try simp only [hl7_3]); (try simp only [hl7_4]); (with_reducible repeat (first | refine blk_drewN ?_ _ | refine blk_drew ?_ | refine blk_alloc ?_ _)); exact BK289.out⟩, ⟨by repeat (first | (with_reducible first | exact HB.out | apply below_alloc | apply pw_below_drewN | apply below_drew1 | refine below_set ?_ GE274.out | refine below_set ?_ GE289.out) | exact HB.out)⟩⟩
                               ·rw [if_neg c67] at H
                                exact absurd H (by simp)
                             ·replace c61 := Bool.eq_false_iff.mpr c61
                              subst c61
                              have H1 : (if x14_6 = true then (if 0 ≤ (wrap64 ((wrap64 ((wrap64 ((-1) - (rd ((rd_T41 l0_3 x9_2).f1) x11_3))) * (wrap64 ((l0_0.length : Int) + 1)))) + x13_4)) then (if (wrap64 ((wrap64 ((wrap64 ((-1) - (rd ((rd_T41 l0_3 x9_2).f1) x11_3))) * (wrap64 ((l0_0.length : Int) + 1)))) + x13_4)) < (x7_4.length : Int) then (if (rdOf false x7_4 (wrap64 ((wrap64 ((wrap64 ((-1) - (rd ((rd_T41 l0_3 x9_2).f1) x11_3))) * (wrap64 ((l0_0.length : Int) + 1)))) + x13_4)) = true) then (emendateref21_Follow.l3 k6 (l0_0.length : Int) (wrap64 ((l0_0.length : Int) + 1)) t275 t278 x7_4 x8_4 x9_2 x11_3 (wrap64 ((-1) - (rd ((rd_T41 l0_3 x9_2).f1) x11_3))) (wrap64 (x13_4 + 1)) l0_0 l0_1 a0_2 l0_3 ((rd_T41 l0_3 x9_2).f0) ((rd_T41 l0_3 x9_2).f1) ((rd_T41 l0_3 x9_2).f2)) else (emendateref21_Follow.l3 k6 (l0_0.length : Int) (wrap64 ((l0_0.length : Int) + 1)) t275 t278 (x7_4.set ((wrap64 ((wrap64 ((wrap64 ((-1) - (rd ((rd_T41 l0_3 x9_2).f1) x11_3))) * (wrap64 ((l0_0.length : Int) + 1)))) + x13_4)) : Int).toNat true) true x9_2 x11_3 (wrap64 ((-1) - (rd ((rd_T41 l0_3 x9_2).f1) x11_3))) (wrap64 (x13_4 + 1)) l0_0 l0_1 a0_2 l0_3 ((rd_T41 l0_3 x9_2).f0) ((rd_T41 l0_3 x9_2).f1) ((rd_T41 l0_3 x9_2).f2))) else (none)) else (none)) else (emendateref21_Follow.l3 k6 (l0_0.length : Int) (wrap64 ((l0_0.length : Int) + 1)) t275 t278 x7_4 x8_4 x9_2 x11_3 (wrap64 ((-1) - (rd ((rd_T41 l0_3 x9_2).f1) x11_3))) (wrap64 (x13_4 + 1)) l0_0 l0_1 a0_2 l0_3 ((rd_T41 l0_3 x9_2).f0) ((rd_T41 l0_3 x9_2).f1) ((rd_T41 l0_3 x9_2).f2))) = some r := by rw [if_neg (show ¬ (false = true) by decide)] at H; exact H
                              clear H
                              have H := H1
                              clear H1
                              by_cases c86 : x14_6 = true
                              ·subst c86
                               have H1 : (if 0 ≤ (wrap64 ((wrap64 ((wrap64 ((-1) - (rd ((rd_T41 l0_3 x9_2).f1) x11_3))) * (wrap64 ((l0_0.length : Int) + 1)))) + x13_4)) then (if (wrap64 ((wrap64 ((wrap64 ((-1) - (rd ((rd_T41 l0_3 x9_2).f1) x11_3))) * (wrap64 ((l0_0.length : Int) + 1)))) + x13_4)) < (x7_4.length : Int) then (if (rdOf false x7_4 (wrap64 ((wrap64 ((wrap64 ((-1) - (rd ((rd_T41 l0_3 x9_2).f1) x11_3))) * (wrap64 ((l0_0.length : Int) + 1)))) + x13_4)) = true) then (emendateref21_Follow.l3 k6 (l0_0.length : Int) (wrap64 ((l0_0.length : Int) + 1)) t275 t278 x7_4 x8_4 x9_2 x11_3 (wrap64 ((-1) - (rd ((rd_T41 l0_3 x9_2).f1) x11_3))) (wrap64 (x13_4 + 1)) l0_0 l0_1 a0_2 l0_3 ((rd_T41 l0_3 x9_2).f0) ((rd_T41 l0_3 x9_2).f1) ((rd_T41 l0_3 x9_2).f2)) else (emendateref21_Follow.l3 k6 (l0_0.length : Int) (wrap64 ((l0_0.length : Int) + 1)) t275 t278 (x7_4.set ((wrap64 ((wrap64 ((wrap64 ((-1) - (rd ((rd_T41 l0_3 x9_2).f1) x11_3))) * (wrap64 ((l0_0.length : Int) + 1)))) + x13_4)) : Int).toNat true) true x9_2 x11_3 (wrap64 ((-1) - (rd ((rd_T41 l0_3 x9_2).f1) x11_3))) (wrap64 (x13_4 + 1)) l0_0 l0_1 a0_2 l0_3 ((rd_T41 l0_3 x9_2).f0) ((rd_T41 l0_3 x9_2).f1) ((rd_T41 l0_3 x9_2).f2))) else (none)) else (none)) = some r := by rw [if_pos rfl] at H; exact H
                               clear H
                               have H := H1
                               clear H1
                               obtain ⟨ji87, hji87⟩ : ∃ j_ : Int, (wrap64 ((wrap64 ((wrap64 ((-1) - (rd ((rd_T41 l0_3 x9_2).f1) x11_3))) * (wrap64 ((l0_0.length : Int) + 1)))) + x13_4)) = j_ := ⟨_, rfl⟩
                               replace H : (if 0 ≤ (ji87) then (if (ji87) < (x7_4.length : Int) then (if (rdOf false x7_4 (ji87) = true) then (emendateref21_Follow.l3 k6 (l0_0.length : Int) (wrap64 ((l0_0.length : Int) + 1)) t275 t278 x7_4 x8_4 x9_2 x11_3 (wrap64 ((-1) - (rd ((rd_T41 l0_3 x9_2).f1) x11_3))) (wrap64 (x13_4 + 1)) l0_0 l0_1 a0_2 l0_3 ((rd_T41 l0_3 x9_2).f0) ((rd_T41 l0_3 x9_2).f1) ((rd_T41 l0_3 x9_2).f2)) else (emendateref21_Follow.l3 k6 (l0_0.length : Int) (wrap64 ((l0_0.length : Int) + 1)) t275 t278 (x7_4.set ((ji87) : Int).toNat true) true x9_2 x11_3 (wrap64 ((-1) - (rd ((rd_T41 l0_3 x9_2).f1) x11_3))) (wrap64 (x13_4 + 1)) l0_0 l0_1 a0_2 l0_3 ((rd_T41 l0_3 x9_2).f0) ((rd_T41 l0_3 x9_2).f1) ((rd_T41 l0_3 x9_2).f2))) else (none)) else (none)) = some r := by first | (rw [hji87] at H; exact H) | (simp only [hji87] at H ⊢; exact H)
                               (try rw [hji87] at A60)
                               have hji87w : (IntKind.i64.wrap ((wrap64 ((wrap64 ((-1) - (rd ((rd_T41 l0_3 x9_2).f1) x11_3))) * (wrap64 ((l0_0.length : Int) + 1)))) + x13_4)) = ji87 := (i64_w _).trans hji87
                               by_cases c88 : 0 ≤ (ji87)
                               ·rw [if_pos c88] at H
                                have c88b0 : decide (0 ≤ (ji87)) = true := decide_eq_true c88
                                clear c88
                                by_cases c89 : (ji87) < (x7_4.length : Int)
                                ·rw [if_pos c89] at H
                                 have c89b0 : decide ((ji87) < (x7_4.length : Int)) = true := decide_eq_true c89
                                 clear c89
                                 obtain ⟨bq90, hbq90⟩ : ∃ b_ : Bool, b_ = (rdOf false x7_4 (ji87)) := ⟨_, rfl⟩
                                 replace H : (if (bq90 = true) then (emendateref21_Follow.l3 k6 (l0_0.length : Int) (wrap64 ((l0_0.length : Int) + 1)) t275 t278 x7_4 x8_4 x9_2 x11_3 (wrap64 ((-1) - (rd ((rd_T41 l0_3 x9_2).f1) x11_3))) (wrap64 (x13_4 + 1)) l0_0 l0_1 a0_2 l0_3 ((rd_T41 l0_3 x9_2).f0) ((rd_T41 l0_3 x9_2).f1) ((rd_T41 l0_3 x9_2).f2)) else (emendateref21_Follow.l3 k6 (l0_0.length : Int) (wrap64 ((l0_0.length : Int) + 1)) t275 t278 (x7_4.set ((ji87) : Int).toNat true) true x9_2 x11_3 (wrap64 ((-1) - (rd ((rd_T41 l0_3 x9_2).f1) x11_3))) (wrap64 (x13_4 + 1)) l0_0 l0_1 a0_2 l0_3 ((rd_T41 l0_3 x9_2).f0) ((rd_T41 l0_3 x9_2).f1) ((rd_T41 l0_3 x9_2).f2))) = some r := by rw [← hbq90] at H; exact H
                                 have Nbq90 := Aside0.mk hbq90
                                 clear hbq90
                                 by_cases c91 : (bq90 = true)
                                 ·subst c91
                                  have H1 : (emendateref21_Follow.l3 k6 (l0_0.length : Int) (wrap64 ((l0_0.length : Int) + 1)) t275 t278 x7_4 x8_4 x9_2 x11_3 (wrap64 ((-1) - (rd ((rd_T41 l0_3 x9_2).f1) x11_3))) (wrap64 (x13_4 + 1)) l0_0 l0_1 a0_2 l0_3 ((rd_T41 l0_3 x9_2).f0) ((rd_T41 l0_3 x9_2).f1) ((rd_T41 l0_3 x9_2).f2)) = some r := by rw [if_pos rfl] at H; exact H
                                  clear H
                                  have H := H1
                                  clear H1
                                  have H' := Aside0.mk H
                                  clear H
                                  have hnb92 := NB289_274.out
                                  have hnc92 := NB274_289.out
                                  have hcz93_0 : wr.cell? ⟨gb289, 0, none⟩ = some (.int .i64 ((rd_T41 l0_3 x9_2).f0)) := (blk_cell BK289.out 0).trans rfl
                                  have hcz93_1 : wr.cell? ⟨gb289, 1, none⟩ = some (.slice (some ad290) ((rd_T41 l0_3 x9_2).f1).length c288_1) := (blk_cell BK289.out 1).trans rfl
                                  have hcz93_2 : wr.cell? ⟨gb289, 2, none⟩ = some (.int .i64 ((rd_T41 l0_3 x9_2).f2)) := (blk_cell BK289.out 2).trans rfl
                                  have hfz93_0 := blk_frozen BK289.out 0
                                  have hfz93_1 := blk_frozen BK289.out 1
                                  have hfz93_2 := blk_frozen BK289.out 2
                                  obtain ⟨i094, hi094, _, hsz94, _⟩ := info_parts info3
                                  obtain ⟨A94, hcut94, hA94, hC94⟩ := print_mid_of (P := Try.prog) (Value.int .i64) 0 39 3 .i64 .i64 Try.underlying39 hi094 hsz94 (some ad290) c288_1 ((rd_T41 l0_3 x9_2).f1) ((wrap64 (x11_3 + 1))) x15_6 (of_decide_eq_true (by first | (with_reducible assumption) | assumption)) (by first | omega | exact of_decide_eq_true (by first | (with_reducible assumption) | assumption)) (of_decide_eq_true (by first | (with_reducible assumption) | assumption)) HC288_1.out
                                  have HLN94 := Aside0.mk (len_mid_n ((rd_T41 l0_3 x9_2).f1) ((wrap64 (x11_3 + 1))) (x15_6) (of_decide_eq_true (by first | (with_reducible assumption) | assumption)) (by first | omega | exact of_decide_eq_true (by first | (with_reducible assumption) | assumption)) (of_decide_eq_true (by first | (with_reducible assumption) | assumption)))
                                  have HR295 := Aside0.mk (Kd.C_of_reads (h1 := fun _ => rfl) (hA94 _ (Kd.reads_of_C HR288_1.out)))
                                  have HC295 := Aside0.mk hC94
                                  clear hA94 hC94 hi094 hsz94
                                  obtain ⟨Ao95, co95, eo95⟩ := Kd.R_slice HO_5.out
                                  subst eo95
                                  go_wp2_with (first | (go_at_call 40; (with_reducible refine (emendateref21_all.callsN k6 _ _ ((((rd_T41 l0_3 x9_2).f1).take (x15_6 : Int).toNat).drop (((wrap64 (x11_3 + 1))) : Int).toNat) HLN94.out _ _ t275 false false _ ?side1 ?side2 ?side3 ?side4 A60.out).mono ?_); (case side1 => repeat (first | exact (Kd.C_below HR295.out HB.out) | (with_reducible refine Kd.C_alloc ?_ _) | (with_reducible refine Kd.C_drewN ?_ _) | (with_reducible refine Kd.C_drew ?_))); (case side2 => exact HC295.out); (case side3 => repeat (first | exact (Kd.R_reads' HO_5.out).2.2 | (with_reducible refine Kd.C_alloc ?_ _) | (with_reducible refine Kd.C_drewN ?_ _) | (with_reducible refine Kd.C_drew ?_))); (case side4 => exact (Kd.R_reads' HO_5.out).2.1); rintro e w' ⟨rfl, ⟨nd, rfl⟩⟩; have p301 : 0 ≤ ((ji87) : Int) := of_decide_eq_true (by first | (with_reducible assumption) | assumption); have q301 : (ji87) < (x7_4.length : Int) := of_decide_eq_true (by first | (with_reducible assumption) | assumption); obtain ⟨ad301, e301, hx301_0⟩ := Kd.at_bool (Kd.R_reads' HO_7.out).2.2 (ji87) p301 q301; (try rw [← Nbq90.out] at hx301_0); obtain rfl : (⟨go10, 0, none⟩ : Addr) = ad301 := (by injection e301); (first | simp only [add_plain] at hx301_0 | simp only [add_at] at hx301_0 | simp only [Addr.add, Nat.zero_add] at hx301_0 | skip); replace p301 := eq_true p301; replace q301 := eq_true q301))
                                  (try simp only [← hl7_4])
                                  go_roundg k6
                                  case measure => have := HK1.out; have := HK2.out; have := HK3.out; have := HK4.out; have := HJ36.out; have := HK6.out; omega
                                  case rel => exact ⟨(x7_4), (x8_4), (wrap64 (x13_4 + 1)), (by first | rfl | (simp; done) | (simp [*]; done)), (by first | rfl | (simp; done) | (simp [*]; done)), H', ⟨by have := HK1.out; have := HK2.out; have := HK3.out; have := HK4.out; have := HJ36.out; have := HK6.out; omega⟩, ⟨by (try simp only [hl7_1]); (try simp only [hl7_2]); (try simp only [hl7_3]); (try simp only [hl7_4]); (with_reducible repeat (first | apply Kd.R_alloc | apply Kd.R_drewN | apply Kd.R_drew)); exact HO_5.out⟩, ⟨by (try simp only [hl7_1]); (try simp only [hl7_2]); (try simp only [hl7_3]); (try simp only [hl7_4]); (with_reducible repeat (first | apply Kd.R_alloc | apply Kd.R_drewN | apply Kd.R_drew)); exact HO_6.out⟩, ⟨by (try simp only [hl7_1]); (try simp only [hl7_2]); (try simp only [hl7_3]); (try simp only [hl7_4]); (with_reducible repeat (first | apply Kd.R_alloc | apply Kd.R_drewN | apply Kd.R_drew)); exact HO_7.out⟩, ⟨by (try simp only [hl7_1]); (try simp only [hl7_2]); (try simp only [hl7_3]); (try simp only [hl7_4]); (with_reducible repeat (first | refine blk_drewN ?_ _ | refine blk_drew ?_ | refine blk_alloc ?_ _)); exact BK274.out⟩, ⟨by (try simp only [hl7_1]); (try simp only [hl7_2]); (try simp only [hl7_3]); (try simp only [hl7_4]); (with_reducible repeat (first | refine blk_drewN ?_ _ | refine blk_drew ?_ | refine blk_alloc ?_ _)); exact BK289.out⟩, ⟨by repeat (first | (with_reducible first | exact HB.out | apply below_alloc | apply pw_below_drewN | apply below_drew1 | refine below_set ?_ GE274.out | refine below_set ?_ GE289.out) | exact HB.out)⟩⟩
                                 ·replace c91 := Bool.eq_false_iff.mpr c91
                                  subst c91
                                  have H1 : (emendateref21_Follow.l3 k6 (l0_0.length : Int) (wrap64 ((l0_0.length : Int) + 1)) t275 t278 (x7_4.set ((ji87) : Int).toNat true) true x9_2 x11_3 (wrap64 ((-1) - (rd ((rd_T41 l0_3 x9_2).f1) x11_3))) (wrap64 (x13_4 + 1)) l0_0 l0_1 a0_2 l0_3 ((rd_T41 l0_3 x9_2).f0) ((rd_T41 l0_3 x9_2).f1) ((rd_T41 l0_3 x9_2).f2)) = some r := by rw [if_neg (show ¬ (false = true) by decide)] at H; exact H
                                  clear H
                                  have H := H1
                                  clear H1
                                  obtain ⟨y302, hy302⟩ : ∃ y_ : List Bool, y_ = (x7_4.set ((ji87) : Int).toNat true) := ⟨_, rfl⟩
                                  replace H : (emendateref21_Follow.l3 k6 (l0_0.length : Int) (wrap64 ((l0_0.length : Int) + 1)) t275 t278 y302 true x9_2 x11_3 (wrap64 ((-1) - (rd ((rd_T41 l0_3 x9_2).f1) x11_3))) (wrap64 (x13_4 + 1)) l0_0 l0_1 a0_2 l0_3 ((rd_T41 l0_3 x9_2).f0) ((rd_T41 l0_3 x9_2).f1) ((rd_T41 l0_3 x9_2).f2)) = some r := by first | (rw [hy302]; with_reducible exact H) | (have H2_ := (Option.bind_some _ _).symm.trans H; rw [hy302]; with_reducible exact H2_) | (have H2_ := (Option.bind_some _ _).symm.trans H; with_reducible exact H2_) | with_reducible exact H | (rw [hy302]; exact H) | exact H
                                  have Ny302 := Aside0.mk hy302
                                  clear hy302
                                  have H' := Aside0.mk H
                                  clear H
                                  have hnb97 := NB289_274.out
                                  have hnc97 := NB274_289.out
                                  have hcz98_0 : wr.cell? ⟨gb289, 0, none⟩ = some (.int .i64 ((rd_T41 l0_3 x9_2).f0)) := (blk_cell BK289.out 0).trans rfl
                                  have hcz98_1 : wr.cell? ⟨gb289, 1, none⟩ = some (.slice (some ad290) ((rd_T41 l0_3 x9_2).f1).length c288_1) := (blk_cell BK289.out 1).trans rfl
                                  have hcz98_2 : wr.cell? ⟨gb289, 2, none⟩ = some (.int .i64 ((rd_T41 l0_3 x9_2).f2)) := (blk_cell BK289.out 2).trans rfl
                                  have hfz98_0 := blk_frozen BK289.out 0
                                  have hfz98_1 := blk_frozen BK289.out 1
                                  have hfz98_2 := blk_frozen BK289.out 2
                                  obtain ⟨i099, hi099, _, hsz99, _⟩ := info_parts info3
                                  obtain ⟨A99, hcut99, hA99, hC99⟩ := print_mid_of (P := Try.prog) (Value.int .i64) 0 39 3 .i64 .i64 Try.underlying39 hi099 hsz99 (some ad290) c288_1 ((rd_T41 l0_3 x9_2).f1) ((wrap64 (x11_3 + 1))) x15_6 (of_decide_eq_true (by first | (with_reducible assumption) | assumption)) (by first | omega | exact of_decide_eq_true (by first | (with_reducible assumption) | assumption)) (of_decide_eq_true (by first | (with_reducible assumption) | assumption)) HC288_1.out
                                  have HLN99 := Aside0.mk (len_mid_n ((rd_T41 l0_3 x9_2).f1) ((wrap64 (x11_3 + 1))) (x15_6) (of_decide_eq_true (by first | (with_reducible assumption) | assumption)) (by first | omega | exact of_decide_eq_true (by first | (with_reducible assumption) | assumption)) (of_decide_eq_true (by first | (with_reducible assumption) | assumption)))
                                  have HR295 := Aside0.mk (Kd.C_of_reads (h1 := fun _ => rfl) (hA99 _ (Kd.reads_of_C HR288_1.out)))
                                  have HC295 := Aside0.mk hC99
                                  clear hA99 hC99 hi099 hsz99
                                  obtain ⟨Ao100, co100, eo100⟩ := Kd.R_slice HO_5.out
                                  subst eo100
                                  go_wp2_with (first | (go_at_call 40; (with_reducible refine (emendateref21_all.callsN k6 _ _ ((((rd_T41 l0_3 x9_2).f1).take (x15_6 : Int).toNat).drop (((wrap64 (x11_3 + 1))) : Int).toNat) HLN99.out _ _ t275 false false _ ?side1 ?side2 ?side3 ?side4 A60.out).mono ?_); (case side1 => repeat (first | exact (Kd.C_below HR295.out HB.out) | (with_reducible refine Kd.C_alloc ?_ _) | (with_reducible refine Kd.C_drewN ?_ _) | (with_reducible refine Kd.C_drew ?_))); (case side2 => exact HC295.out); (case side3 => repeat (first | exact (Kd.R_reads' HO_5.out).2.2 | (with_reducible refine Kd.C_alloc ?_ _) | (with_reducible refine Kd.C_drewN ?_ _) | (with_reducible refine Kd.C_drew ?_))); (case side4 => exact (Kd.R_reads' HO_5.out).2.1); rintro e w' ⟨rfl, ⟨nd, rfl⟩⟩; (try (rw [drewN_self wr]; generalize hq_ : World.drewN wr _ = wr; have n0_ : Aside0 (Kd.R Kd.bool 4 wr w.heap.size (fun k_ => some k_ ≠ (v279 : Value).ownBlock ∧ some k_ ≠ (.slice (some ⟨go10, 0, none⟩) x7_4.length co10 : Value).ownBlock) (.slice Ao100 t275.length co100) t275) := ⟨by rw [← hq_]; exact (by (with_reducible repeat (first | apply Kd.R_alloc | apply Kd.R_drewN | apply Kd.R_drew)); exact HO_5.out)⟩; have n1_ : Aside0 (Kd.R Kd.bool 4 wr w.heap.size (fun k_ => some k_ ≠ (.slice Ao100 t275.length co100 : Value).ownBlock ∧ some k_ ≠ (.slice (some ⟨go10, 0, none⟩) x7_4.length co10 : Value).ownBlock) v279 t278) := ⟨by rw [← hq_]; exact (by (with_reducible repeat (first | apply Kd.R_alloc | apply Kd.R_drewN | apply Kd.R_drew)); exact HO_6.out)⟩; have n2_ : Aside0 (Kd.R Kd.bool 4 wr w.heap.size (fun k_ => some k_ ≠ (.slice Ao100 t275.length co100 : Value).ownBlock ∧ some k_ ≠ (v279 : Value).ownBlock) (.slice (some ⟨go10, 0, none⟩) x7_4.length co10) x7_4) := ⟨by rw [← hq_]; exact (by (with_reducible repeat (first | apply Kd.R_alloc | apply Kd.R_drewN | apply Kd.R_drew)); exact HO_7.out)⟩; have n3_ : Aside0 (wr.heap[gb274]? = some (.cells #[.slice A0_0 l0_0.length c0_0, .slice A0_1 l0_1.length c0_1, .int .i64 a0_2, .slice (some ad288) l0_3.length c0_3] 25 (0, 0))) := ⟨by rw [← hq_]; exact (by (with_reducible repeat (first | refine blk_drewN ?_ _ | refine blk_drew ?_ | refine blk_alloc ?_ _)); exact BK274.out)⟩; have n4_ : Aside0 (wr.heap[gb289]? = some (.cells #[.int .i64 ((rd_T41 l0_3 x9_2).f0), .slice (some ad290) ((rd_T41 l0_3 x9_2).f1).length c288_1, .int .i64 ((rd_T41 l0_3 x9_2).f2)] 41 (0, 0))) := ⟨by rw [← hq_]; exact (by (with_reducible repeat (first | refine blk_drewN ?_ _ | refine blk_drew ?_ | refine blk_alloc ?_ _)); exact BK289.out)⟩; have n5_ : Aside0 (Below w.heap.size w wr) := ⟨by rw [← hq_]; exact (by repeat (first | (with_reducible first | exact HB.out | apply below_alloc | apply pw_below_drewN | apply below_drew1 | refine below_set ?_ GE274.out | refine below_set ?_ GE289.out) | exact HB.out))⟩; clear HO_5 HO_6 HO_7 BK274 BK289 HB hq_; have HO_5 := n0_; have HO_6 := n1_; have HO_7 := n2_; have BK274 := n3_; have BK289 := n4_; have HB := n5_; clear n0_ n1_ n2_ n3_ n4_ n5_)); have p301 : 0 ≤ ((ji87) : Int) := of_decide_eq_true (by first | (with_reducible assumption) | assumption); have q301 : (ji87) < (x7_4.length : Int) := of_decide_eq_true (by first | (with_reducible assumption) | assumption); obtain ⟨ad301, e301, hx301_0⟩ := Kd.at_bool (Kd.R_reads' HO_7.out).2.2 (ji87) p301 q301; (try rw [← Nbq90.out] at hx301_0); obtain rfl : (⟨go10, 0, none⟩ : Addr) = ad301 := (by injection e301); (first | simp only [add_plain] at hx301_0 | simp only [add_at] at hx301_0 | simp only [Addr.add, Nat.zero_add] at hx301_0 | skip); replace p301 := eq_true p301; replace q301 := eq_true q301; have p96 : 0 ≤ ((ji87) : Int) := of_decide_eq_true (by first | (with_reducible assumption) | assumption); have q96 : ((ji87) : Int) < ((x7_4.length : Int) : Int) := of_decide_eq_true (by first | (with_reducible assumption) | assumption); obtain ⟨hx96_0, hf96_0⟩ := Kd.R_celln false HO_7.out ((ji87) : Int) p96 q96; replace p96 := eq_true p96; replace q96 := eq_true q96; obtain ⟨hy101_, hz101_⟩ := Kd.R_celln false HO_7.out ((ji87) : Int) (of_decide_eq_true (by first | (with_reducible assumption) | assumption)) (of_decide_eq_true (by first | (with_reducible assumption) | assumption)); have HP101 := Kd.R_putg HO_7.out ((ji87) : Int) true) | ((with_reducible refine gate_store (t := 4) (p := 168) rfl ?_); refine store_event (t := 4) (p := 168) (v := ?vo_w102) (w1 := (wr.setCell ⟨go10, ((ji87) : Int).toNat, none⟩ (.bool true))) ?hg ?ho ?hn ?hr ?_; (case ho => rfl); (case hg => rfl); (case hn => rfl); (case hr => first | (go_simp; done) | (go_simp; rfl)); intro w102 hw; have hg : wr.grownBy w102 (some go10) := (by rw [hw]; exact HP101.2); have hp_ : Kd.R Kd.bool 4 w102 w.heap.size (fun k_ => some k_ ≠ (.slice Ao100 t275.length co100 : Value).ownBlock ∧ some k_ ≠ (v279 : Value).ownBlock) (.slice (some ⟨go10, 0, none⟩) x7_4.length co10) y302 := (by rw [hw, Ny302.out]; exact HP101.1); clear HP101; have n0_ := Aside0.mk (Kd.R_after (v := (.slice (some ⟨go10, 0, none⟩) x7_4.length co10)) (v1 := (.slice (some ⟨go10, 0, none⟩) x7_4.length co10)) (ok := (fun k_ => some k_ ≠ (v279 : Value).ownBlock)) (by (with_reducible repeat (first | apply Kd.R_alloc | apply Kd.R_drewN | apply Kd.R_drew)); exact HO_5.out) hg (.inl rfl)); have n1_ := Aside0.mk (Kd.R_after (v := (.slice (some ⟨go10, 0, none⟩) x7_4.length co10)) (v1 := (.slice (some ⟨go10, 0, none⟩) x7_4.length co10)) (ok := (fun k_ => some k_ ≠ (.slice Ao100 t275.length co100 : Value).ownBlock)) (by (with_reducible repeat (first | apply Kd.R_alloc | apply Kd.R_drewN | apply Kd.R_drew)); exact HO_6.out) hg (.inl rfl)); have n2_ := Aside0.mk (hp_); have n3_ := Aside0.mk (blk_grown (g := gb274) (o := .cells #[.slice A0_0 l0_0.length c0_0, .slice A0_1 l0_1.length c0_1, .int .i64 a0_2, .slice (some ad288) l0_3.length c0_3] 25 (0, 0)) (by (with_reducible repeat (first | refine blk_drewN ?_ _ | refine blk_drew ?_ | refine blk_alloc ?_ _)); exact BK274.out) hg (Kd.R_ne HO_7.out BK274.out (by decide))); have n4_ := Aside0.mk (blk_grown (g := gb289) (o := .cells #[.int .i64 ((rd_T41 l0_3 x9_2).f0), .slice (some ad290) ((rd_T41 l0_3 x9_2).f1).length c288_1, .int .i64 ((rd_T41 l0_3 x9_2).f2)] 41 (0, 0)) (by (with_reducible repeat (first | refine blk_drewN ?_ _ | refine blk_drew ?_ | refine blk_alloc ?_ _)); exact BK289.out) hg (Kd.R_ne HO_7.out BK289.out (by decide))); have n5_ := Aside0.mk ((by rw [hw]; exact below_set (HB.out) GB10.out : Below w.heap.size w w102)); clear HO_5; clear HO_6; clear HO_7; clear BK274; clear BK289; clear HB; have HO_5 := n0_; have HO_6 := n1_; have HO_7 := n2_; have BK274 := n3_; have BK289 := n4_; have HB := n5_; clear n0_ n1_ n2_ n3_ n4_ n5_; clear hg hw hp_))
                                  (try simp only [← hl7_4])
                                  go_roundg k6
                                  case measure => have := HK1.out; have := HK2.out; have := HK3.out; have := HK4.out; have := HJ36.out; have := HK6.out; omega
                                  case rel => exact ⟨(y302), (true), (wrap64 (x13_4 + 1)), (by first | rfl | (simp; done) | (simp [*]; done)), (by first | rfl | (simp; done) | (simp [*]; done)), H', ⟨by have := HK1.out; have := HK2.out; have := HK3.out; have := HK4.out; have := HJ36.out; have := HK6.out; omega⟩, ⟨by (try simp only [hl7_1]); (try simp only [hl7_2]); (try simp only [hl7_3]); (try simp only [hl7_4]); (with_reducible repeat (first | apply Kd.R_alloc | apply Kd.R_drewN | apply Kd.R_drew)); exact HO_5.out⟩, ⟨by (try simp only [hl7_1]); (try simp only [hl7_2]); (try simp only [hl7_3]); (try simp only [hl7_4]); (with_reducible repeat (first | apply Kd.R_alloc | apply Kd.R_drewN | apply Kd.R_drew)); exact HO_6.out⟩, ⟨by (try simp only [hl7_1]); (try simp only [hl7_2]); (try simp only [hl7_3]); (try simp only [hl7_4]); (with_reducible repeat (first | apply Kd.R_alloc | apply Kd.R_drewN | apply Kd.R_drew)); exact HO_7.out⟩, ⟨by (try simp only [hl7_1]); (try simp only [hl7_2]); (try simp only [hl7_3]); (try simp only [hl7_4]); (with_reducible repeat (first | refine blk_drewN ?_ _ | refine blk_drew ?_ | refine blk_alloc ?_ _)); exact BK274.out⟩, ⟨by (try simp only [hl7_1]); (try simp only [hl7_2]); (try simp only [hl7_3]); (try simp only [hl7_4]); (with_reducible repeat (first | refine blk_drewN ?_ _ | refine blk_drew ?_ | refine blk_alloc ?_ _)); exact BK289.out⟩, ⟨by repeat (first | (with_reducible first | exact HB.out | apply below_alloc | apply pw_below_drewN | apply below_drew1 | refine below_set ?_ GE274.out | refine below_set ?_ GE289.out) | exact HB.out)⟩⟩
                                ·rw [if_neg c89] at H
                                 exact absurd H (by simp)
                               ·rw [if_neg c88] at H
                                exact absurd H (by simp)
                              ·replace c86 := Bool.eq_false_iff.mpr c86
                               subst c86
                               have H1 : (emendateref21_Follow.l3 k6 (l0_0.length : Int) (wrap64 ((l0_0.length : Int) + 1)) t275 t278 x7_4 x8_4 x9_2 x11_3 (wrap64 ((-1) - (rd ((rd_T41 l0_3 x9_2).f1) x11_3))) (wrap64 (x13_4 + 1)) l0_0 l0_1 a0_2 l0_3 ((rd_T41 l0_3 x9_2).f0) ((rd_T41 l0_3 x9_2).f1) ((rd_T41 l0_3 x9_2).f2)) = some r := by rw [if_neg (show ¬ (false = true) by decide)] at H; exact H
                               clear H
                               have H := H1
                               clear H1
                               have H' := Aside0.mk H
                               clear H
                               have hnb103 := NB289_274.out
                               have hnc103 := NB274_289.out
                               have hcz104_0 : wr.cell? ⟨gb289, 0, none⟩ = some (.int .i64 ((rd_T41 l0_3 x9_2).f0)) := (blk_cell BK289.out 0).trans rfl
                               have hcz104_1 : wr.cell? ⟨gb289, 1, none⟩ = some (.slice (some ad290) ((rd_T41 l0_3 x9_2).f1).length c288_1) := (blk_cell BK289.out 1).trans rfl
                               have hcz104_2 : wr.cell? ⟨gb289, 2, none⟩ = some (.int .i64 ((rd_T41 l0_3 x9_2).f2)) := (blk_cell BK289.out 2).trans rfl
                               have hfz104_0 := blk_frozen BK289.out 0
                               have hfz104_1 := blk_frozen BK289.out 1
                               have hfz104_2 := blk_frozen BK289.out 2
                               obtain ⟨i0105, hi0105, _, hsz105, _⟩ := info_parts info3
                               obtain ⟨A105, hcut105, hA105, hC105⟩ := print_mid_of (P := Try.prog) (Value.int .i64) 0 39 3 .i64 .i64 Try.underlying39 hi0105 hsz105 (some ad290) c288_1 ((rd_T41 l0_3 x9_2).f1) ((wrap64 (x11_3 + 1))) x15_6 (of_decide_eq_true (by first | (with_reducible assumption) | assumption)) (by first | omega | exact of_decide_eq_true (by first | (with_reducible assumption) | assumption)) (of_decide_eq_true (by first | (with_reducible assumption) | assumption)) HC288_1.out
                               have HLN105 := Aside0.mk (len_mid_n ((rd_T41 l0_3 x9_2).f1) ((wrap64 (x11_3 + 1))) (x15_6) (of_decide_eq_true (by first | (with_reducible assumption) | assumption)) (by first | omega | exact of_decide_eq_true (by first | (with_reducible assumption) | assumption)) (of_decide_eq_true (by first | (with_reducible assumption) | assumption)))
                               have HR295 := Aside0.mk (Kd.C_of_reads (h1 := fun _ => rfl) (hA105 _ (Kd.reads_of_C HR288_1.out)))
                               have HC295 := Aside0.mk hC105
                               clear hA105 hC105 hi0105 hsz105
                               obtain ⟨Ao106, co106, eo106⟩ := Kd.R_slice HO_5.out
                               subst eo106
                               go_wp2_with (first | (go_at_call 40; (with_reducible refine (emendateref21_all.callsN k6 _ _ ((((rd_T41 l0_3 x9_2).f1).take (x15_6 : Int).toNat).drop (((wrap64 (x11_3 + 1))) : Int).toNat) HLN105.out _ _ t275 false false _ ?side1 ?side2 ?side3 ?side4 A60.out).mono ?_); (case side1 => repeat (first | exact (Kd.C_below HR295.out HB.out) | (with_reducible refine Kd.C_alloc ?_ _) | (with_reducible refine Kd.C_drewN ?_ _) | (with_reducible refine Kd.C_drew ?_))); (case side2 => exact HC295.out); (case side3 => repeat (first | exact (Kd.R_reads' HO_5.out).2.2 | (with_reducible refine Kd.C_alloc ?_ _) | (with_reducible refine Kd.C_drewN ?_ _) | (with_reducible refine Kd.C_drew ?_))); (case side4 => exact (Kd.R_reads' HO_5.out).2.1); rintro e w' ⟨rfl, ⟨nd, rfl⟩⟩))
                               (try simp only [← hl7_4])
                               go_roundg k6
                               case measure => have := HK1.out; have := HK2.out; have := HK3.out; have := HK4.out; have := HJ36.out; have := HK6.out; omega
                               case rel => exact ⟨(x7_4), (x8_4), (wrap64 (x13_4 + 1)), (by first | rfl | (simp; done) | (simp [*]; done)), (by first | rfl | (simp; done) | (simp [*]; done)), H', ⟨by have := HK1.out; have := HK2.out; have := HK3.out; have := HK4.out; have := HJ36.out; have := HK6.out; omega⟩, ⟨by (try simp only [hl7_1]); (try simp only [hl7_2]); (try simp only [hl7_3]); (try simp only [hl7_4]); (with_reducible repeat (first | apply Kd.R_alloc | apply Kd.R_drewN | apply Kd.R_drew)); exact HO_5.out⟩, ⟨by (try simp only [hl7_1]); (try simp only [hl7_2]); (try simp only [hl7_3]); (try simp only [hl7_4]); (with_reducible repeat (first | apply Kd.R_alloc | apply Kd.R_drewN | apply Kd.R_drew)); exact HO_6.out⟩, ⟨by (try simp only [hl7_1]); (try simp only [hl7_2]); (try simp only [hl7_3]); (try simp only [hl7_4]); (with_reducible repeat (first | apply Kd.R_alloc | apply Kd.R_drewN | apply Kd.R_drew)); exact HO_7.out⟩, ⟨by (try simp only [hl7_1]); (try simp only [hl7_2]); (try simp only [hl7_3]); (try simp only [hl7_4]); (with_reducible repeat (first | refine blk_drewN ?_ _ | refine blk_drew ?_ | refine blk_alloc ?_ _)); exact BK274.out⟩, ⟨by (try simp only [hl7_1]); (try simp only [hl7_2]); (try simp only [hl7_3]); (try simp only [hl7_4]); (with_reducible repeat (first | refine blk_drewN ?_ _ | refine blk_drew ?_ | refine blk_alloc ?_ _)); exact BK289.out⟩, ⟨by repeat (first | (with_reducible first | exact HB.out | apply below_alloc | apply pw_below_drewN | apply below_drew1 | refine below_set ?_ GE274.out | refine below_set ?_ GE289.out) | exact HB.out)⟩⟩
                            ·rw [if_neg c59] at H
                             exact absurd H (by simp)
                           ·rw [if_neg c58] at H
                            exact absurd H (by simp)
                          ·rw [if_neg c57] at H
                           exact absurd H (by simp)
                         ·rw [if_neg c55] at H
                          have c55b0 : decide (0 < x13_4) = false := decide_eq_false c55
                          clear c55
                          by_cases c107 : x14_6 = true
                          ·subst c107
                           have H1 : (if 0 ≤ (wrap64 ((wrap64 ((wrap64 ((-1) - (rd ((rd_T41 l0_3 x9_2).f1) x11_3))) * (wrap64 ((l0_0.length : Int) + 1)))) + x13_4)) then (if (wrap64 ((wrap64 ((wrap64 ((-1) - (rd ((rd_T41 l0_3 x9_2).f1) x11_3))) * (wrap64 ((l0_0.length : Int) + 1)))) + x13_4)) < (x7_4.length : Int) then (if (rdOf false x7_4 (wrap64 ((wrap64 ((wrap64 ((-1) - (rd ((rd_T41 l0_3 x9_2).f1) x11_3))) * (wrap64 ((l0_0.length : Int) + 1)))) + x13_4)) = true) then (emendateref21_Follow.l3 k6 (l0_0.length : Int) (wrap64 ((l0_0.length : Int) + 1)) t275 t278 x7_4 x8_4 x9_2 x11_3 (wrap64 ((-1) - (rd ((rd_T41 l0_3 x9_2).f1) x11_3))) (wrap64 (x13_4 + 1)) l0_0 l0_1 a0_2 l0_3 ((rd_T41 l0_3 x9_2).f0) ((rd_T41 l0_3 x9_2).f1) ((rd_T41 l0_3 x9_2).f2)) else (emendateref21_Follow.l3 k6 (l0_0.length : Int) (wrap64 ((l0_0.length : Int) + 1)) t275 t278 (x7_4.set ((wrap64 ((wrap64 ((wrap64 ((-1) - (rd ((rd_T41 l0_3 x9_2).f1) x11_3))) * (wrap64 ((l0_0.length : Int) + 1)))) + x13_4)) : Int).toNat true) true x9_2 x11_3 (wrap64 ((-1) - (rd ((rd_T41 l0_3 x9_2).f1) x11_3))) (wrap64 (x13_4 + 1)) l0_0 l0_1 a0_2 l0_3 ((rd_T41 l0_3 x9_2).f0) ((rd_T41 l0_3 x9_2).f1) ((rd_T41 l0_3 x9_2).f2))) else (none)) else (none)) = some r := by rw [if_pos rfl] at H; exact H
                           clear H
                           have H := H1
                           clear H1
                           obtain ⟨ji108, hji108⟩ : ∃ j_ : Int, (wrap64 ((wrap64 ((wrap64 ((-1) - (rd ((rd_T41 l0_3 x9_2).f1) x11_3))) * (wrap64 ((l0_0.length : Int) + 1)))) + x13_4)) = j_ := ⟨_, rfl⟩
                           replace H : (if 0 ≤ (ji108) then (if (ji108) < (x7_4.length : Int) then (if (rdOf false x7_4 (ji108) = true) then (emendateref21_Follow.l3 k6 (l0_0.length : Int) (wrap64 ((l0_0.length : Int) + 1)) t275 t278 x7_4 x8_4 x9_2 x11_3 (wrap64 ((-1) - (rd ((rd_T41 l0_3 x9_2).f1) x11_3))) (wrap64 (x13_4 + 1)) l0_0 l0_1 a0_2 l0_3 ((rd_T41 l0_3 x9_2).f0) ((rd_T41 l0_3 x9_2).f1) ((rd_T41 l0_3 x9_2).f2)) else (emendateref21_Follow.l3 k6 (l0_0.length : Int) (wrap64 ((l0_0.length : Int) + 1)) t275 t278 (x7_4.set ((ji108) : Int).toNat true) true x9_2 x11_3 (wrap64 ((-1) - (rd ((rd_T41 l0_3 x9_2).f1) x11_3))) (wrap64 (x13_4 + 1)) l0_0 l0_1 a0_2 l0_3 ((rd_T41 l0_3 x9_2).f0) ((rd_T41 l0_3 x9_2).f1) ((rd_T41 l0_3 x9_2).f2))) else (none)) else (none)) = some r := by first | (rw [hji108] at H; exact H) | (simp only [hji108] at H ⊢; exact H)
                           have hji108w : (IntKind.i64.wrap ((wrap64 ((wrap64 ((-1) - (rd ((rd_T41 l0_3 x9_2).f1) x11_3))) * (wrap64 ((l0_0.length : Int) + 1)))) + x13_4)) = ji108 := (i64_w _).trans hji108
                           by_cases c109 : 0 ≤ (ji108)
                           ·rw [if_pos c109] at H
                            have c109b0 : decide (0 ≤ (ji108)) = true := decide_eq_true c109
                            clear c109
                            by_cases c110 : (ji108) < (x7_4.length : Int)
                            ·rw [if_pos c110] at H
                             have c110b0 : decide ((ji108) < (x7_4.length : Int)) = true := decide_eq_true c110
                             clear c110
                             obtain ⟨bq111, hbq111⟩ : ∃ b_ : Bool, b_ = (rdOf false x7_4 (ji108)) := ⟨_, rfl⟩
                             replace H : (if (bq111 = true) then (emendateref21_Follow.l3 k6 (l0_0.length : Int) (wrap64 ((l0_0.length : Int) + 1)) t275 t278 x7_4 x8_4 x9_2 x11_3 (wrap64 ((-1) - (rd ((rd_T41 l0_3 x9_2).f1) x11_3))) (wrap64 (x13_4 + 1)) l0_0 l0_1 a0_2 l0_3 ((rd_T41 l0_3 x9_2).f0) ((rd_T41 l0_3 x9_2).f1) ((rd_T41 l0_3 x9_2).f2)) else (emendateref21_Follow.l3 k6 (l0_0.length : Int) (wrap64 ((l0_0.length : Int) + 1)) t275 t278 (x7_4.set ((ji108) : Int).toNat true) true x9_2 x11_3 (wrap64 ((-1) - (rd ((rd_T41 l0_3 x9_2).f1) x11_3))) (wrap64 (x13_4 + 1)) l0_0 l0_1 a0_2 l0_3 ((rd_T41 l0_3 x9_2).f0) ((rd_T41 l0_3 x9_2).f1) ((rd_T41 l0_3 x9_2).f2))) = some r := by rw [← hbq111] at H; exact H
                             have Nbq111 := Aside0.mk hbq111
                             clear hbq111
                             by_cases c112 : (bq111 = true)
                             ·subst c112
                              have H1 : (emendateref21_Follow.l3 k6 (l0_0.length : Int) (wrap64 ((l0_0.length : Int) + 1)) t275 t278 x7_4 x8_4 x9_2 x11_3 (wrap64 ((-1) - (rd ((rd_T41 l0_3 x9_2).f1) x11_3))) (wrap64 (x13_4 + 1)) l0_0 l0_1 a0_2 l0_3 ((rd_T41 l0_3 x9_2).f0) ((rd_T41 l0_3 x9_2).f1) ((rd_T41 l0_3 x9_2).f2)) = some r := by rw [if_pos rfl] at H; exact H
                              clear H
                              have H := H1
                              clear H1
                              have H' := Aside0.mk H
                              clear H
                              have hnb113 := NB289_274.out
                              have hnc113 := NB274_289.out
                              have hcz114_0 : wr.cell? ⟨gb289, 0, none⟩ = some (.int .i64 ((rd_T41 l0_3 x9_2).f0)) := (blk_cell BK289.out 0).trans rfl
                              have hcz114_1 : wr.cell? ⟨gb289, 1, none⟩ = some (.slice (some ad290) ((rd_T41 l0_3 x9_2).f1).length c288_1) := (blk_cell BK289.out 1).trans rfl
                              have hcz114_2 : wr.cell? ⟨gb289, 2, none⟩ = some (.int .i64 ((rd_T41 l0_3 x9_2).f2)) := (blk_cell BK289.out 2).trans rfl
                              have hfz114_0 := blk_frozen BK289.out 0
                              have hfz114_1 := blk_frozen BK289.out 1
                              have hfz114_2 := blk_frozen BK289.out 2
                              have p303 : 0 ≤ ((ji108) : Int) := of_decide_eq_true (by first | (with_reducible assumption) | assumption)
                              have q303 : (ji108) < (x7_4.length : Int) := of_decide_eq_true (by first | (with_reducible assumption) | assumption)
                              obtain ⟨ad303, e303, hx303_0⟩ := Kd.at_bool (Kd.R_reads' HO_7.out).2.2 (ji108) p303 q303
                              (try rw [← Nbq111.out] at hx303_0)
                              obtain rfl : (⟨go10, 0, none⟩ : Addr) = ad303 := (by injection e303)
                              (first | simp only [add_plain] at hx303_0 | simp only [add_at] at hx303_0 | simp only [Addr.add, Nat.zero_add] at hx303_0 | skip)
                              replace p303 := eq_true p303
                              replace q303 := eq_true q303
                              go_wp2
                              (try simp only [← hl7_4])
                              go_roundg k6
                              case measure => have := HK1.out; have := HK2.out; have := HK3.out; have := HK4.out; have := HJ36.out; have := HK6.out; omega
                              case rel => exact ⟨(x7_4), (x8_4), (wrap64 (x13_4 + 1)), (by first | rfl | (simp; done) | (simp [*]; done)), (by first | rfl | (simp; done) | (simp [*]; done)), H', ⟨by have := HK1.out; have := HK2.out; have := HK3.out; have := HK4.out; have := HJ36.out; have := HK6.out; omega⟩, ⟨by (try simp only [hl7_1]); (try simp only [hl7_2]); (try simp only [hl7_3]); (try simp only [hl7_4]); (with_reducible repeat (first | apply Kd.R_alloc | apply Kd.R_drewN | apply Kd.R_drew)); exact HO_5.out⟩, ⟨by (try simp only [hl7_1]); (try simp only [hl7_2]); (try simp only [hl7_3]); (try simp only [hl7_4]); (with_reducible repeat (first | apply Kd.R_alloc | apply Kd.R_drewN | apply Kd.R_drew)); exact HO_6.out⟩, ⟨by (try simp only [hl7_1]); (try simp only [hl7_2]); (try simp only [hl7_3]); (try simp only [hl7_4]); (with_reducible repeat (first | apply Kd.R_alloc | apply Kd.R_drewN | apply Kd.R_drew)); exact HO_7.out⟩, ⟨by (try simp only [hl7_1]); (try simp only [hl7_2]); (try simp only [hl7_3]); (try simp only [hl7_4]); (with_reducible repeat (first | refine blk_drewN ?_ _ | refine blk_drew ?_ | refine blk_alloc ?_ _)); exact BK274.out⟩, ⟨by (try simp only [hl7_1]); (try simp only [hl7_2]); (try simp only [hl7_3]); (try simp only [hl7_4]); (with_reducible repeat (first | refine blk_drewN ?_ _ | refine blk_drew ?_ | refine blk_alloc ?_ _)); exact BK289.out⟩, ⟨by repeat (first | (with_reducible first | exact HB.out | apply below_alloc | apply pw_below_drewN | apply below_drew1 | refine below_set ?_ GE274.out | refine below_set ?_ GE289.out) | exact HB.out)⟩⟩
                             ·replace c112 := Bool.eq_false_iff.mpr c112
                              subst c112
                              have H1 : (emendateref21_Follow.l3 k6 (l0_0.length : Int) (wrap64 ((l0_0.length : Int) + 1)) t275 t278 (x7_4.set ((ji108) : Int).toNat true) true x9_2 x11_3 (wrap64 ((-1) - (rd ((rd_T41 l0_3 x9_2).f1) x11_3))) (wrap64 (x13_4 + 1)) l0_0 l0_1 a0_2 l0_3 ((rd_T41 l0_3 x9_2).f0) ((rd_T41 l0_3 x9_2).f1) ((rd_T41 l0_3 x9_2).f2)) = some r := by rw [if_neg (show ¬ (false = true) by decide)] at H; exact H
                              clear H
                              have H := H1
                              clear H1
                              obtain ⟨y304, hy304⟩ : ∃ y_ : List Bool, y_ = (x7_4.set ((ji108) : Int).toNat true) := ⟨_, rfl⟩
                              replace H : (emendateref21_Follow.l3 k6 (l0_0.length : Int) (wrap64 ((l0_0.length : Int) + 1)) t275 t278 y304 true x9_2 x11_3 (wrap64 ((-1) - (rd ((rd_T41 l0_3 x9_2).f1) x11_3))) (wrap64 (x13_4 + 1)) l0_0 l0_1 a0_2 l0_3 ((rd_T41 l0_3 x9_2).f0) ((rd_T41 l0_3 x9_2).f1) ((rd_T41 l0_3 x9_2).f2)) = some r := by first | (rw [hy304]; with_reducible exact H) | (have H2_ := (Option.bind_some _ _).symm.trans H; rw [hy304]; with_reducible exact H2_) | (have H2_ := (Option.bind_some _ _).symm.trans H; with_reducible exact H2_) | with_reducible exact H | (rw [hy304]; exact H) | exact H
                              have Ny304 := Aside0.mk hy304
                              clear hy304
                              have H' := Aside0.mk H
                              clear H
                              have hnb116 := NB289_274.out
                              have hnc116 := NB274_289.out
                              have hcz117_0 : wr.cell? ⟨gb289, 0, none⟩ = some (.int .i64 ((rd_T41 l0_3 x9_2).f0)) := (blk_cell BK289.out 0).trans rfl
                              have hcz117_1 : wr.cell? ⟨gb289, 1, none⟩ = some (.slice (some ad290) ((rd_T41 l0_3 x9_2).f1).length c288_1) := (blk_cell BK289.out 1).trans rfl
                              have hcz117_2 : wr.cell? ⟨gb289, 2, none⟩ = some (.int .i64 ((rd_T41 l0_3 x9_2).f2)) := (blk_cell BK289.out 2).trans rfl
                              have hfz117_0 := blk_frozen BK289.out 0
                              have hfz117_1 := blk_frozen BK289.out 1
                              have hfz117_2 := blk_frozen BK289.out 2
                              have p303 : 0 ≤ ((ji108) : Int) := of_decide_eq_true (by first | (with_reducible assumption) | assumption)
                              have q303 : (ji108) < (x7_4.length : Int) := of_decide_eq_true (by first | (with_reducible assumption) | assumption)
                              obtain ⟨ad303, e303, hx303_0⟩ := Kd.at_bool (Kd.R_reads' HO_7.out).2.2 (ji108) p303 q303
                              (try rw [← Nbq111.out] at hx303_0)
                              obtain rfl : (⟨go10, 0, none⟩ : Addr) = ad303 := (by injection e303)
                              (first | simp only [add_plain] at hx303_0 | simp only [add_at] at hx303_0 | simp only [Addr.add, Nat.zero_add] at hx303_0 | skip)
                              replace p303 := eq_true p303
                              replace q303 := eq_true q303
                              have p115 : 0 ≤ ((ji108) : Int) := of_decide_eq_true (by first | (with_reducible assumption) | assumption)
                              have q115 : ((ji108) : Int) < ((x7_4.length : Int) : Int) := of_decide_eq_true (by first | (with_reducible assumption) | assumption)
                              obtain ⟨hx115_0, hf115_0⟩ := Kd.R_celln false HO_7.out ((ji108) : Int) p115 q115
                              replace p115 := eq_true p115
                              replace q115 := eq_true q115
                              have HP118 := Kd.R_putg HO_7.out ((ji108) : Int) true
                              go_wp2_with (first | ((with_reducible refine gate_store (t := 4) (p := 168) rfl ?_); refine store_event (t := 4) (p := 168) (v := ?vo_w119) (w1 := (wr.setCell ⟨go10, ((ji108) : Int).toNat, none⟩ (.bool true))) ?hg ?ho ?hn ?hr ?_; (case ho => rfl); (case hg => rfl); (case hn => rfl); (case hr => first | (go_simp; done) | (go_simp; rfl)); intro w119 hw; have hg : wr.grownBy w119 (some go10) := (by rw [hw]; exact HP118.2); have hp_ : Kd.R Kd.bool 4 w119 w.heap.size (fun k_ => some k_ ≠ (v276 : Value).ownBlock ∧ some k_ ≠ (v279 : Value).ownBlock) (.slice (some ⟨go10, 0, none⟩) x7_4.length co10) y304 := (by rw [hw, Ny304.out]; exact HP118.1); clear HP118; have n0_ := Aside0.mk (Kd.R_after (v := (.slice (some ⟨go10, 0, none⟩) x7_4.length co10)) (v1 := (.slice (some ⟨go10, 0, none⟩) x7_4.length co10)) (ok := (fun k_ => some k_ ≠ (v279 : Value).ownBlock)) (by (with_reducible repeat (first | apply Kd.R_alloc | apply Kd.R_drewN | apply Kd.R_drew)); exact HO_5.out) hg (.inl rfl)); have n1_ := Aside0.mk (Kd.R_after (v := (.slice (some ⟨go10, 0, none⟩) x7_4.length co10)) (v1 := (.slice (some ⟨go10, 0, none⟩) x7_4.length co10)) (ok := (fun k_ => some k_ ≠ (v276 : Value).ownBlock)) (by (with_reducible repeat (first | apply Kd.R_alloc | apply Kd.R_drewN | apply Kd.R_drew)); exact HO_6.out) hg (.inl rfl)); have n2_ := Aside0.mk (hp_); have n3_ := Aside0.mk (blk_grown (g := gb274) (o := .cells #[.slice A0_0 l0_0.length c0_0, .slice A0_1 l0_1.length c0_1, .int .i64 a0_2, .slice (some ad288) l0_3.length c0_3] 25 (0, 0)) (by (with_reducible repeat (first | refine blk_drewN ?_ _ | refine blk_drew ?_ | refine blk_alloc ?_ _)); exact BK274.out) hg (Kd.R_ne HO_7.out BK274.out (by decide))); have n4_ := Aside0.mk (blk_grown (g := gb289) (o := .cells #[.int .i64 ((rd_T41 l0_3 x9_2).f0), .slice (some ad290) ((rd_T41 l0_3 x9_2).f1).length c288_1, .int .i64 ((rd_T41 l0_3 x9_2).f2)] 41 (0, 0)) (by (with_reducible repeat (first | refine blk_drewN ?_ _ | refine blk_drew ?_ | refine blk_alloc ?_ _)); exact BK289.out) hg (Kd.R_ne HO_7.out BK289.out (by decide))); have n5_ := Aside0.mk ((by rw [hw]; exact below_set (HB.out) GB10.out : Below w.heap.size w w119)); clear HO_5; clear HO_6; clear HO_7; clear BK274; clear BK289; clear HB; have HO_5 := n0_; have HO_6 := n1_; have HO_7 := n2_; have BK274 := n3_; have BK289 := n4_; have HB := n5_; clear n0_ n1_ n2_ n3_ n4_ n5_; clear hg hw hp_))
                              (try simp only [← hl7_4])
                              go_roundg k6
                              case measure => have := HK1.out; have := HK2.out; have := HK3.out; have := HK4.out; have := HJ36.out; have := HK6.out; omega
                              case rel => exact ⟨(y304), (true), (wrap64 (x13_4 + 1)), (by first | rfl | (simp; done) | (simp [*]; done)), (by first | rfl | (simp; done) | (simp [*]; done)), H', ⟨by have := HK1.out; have := HK2.out; have := HK3.out; have := HK4.out; have := HJ36.out; have := HK6.out; omega⟩, ⟨by (try simp only [hl7_1]); (try simp only [hl7_2]); (try simp only [hl7_3]); (try simp only [hl7_4]); (with_reducible repeat (first | apply Kd.R_alloc | apply Kd.R_drewN | apply Kd.R_drew)); exact HO_5.out⟩, ⟨by (try simp only [hl7_1]); (try simp only [hl7_2]); (try simp only [hl7_3]); (try simp only [hl7_4]); (with_reducible repeat (first | apply Kd.R_alloc | apply Kd.R_drewN | apply Kd.R_drew)); exact HO_6.out⟩, ⟨by (try simp only [hl7_1]); (try simp only [hl7_2]); (try simp only [hl7_3]); (try simp only [hl7_4]); (with_reducible repeat (first | apply Kd.R_alloc | apply Kd.R_drewN | apply Kd.R_drew)); exact HO_7.out⟩, ⟨by (try simp only [hl7_1]); (try simp only [hl7_2]); (try simp only [hl7_3]); (try simp only [hl7_4]); (with_reducible repeat (first | refine blk_drewN ?_ _ | refine blk_drew ?_ | refine blk_alloc ?_ _)); exact BK274.out⟩, ⟨by (try simp only [hl7_1]); (try simp only [hl7_2]); (try simp only [hl7_3]); (try simp only [hl7_4]); (with_reducible repeat (first | refine blk_drewN ?_ _ | refine blk_drew ?_ | refine blk_alloc ?_ _)); exact BK289.out⟩, ⟨by repeat (first | (with_reducible first | exact HB.out | apply below_alloc | apply pw_below_drewN | apply below_drew1 | refine below_set ?_ GE274.out | refine below_set ?_ GE289.out) | exact HB.out)⟩⟩
                            ·rw [if_neg c110] at H
                             exact absurd H (by simp)
                           ·rw [if_neg c109] at H
                            exact absurd H (by simp)
                          ·replace c107 := Bool.eq_false_iff.mpr c107
                           subst c107
                           have H1 : (emendateref21_Follow.l3 k6 (l0_0.length : Int) (wrap64 ((l0_0.length : Int) + 1)) t275 t278 x7_4 x8_4 x9_2 x11_3 (wrap64 ((-1) - (rd ((rd_T41 l0_3 x9_2).f1) x11_3))) (wrap64 (x13_4 + 1)) l0_0 l0_1 a0_2 l0_3 ((rd_T41 l0_3 x9_2).f0) ((rd_T41 l0_3 x9_2).f1) ((rd_T41 l0_3 x9_2).f2)) = some r := by rw [if_neg (show ¬ (false = true) by decide)] at H; exact H
                           clear H
                           have H := H1
                           clear H1
                           have H' := Aside0.mk H
                           clear H
                           have hnb120 := NB289_274.out
                           have hnc120 := NB274_289.out
                           have hcz121_0 : wr.cell? ⟨gb289, 0, none⟩ = some (.int .i64 ((rd_T41 l0_3 x9_2).f0)) := (blk_cell BK289.out 0).trans rfl
                           have hcz121_1 : wr.cell? ⟨gb289, 1, none⟩ = some (.slice (some ad290) ((rd_T41 l0_3 x9_2).f1).length c288_1) := (blk_cell BK289.out 1).trans rfl
                           have hcz121_2 : wr.cell? ⟨gb289, 2, none⟩ = some (.int .i64 ((rd_T41 l0_3 x9_2).f2)) := (blk_cell BK289.out 2).trans rfl
                           have hfz121_0 := blk_frozen BK289.out 0
                           have hfz121_1 := blk_frozen BK289.out 1
                           have hfz121_2 := blk_frozen BK289.out 2
                           go_wp2
                           (try simp only [← hl7_4])
                           go_roundg k6
                           case measure => have := HK1.out; have := HK2.out; have := HK3.out; have := HK4.out; have := HJ36.out; have := HK6.out; omega
                           case rel => exact ⟨(x7_4), (x8_4), (wrap64 (x13_4 + 1)), (by first | rfl | (simp; done) | (simp [*]; done)), (by first | rfl | (simp; done) | (simp [*]; done)), H', ⟨by have := HK1.out; have := HK2.out; have := HK3.out; have := HK4.out; have := HJ36.out; have := HK6.out; omega⟩, ⟨by (try simp only [hl7_1]); (try simp only [hl7_2]); (try simp only [hl7_3]); (try simp only [hl7_4]); (with_reducible repeat (first | apply Kd.R_alloc | apply Kd.R_drewN | apply Kd.R_drew)); exact HO_5.out⟩, ⟨by (try simp only [hl7_1]); (try simp only [hl7_2]); (try simp only [hl7_3]); (try simp only [hl7_4]); (with_reducible repeat (first | apply Kd.R_alloc | apply Kd.R_drewN | apply Kd.R_drew)); exact HO_6.out⟩, ⟨by (try simp only [hl7_1]); (try simp only [hl7_2]); (try simp only [hl7_3]); (try simp only [hl7_4]); (with_reducible repeat (first | apply Kd.R_alloc | apply Kd.R_drewN | apply Kd.R_drew)); exact HO_7.out⟩, ⟨by (try simp only [hl7_1]); (try simp only [hl7_2]); (try simp only [hl7_3]); (try simp only [hl7_4]); (with_reducible repeat (first | refine blk_drewN ?_ _ | refine blk_drew ?_ | refine blk_alloc ?_ _)); exact BK274.out⟩, ⟨by (try simp only [hl7_1]); (try simp only [hl7_2]); (try simp only [hl7_3]); (try simp only [hl7_4]); (with_reducible repeat (first | refine blk_drewN ?_ _ | refine blk_drew ?_ | refine blk_alloc ?_ _)); exact BK289.out⟩, ⟨by repeat (first | (with_reducible first | exact HB.out | apply below_alloc | apply pw_below_drewN | apply below_drew1 | refine below_set ?_ GE274.out | refine below_set ?_ GE289.out) | exact HB.out)⟩⟩
                        ·rw [if_neg c54] at H
                         have c54b0 : decide (x15_6 < (((rd_T41 l0_3 x9_2).f1).length : Int)) = false := decide_eq_false c54
                         clear c54
                         by_cases c122 : x14_6 = true
                         ·subst c122
                          have H1 : (if 0 ≤ (wrap64 ((wrap64 ((wrap64 ((-1) - (rd ((rd_T41 l0_3 x9_2).f1) x11_3))) * (wrap64 ((l0_0.length : Int) + 1)))) + x13_4)) then (if (wrap64 ((wrap64 ((wrap64 ((-1) - (rd ((rd_T41 l0_3 x9_2).f1) x11_3))) * (wrap64 ((l0_0.length : Int) + 1)))) + x13_4)) < (x7_4.length : Int) then (if (rdOf false x7_4 (wrap64 ((wrap64 ((wrap64 ((-1) - (rd ((rd_T41 l0_3 x9_2).f1) x11_3))) * (wrap64 ((l0_0.length : Int) + 1)))) + x13_4)) = true) then (emendateref21_Follow.l3 k6 (l0_0.length : Int) (wrap64 ((l0_0.length : Int) + 1)) t275 t278 x7_4 x8_4 x9_2 x11_3 (wrap64 ((-1) - (rd ((rd_T41 l0_3 x9_2).f1) x11_3))) (wrap64 (x13_4 + 1)) l0_0 l0_1 a0_2 l0_3 ((rd_T41 l0_3 x9_2).f0) ((rd_T41 l0_3 x9_2).f1) ((rd_T41 l0_3 x9_2).f2)) else (emendateref21_Follow.l3 k6 (l0_0.length : Int) (wrap64 ((l0_0.length : Int) + 1)) t275 t278 (x7_4.set ((wrap64 ((wrap64 ((wrap64 ((-1) - (rd ((rd_T41 l0_3 x9_2).f1) x11_3))) * (wrap64 ((l0_0.length : Int) + 1)))) + x13_4)) : Int).toNat true) true x9_2 x11_3 (wrap64 ((-1) - (rd ((rd_T41 l0_3 x9_2).f1) x11_3))) (wrap64 (x13_4 + 1)) l0_0 l0_1 a0_2 l0_3 ((rd_T41 l0_3 x9_2).f0) ((rd_T41 l0_3 x9_2).f1) ((rd_T41 l0_3 x9_2).f2))) else (none)) else (none)) = some r := by rw [if_pos rfl] at H; exact H
                          clear H
                          have H := H1
                          clear H1
                          obtain ⟨ji123, hji123⟩ : ∃ j_ : Int, (wrap64 ((wrap64 ((wrap64 ((-1) - (rd ((rd_T41 l0_3 x9_2).f1) x11_3))) * (wrap64 ((l0_0.length : Int) + 1)))) + x13_4)) = j_ := ⟨_, rfl⟩
                          replace H : (if 0 ≤ (ji123) then (if (ji123) < (x7_4.length : Int) then (if (rdOf false x7_4 (ji123) = true) then (emendateref21_Follow.l3 k6 (l0_0.length : Int) (wrap64 ((l0_0.length : Int) + 1)) t275 t278 x7_4 x8_4 x9_2 x11_3 (wrap64 ((-1) - (rd ((rd_T41 l0_3 x9_2).f1) x11_3))) (wrap64 (x13_4 + 1)) l0_0 l0_1 a0_2 l0_3 ((rd_T41 l0_3 x9_2).f0) ((rd_T41 l0_3 x9_2).f1) ((rd_T41 l0_3 x9_2).f2)) else (emendateref21_Follow.l3 k6 (l0_0.length : Int) (wrap64 ((l0_0.length : Int) + 1)) t275 t278 (x7_4.set ((ji123) : Int).toNat true) true x9_2 x11_3 (wrap64 ((-1) - (rd ((rd_T41 l0_3 x9_2).f1) x11_3))) (wrap64 (x13_4 + 1)) l0_0 l0_1 a0_2 l0_3 ((rd_T41 l0_3 x9_2).f0) ((rd_T41 l0_3 x9_2).f1) ((rd_T41 l0_3 x9_2).f2))) else (none)) else (none)) = some r := by first | (rw [hji123] at H; exact H) | (simp only [hji123] at H ⊢; exact H)
                          have hji123w : (IntKind.i64.wrap ((wrap64 ((wrap64 ((-1) - (rd ((rd_T41 l0_3 x9_2).f1) x11_3))) * (wrap64 ((l0_0.length : Int) + 1)))) + x13_4)) = ji123 := (i64_w _).trans hji123
                          by_cases c124 : 0 ≤ (ji123)
                          ·rw [if_pos c124] at H
                           have c124b0 : decide (0 ≤ (ji123)) = true := decide_eq_true c124
                           clear c124
                           by_cases c125 : (ji123) < (x7_4.length : Int)
                           ·rw [if_pos c125] at H
                            have c125b0 : decide ((ji123) < (x7_4.length : Int)) = true := decide_eq_true c125
                            clear c125
                            obtain ⟨bq126, hbq126⟩ : ∃ b_ : Bool, b_ = (rdOf false x7_4 (ji123)) := ⟨_, rfl⟩
                            replace H : (if (bq126 = true) then (emendateref21_Follow.l3 k6 (l0_0.length : Int) (wrap64 ((l0_0.length : Int) + 1)) t275 t278 x7_4 x8_4 x9_2 x11_3 (wrap64 ((-1) - (rd ((rd_T41 l0_3 x9_2).f1) x11_3))) (wrap64 (x13_4 + 1)) l0_0 l0_1 a0_2 l0_3 ((rd_T41 l0_3 x9_2).f0) ((rd_T41 l0_3 x9_2).f1) ((rd_T41 l0_3 x9_2).f2)) else (emendateref21_Follow.l3 k6 (l0_0.length : Int) (wrap64 ((l0_0.length : Int) + 1)) t275 t278 (x7_4.set ((ji123) : Int).toNat true) true x9_2 x11_3 (wrap64 ((-1) - (rd ((rd_T41 l0_3 x9_2).f1) x11_3))) (wrap64 (x13_4 + 1)) l0_0 l0_1 a0_2 l0_3 ((rd_T41 l0_3 x9_2).f0) ((rd_T41 l0_3 x9_2).f1) ((rd_T41 l0_3 x9_2).f2))) = some r := by rw [← hbq126] at H; exact H
                            have Nbq126 := Aside0.mk hbq126
                            clear hbq126
                            by_cases c127 : (bq126 = true)
                            ·subst c127
                             have H1 : (emendateref21_Follow.l3 k6 (l0_0.length : Int) (wrap64 ((l0_0.length : Int) + 1)) t275 t278 x7_4 x8_4 x9_2 x11_3 (wrap64 ((-1) - (rd ((rd_T41 l0_3 x9_2).f1) x11_3))) (wrap64 (x13_4 + 1)) l0_0 l0_1 a0_2 l0_3 ((rd_T41 l0_3 x9_2).f0) ((rd_T41 l0_3 x9_2).f1) ((rd_T41 l0_3 x9_2).f2)) = some r := by rw [if_pos rfl] at H; exact H
                             clear H
                             have H := H1
                             clear H1
                             have H' := Aside0.mk H
                             clear H
                             have hnb128 := NB289_274.out
                             have hnc128 := NB274_289.out
                             have hcz129_0 : wr.cell? ⟨gb289, 0, none⟩ = some (.int .i64 ((rd_T41 l0_3 x9_2).f0)) := (blk_cell BK289.out 0).trans rfl
                             have hcz129_1 : wr.cell? ⟨gb289, 1, none⟩ = some (.slice (some ad290) ((rd_T41 l0_3 x9_2).f1).length c288_1) := (blk_cell BK289.out 1).trans rfl
                             have hcz129_2 : wr.cell? ⟨gb289, 2, none⟩ = some (.int .i64 ((rd_T41 l0_3 x9_2).f2)) := (blk_cell BK289.out 2).trans rfl
                             have hfz129_0 := blk_frozen BK289.out 0
                             have hfz129_1 := blk_frozen BK289.out 1
                             have hfz129_2 := blk_frozen BK289.out 2
                             have p305 : 0 ≤ ((ji123) : Int) := of_decide_eq_true (by first | (with_reducible assumption) | assumption)
                             have q305 : (ji123) < (x7_4.length : Int) := of_decide_eq_true (by first | (with_reducible assumption) | assumption)
                             obtain ⟨ad305, e305, hx305_0⟩ := Kd.at_bool (Kd.R_reads' HO_7.out).2.2 (ji123) p305 q305
                             (try rw [← Nbq126.out] at hx305_0)
                             obtain rfl : (⟨go10, 0, none⟩ : Addr) = ad305 := (by injection e305)
                             (first | simp only [add_plain] at hx305_0 | simp only [add_at] at hx305_0 | simp only [Addr.add, Nat.zero_add] at hx305_0 | skip)
                             replace p305 := eq_true p305
                             replace q305 := eq_true q305
                             go_wp2
                             (try simp only [← hl7_4])
                             go_roundg k6
                             case measure => have := HK1.out; have := HK2.out; have := HK3.out; have := HK4.out; have := HJ36.out; have := HK6.out; omega
                             case rel => exact ⟨(x7_4), (x8_4), (wrap64 (x13_4 + 1)), (by first | rfl | (simp; done) | (simp [*]; done)), (by first | rfl | (simp; done) | (simp [*]; done)), H', ⟨by have := HK1.out; have := HK2.out; have := HK3.out; have := HK4.out; have := HJ36.out; have := HK6.out; omega⟩, ⟨by (try simp only [hl7_1]); (try simp only [hl7_2]); (try simp only [hl7_3]); (try simp only [hl7_4]); (with_reducible repeat (first | apply Kd.R_alloc | apply Kd.R_drewN | apply Kd.R_drew)); exact HO_5.out⟩, ⟨by (try simp only [hl7_1]); (try simp only [hl7_2]); (try simp only [hl7_3]); (try simp only [hl7_4]); (with_reducible repeat (first | apply Kd.R_alloc | apply Kd.R_drewN | apply Kd.R_drew)); exact HO_6.out⟩, ⟨by (try simp only [hl7_1]); (try simp only [hl7_2]); (try simp only [hl7_3]); (try simp only [hl7_4]); (with_reducible repeat (first | apply Kd.R_alloc | apply Kd.R_drewN | apply Kd.R_drew)); exact HO_7.out⟩, ⟨by (try simp only [hl7_1]); (try simp only [hl7_2]); (try simp only [hl7_3]); (try simp only [hl7_4]); (with_reducible repeat (first | refine blk_drewN ?_ _ | refine blk_drew ?_ | refine blk_alloc ?_ _)); exact BK274.out⟩, ⟨by (try simp only [hl7_1]); (try simp only [hl7_2]); (try simp only [hl7_3]); (try simp only [hl7_4]); (with_reducible repeat (first | refine blk_drewN ?_ _ | refine blk_drew ?_ | refine blk_alloc ?_ _)); exact BK289.out⟩, ⟨by repeat (first | (with_reducible first | exact HB.out | apply below_alloc | apply pw_below_drewN | apply below_drew1 | refine below_set ?_ GE274.out | refine below_set ?_ GE289.out) | exact HB.out)⟩⟩
                            ·replace c127 := Bool.eq_false_iff.mpr c127
                             subst c127
                             have H1 : (emendateref21_Follow.l3 k6 (l0_0.length : Int) (wrap64 ((l0_0.length : Int) + 1)) t275 t278 (x7_4.set ((ji123) : Int).toNat true) true x9_2 x11_3 (wrap64 ((-1) - (rd ((rd_T41 l0_3 x9_2).f1) x11_3))) (wrap64 (x13_4 + 1)) l0_0 l0_1 a0_2 l0_3 ((rd_T41 l0_3 x9_2).f0) ((rd_T41 l0_3 x9_2).f1) ((rd_T41 l0_3 x9_2).f2)) = some r := by rw [if_neg (show ¬ (false = true) by decide)] at H; exact H
                             clear H
                             have H := H1
                             clear H1
                             obtain ⟨y306, hy306⟩ : ∃ y_ : List Bool, y_ = (x7_4.set ((ji123) : Int).toNat true) := ⟨_, rfl⟩
                             replace H : (emendateref21_Follow.l3 k6 (l0_0.length : Int) (wrap64 ((l0_0.length : Int) + 1)) t275 t278 y306 true x9_2 x11_3 (wrap64 ((-1) - (rd ((rd_T41 l0_3 x9_2).f1) x11_3))) (wrap64 (x13_4 + 1)) l0_0 l0_1 a0_2 l0_3 ((rd_T41 l0_3 x9_2).f0) ((rd_T41 l0_3 x9_2).f1) ((rd_T41 l0_3 x9_2).f2)) = some r := by first | (rw [hy306]; with_reducible exact H) | (have H2_ := (Option.bind_some _ _).symm.trans H; rw [hy306]; with_reducible exact H2_) | (have H2_ := (Option.bind_some _ _).symm.trans H; with_reducible exact H2_) | with_reducible exact H | (rw [hy306]; exact H) | exact H
                             have Ny306 := Aside0.mk hy306
                             clear hy306
                             have H' := Aside0.mk H
                             clear H
                             have hnb131 := NB289_274.out
                             have hnc131 := NB274_289.out
                             have hcz132_0 : wr.cell? ⟨gb289, 0, none⟩ = some (.int .i64 ((rd_T41 l0_3 x9_2).f0)) := (blk_cell BK289.out 0).trans rfl
                             have hcz132_1 : wr.cell? ⟨gb289, 1, none⟩ = some (.slice (some ad290) ((rd_T41 l0_3 x9_2).f1).length c288_1) := (blk_cell BK289.out 1).trans rfl
                             have hcz132_2 : wr.cell? ⟨gb289, 2, none⟩ = some (.int .i64 ((rd_T41 l0_3 x9_2).f2)) := (blk_cell BK289.out 2).trans rfl
                             have hfz132_0 := blk_frozen BK289.out 0
                             have hfz132_1 := blk_frozen BK289.out 1
                             have hfz132_2 := blk_frozen BK289.out 2
                             have p305 : 0 ≤ ((ji123) : Int) := of_decide_eq_true (by first | (with_reducible assumption) | assumption)
                             have q305 : (ji123) < (x7_4.length : Int) := of_decide_eq_true (by first | (with_reducible assumption) | assumption)
                             obtain ⟨ad305, e305, hx305_0⟩ := Kd.at_bool (Kd.R_reads' HO_7.out).2.2 (ji123) p305 q305
                             (try rw [← Nbq126.out] at hx305_0)
                             obtain rfl : (⟨go10, 0, none⟩ : Addr) = ad305 := (by injection e305)
                             (first | simp only [add_plain] at hx305_0 | simp only [add_at] at hx305_0 | simp only [Addr.add, Nat.zero_add] at hx305_0 | skip)
                             replace p305 := eq_true p305
                             replace q305 := eq_true q305
                             have p130 : 0 ≤ ((ji123) : Int) := of_decide_eq_true (by first | (with_reducible assumption) | assumption)
                             have q130 : ((ji123) : Int) < ((x7_4.length : Int) : Int) := of_decide_eq_true (by first | (with_reducible assumption) | assumption)
                             obtain ⟨hx130_0, hf130_0⟩ := Kd.R_celln false HO_7.out ((ji123) : Int) p130 q130
                             replace p130 := eq_true p130
                             replace q130 := eq_true q130
                             have HP133 := Kd.R_putg HO_7.out ((ji123) : Int) true
                             go_wp2_with (first | ((with_reducible refine gate_store (t := 4) (p := 168) rfl ?_); refine store_event (t := 4) (p := 168) (v := ?vo_w134) (w1 := (wr.setCell ⟨go10, ((ji123) : Int).toNat, none⟩ (.bool true))) ?hg ?ho ?hn ?hr ?_; (case ho => rfl); (case hg => rfl); (case hn => rfl); (case hr => first | (go_simp; done) | (go_simp; rfl)); intro w134 hw; have hg : wr.grownBy w134 (some go10) := (by rw [hw]; exact HP133.2); have hp_ : Kd.R Kd.bool 4 w134 w.heap.size (fun k_ => some k_ ≠ (v276 : Value).ownBlock ∧ some k_ ≠ (v279 : Value).ownBlock) (.slice (some ⟨go10, 0, none⟩) x7_4.length co10) y306 := (by rw [hw, Ny306.out]; exact HP133.1); clear HP133; have n0_ := Aside0.mk (Kd.R_after (v := (.slice (some ⟨go10, 0, none⟩) x7_4.length co10)) (v1 := (.slice (some ⟨go10, 0, none⟩) x7_4.length co10)) (ok := (fun k_ => some k_ ≠ (v279 : Value).ownBlock)) (by (with_reducible repeat (first | apply Kd.R_alloc | apply Kd.R_drewN | apply Kd.R_drew)); exact HO_5.out) hg (.inl rfl)); have n1_ := Aside0.mk (Kd.R_after (v := (.slice (some ⟨go10, 0, none⟩) x7_4.length co10)) (v1 := (.slice (some ⟨go10, 0, none⟩) x7_4.length co10)) (ok := (fun k_ => some k_ ≠ (v276 : Value).ownBlock)) (by (with_reducible repeat (first | apply Kd.R_alloc | apply Kd.R_drewN | apply Kd.R_drew)); exact HO_6.out) hg (.inl rfl)); have n2_ := Aside0.mk (hp_); have n3_ := Aside0.mk (blk_grown (g := gb274) (o := .cells #[.slice A0_0 l0_0.length c0_0, .slice A0_1 l0_1.length c0_1, .int .i64 a0_2, .slice (some ad288) l0_3.length c0_3] 25 (0, 0)) (by (with_reducible repeat (first | refine blk_drewN ?_ _ | refine blk_drew ?_ | refine blk_alloc ?_ _)); exact BK274.out) hg (Kd.R_ne HO_7.out BK274.out (by decide))); have n4_ := Aside0.mk (blk_grown (g := gb289) (o := .cells #[.int .i64 ((rd_T41 l0_3 x9_2).f0), .slice (some ad290) ((rd_T41 l0_3 x9_2).f1).length c288_1, .int .i64 ((rd_T41 l0_3 x9_2).f2)] 41 (0, 0)) (by (with_reducible repeat (first | refine blk_drewN ?_ _ | refine blk_drew ?_ | refine blk_alloc ?_ _)); exact BK289.out) hg (Kd.R_ne HO_7.out BK289.out (by decide))); have n5_ := Aside0.mk ((by rw [hw]; exact below_set (HB.out) GB10.out : Below w.heap.size w w134)); clear HO_5; clear HO_6; clear HO_7; clear BK274; clear BK289; clear HB; have HO_5 := n0_; have HO_6 := n1_; have HO_7 := n2_; have BK274 := n3_; have BK289 := n4_; have HB := n5_; clear n0_ n1_ n2_ n3_ n4_ n5_; clear hg hw hp_))
                             (try simp only [← hl7_4])
                             go_roundg k6
                             case measure => have := HK1.out; have := HK2.out; have := HK3.out; have := HK4.out; have := HJ36.out; have := HK6.out; omega
                             case rel => exact ⟨(y306), (true), (wrap64 (x13_4 + 1)), (by first | rfl | (simp; done) | (simp [*]; done)), (by first | rfl | (simp; done) | (simp [*]; done)), H', ⟨by have := HK1.out; have := HK2.out; have := HK3.out; have := HK4.out; have := HJ36.out; have := HK6.out; omega⟩, ⟨by (try simp only [hl7_1]); (try simp only [hl7_2]); (try simp only [hl7_3]); (try simp only [hl7_4]); (with_reducible repeat (first | apply Kd.R_alloc | apply Kd.R_drewN | apply Kd.R_drew)); exact HO_5.out⟩, ⟨by (try simp only [hl7_1]); (try simp only [hl7_2]); (try simp only [hl7_3]); (try simp only [hl7_4]); (with_reducible repeat (first | apply Kd.R_alloc | apply Kd.R_drewN | apply Kd.R_drew)); exact HO_6.out⟩, ⟨by (try simp only [hl7_1]); (try simp only [hl7_2]); (try simp only [hl7_3]); (try simp only [hl7_4]); (with_reducible repeat (first | apply Kd.R_alloc | apply Kd.R_drewN | apply Kd.R_drew)); exact HO_7.out⟩, ⟨by (try simp only [hl7_1]); (try simp only [hl7_2]); (try simp only [hl7_3]); (try simp only [hl7_4]); (with_reducible repeat (first | refine blk_drewN ?_ _ | refine blk_drew ?_ | refine blk_alloc ?_ _)); exact BK274.out⟩, ⟨by (try simp only [hl7_1]); (try simp only [hl7_2]); (try simp only [hl7_3]); (try simp only [hl7_4]); (with_reducible repeat (first | refine blk_drewN ?_ _ | refine blk_drew ?_ | refine blk_alloc ?_ _)); exact BK289.out⟩, ⟨by repeat (first | (with_reducible first | exact HB.out | apply below_alloc | apply pw_below_drewN | apply below_drew1 | refine below_set ?_ GE274.out | refine below_set ?_ GE289.out) | exact HB.out)⟩⟩
                           ·rw [if_neg c125] at H
                            exact absurd H (by simp)
                          ·rw [if_neg c124] at H
                           exact absurd H (by simp)
                         ·replace c122 := Bool.eq_false_iff.mpr c122
                          subst c122
                          have H1 : (emendateref21_Follow.l3 k6 (l0_0.length : Int) (wrap64 ((l0_0.length : Int) + 1)) t275 t278 x7_4 x8_4 x9_2 x11_3 (wrap64 ((-1) - (rd ((rd_T41 l0_3 x9_2).f1) x11_3))) (wrap64 (x13_4 + 1)) l0_0 l0_1 a0_2 l0_3 ((rd_T41 l0_3 x9_2).f0) ((rd_T41 l0_3 x9_2).f1) ((rd_T41 l0_3 x9_2).f2)) = some r := by rw [if_neg (show ¬ (false = true) by decide)] at H; exact H
                          clear H
                          have H := H1
                          clear H1
                          have H' := Aside0.mk H
                          clear H
                          have hnb135 := NB289_274.out
                          have hnc135 := NB274_289.out
                          have hcz136_0 : wr.cell? ⟨gb289, 0, none⟩ = some (.int .i64 ((rd_T41 l0_3 x9_2).f0)) := (blk_cell BK289.out 0).trans rfl
                          have hcz136_1 : wr.cell? ⟨gb289, 1, none⟩ = some (.slice (some ad290) ((rd_T41 l0_3 x9_2).f1).length c288_1) := (blk_cell BK289.out 1).trans rfl
                          have hcz136_2 : wr.cell? ⟨gb289, 2, none⟩ = some (.int .i64 ((rd_T41 l0_3 x9_2).f2)) := (blk_cell BK289.out 2).trans rfl
                          have hfz136_0 := blk_frozen BK289.out 0
                          have hfz136_1 := blk_frozen BK289.out 1
                          have hfz136_2 := blk_frozen BK289.out 2
                          go_wp2
                          (try simp only [← hl7_4])
                          go_roundg k6
                          case measure => have := HK1.out; have := HK2.out; have := HK3.out; have := HK4.out; have := HJ36.out; have := HK6.out; omega
                          case rel => exact ⟨(x7_4), (x8_4), (wrap64 (x13_4 + 1)), (by first | rfl | (simp; done) | (simp [*]; done)), (by first | rfl | (simp; done) | (simp [*]; done)), H', ⟨by have := HK1.out; have := HK2.out; have := HK3.out; have := HK4.out; have := HJ36.out; have := HK6.out; omega⟩, ⟨by (try simp only [hl7_1]); (try simp only [hl7_2]); (try simp only [hl7_3]); (try simp only [hl7_4]); (with_reducible repeat (first | apply Kd.R_alloc | apply Kd.R_drewN | apply Kd.R_drew)); exact HO_5.out⟩, ⟨by (try simp only [hl7_1]); (try simp only [hl7_2]); (try simp only [hl7_3]); (try simp only [hl7_4]); (with_reducible repeat (first | apply Kd.R_alloc | apply Kd.R_drewN | apply Kd.R_drew)); exact HO_6.out⟩, ⟨by (try simp only [hl7_1]); (try simp only [hl7_2]); (try simp only [hl7_3]); (try simp only [hl7_4]); (with_reducible repeat (first | apply Kd.R_alloc | apply Kd.R_drewN | apply Kd.R_drew)); exact HO_7.out⟩, ⟨by (try simp only [hl7_1]); (try simp only [hl7_2]); (try simp only [hl7_3]); (try simp only [hl7_4]); (with_reducible repeat (first | refine blk_drewN ?_ _ | refine blk_drew ?_ | refine blk_alloc ?_ _)); exact BK274.out⟩, ⟨by (try simp only [hl7_1]); (try simp only [hl7_2]); (try simp only [hl7_3]); (try simp only [hl7_4]); (with_reducible repeat (first | refine blk_drewN ?_ _ | refine blk_drew ?_ | refine blk_alloc ?_ _)); exact BK289.out⟩, ⟨by repeat (first | (with_reducible first | exact HB.out | apply below_alloc | apply pw_below_drewN | apply below_drew1 | refine below_set ?_ GE274.out | refine below_set ?_ GE289.out) | exact HB.out)⟩⟩
                   ·rw [if_neg c36] at H
                    have c36b0 : decide (x13_4 < (wrap64 ((l0_0.length : Int) + 1))) = false := decide_eq_false c36
                    clear c36
                    have H' := Aside0.mk H
                    clear H
                    go_wp2
                    (try simp only [← hl7_3, ← hl7_4])
                    go_roundg k4
                    case measure => have := HK1.out; have := HK2.out; have := HK3.out; have := HK4.out; omega
                    case rel => exact ⟨(x7_4), (x8_4), (wrap64 (x11_3 + 1)), (by first | rfl | (simp; done) | (simp [*]; done)), (by first | rfl | (simp; done) | (simp [*]; done)), H', ⟨by have := HK1.out; have := HK2.out; have := HK3.out; have := HK4.out; omega⟩, ⟨by (try simp only [hl7_1]); (try simp only [hl7_2]); (try simp only [hl7_3]); (try simp only [hl7_4]); (with_reducible repeat (first | apply Kd.R_alloc | apply Kd.R_drewN | apply Kd.R_drew)); exact HO_5.out⟩, ⟨by (try simp only [hl7_1]); (try simp only [hl7_2]); (try simp only [hl7_3]); (try simp only [hl7_4]); (with_reducible repeat (first | apply Kd.R_alloc | apply Kd.R_drewN | apply Kd.R_drew)); exact HO_6.out⟩, ⟨by (try simp only [hl7_1]); (try simp only [hl7_2]); (try simp only [hl7_3]); (try simp only [hl7_4]); (with_reducible repeat (first | apply Kd.R_alloc | apply Kd.R_drewN | apply Kd.R_drew)); exact HO_7.out⟩, ⟨by (try simp only [hl7_1]); (try simp only [hl7_2]); (try simp only [hl7_3]); (try simp only [hl7_4]); (with_reducible repeat (first | refine blk_drewN ?_ _ | refine blk_drew ?_ | refine blk_alloc ?_ _)); exact BK274.out⟩, ⟨by (try simp only [hl7_1]); (try simp only [hl7_2]); (try simp only [hl7_3]); (try simp only [hl7_4]); (with_reducible repeat (first | refine blk_drewN ?_ _ | refine blk_drew ?_ | refine blk_alloc ?_ _)); exact BK289.out⟩, ⟨by repeat (first | (with_reducible first | exact HB.out | apply below_alloc | apply pw_below_drewN | apply below_drew1 | refine below_set ?_ GE274.out | refine below_set ?_ GE289.out) | exact HB.out)⟩⟩
               ·rw [if_neg c30] at H
                exact absurd H (by simp)
              ·rw [if_neg c29] at H
               have c29b0 : decide (x11_3 < (((rd_T41 l0_3 x9_2).f1).length : Int)) = false := decide_eq_false c29
               clear c29
               have H' := Aside0.mk H
               clear H
               have hnb137 := NB289_274.out
               have hnc137 := NB274_289.out
               have hcz138_0 : wr.cell? ⟨gb289, 0, none⟩ = some (.int .i64 ((rd_T41 l0_3 x9_2).f0)) := (blk_cell BK289.out 0).trans rfl
               have hcz138_1 : wr.cell? ⟨gb289, 1, none⟩ = some (.slice A288_1 ((rd_T41 l0_3 x9_2).f1).length c288_1) := (blk_cell BK289.out 1).trans rfl
               have hcz138_2 : wr.cell? ⟨gb289, 2, none⟩ = some (.int .i64 ((rd_T41 l0_3 x9_2).f2)) := (blk_cell BK289.out 2).trans rfl
               have hfz138_0 := blk_frozen BK289.out 0
               have hfz138_1 := blk_frozen BK289.out 1
               have hfz138_2 := blk_frozen BK289.out 2
               go_wp2
               (try simp only [← hl7_2, ← hl7_3])
               go_roundg k3
               case measure => have := HK1.out; have := HK2.out; have := HK3.out; omega
               case rel => exact ⟨(x7_3), (x8_3), (wrap64 (x9_2 + 1)), (by first | rfl | (simp; done) | (simp [*]; done)), (by first | rfl | (simp; done) | (simp [*]; done)), H', ⟨by have := HK1.out; have := HK2.out; have := HK3.out; omega⟩, ⟨by (try simp only [hl7_1]); (try simp only [hl7_2]); (try simp only [hl7_3]); (with_reducible repeat (first | apply Kd.R_alloc | apply Kd.R_drewN | apply Kd.R_drew)); exact HO_5.out⟩, ⟨by (try simp only [hl7_1]); (try simp only [hl7_2]); (try simp only [hl7_3]); (with_reducible repeat (first | apply Kd.R_alloc | apply Kd.R_drewN | apply Kd.R_drew)); exact HO_6.out⟩, ⟨by (try simp only [hl7_1]); (try simp only [hl7_2]); (try simp only [hl7_3]); (with_reducible repeat (first | apply Kd.R_alloc | apply Kd.R_drewN | apply Kd.R_drew)); exact HO_7.out⟩, ⟨by (try simp only [hl7_1]); (try simp only [hl7_2]); (try simp only [hl7_3]); (with_reducible repeat (first | refine blk_drewN ?_ _ | refine blk_drew ?_ | refine blk_alloc ?_ _)); exact BK274.out⟩, ⟨by repeat (first | (with_reducible first | exact HB.out | apply below_alloc | apply pw_below_drewN | apply below_drew1 | refine below_set ?_ GE274.out | refine below_set ?_ GE289.out) | exact HB.out)⟩⟩
           ·rw [if_neg c24] at H
            exact absurd H (by simp)
          ·rw [if_neg c23] at H
           have c23b0 : decide (x9_2 < (l0_3.length : Int)) = false := decide_eq_false c23
           clear c23
           have H' := Aside0.mk H
           clear H
           have hcz139_0 : wr.cell? ⟨gb274, 0, none⟩ = some (.slice A0_0 l0_0.length c0_0) := (blk_cell BK274.out 0).trans rfl
           have hcz139_1 : wr.cell? ⟨gb274, 1, none⟩ = some (.slice A0_1 l0_1.length c0_1) := (blk_cell BK274.out 1).trans rfl
           have hcz139_2 : wr.cell? ⟨gb274, 2, none⟩ = some (.int .i64 a0_2) := (blk_cell BK274.out 2).trans rfl
           have hcz139_3 : wr.cell? ⟨gb274, 3, none⟩ = some (.slice A0_3 l0_3.length c0_3) := (blk_cell BK274.out 3).trans rfl
           have hfz139_0 := blk_frozen BK274.out 0
           have hfz139_1 := blk_frozen BK274.out 1
           have hfz139_2 := blk_frozen BK274.out 2
           have hfz139_3 := blk_frozen BK274.out 3
           go_wp2
           (try simp only [← hl7_1, ← hl7_2])
           go_roundg k2
           case measure => have := HK1.out; have := HK2.out; omega
           case rel => exact ⟨(x7_2), (x8_2), (by first | rfl | (simp; done) | (simp [*]; done)), H', ⟨by have := HK1.out; have := HK2.out; omega⟩, ⟨by (try simp only [hl7_1]); (try simp only [hl7_2]); (with_reducible repeat (first | apply Kd.R_alloc | apply Kd.R_drewN | apply Kd.R_drew)); exact HO_5.out⟩, ⟨by (try simp only [hl7_1]); (try simp only [hl7_2]); (with_reducible repeat (first | apply Kd.R_alloc | apply Kd.R_drewN | apply Kd.R_drew)); exact HO_6.out⟩, ⟨by (try simp only [hl7_1]); (try simp only [hl7_2]); (with_reducible repeat (first | apply Kd.R_alloc | apply Kd.R_drewN | apply Kd.R_drew)); exact HO_7.out⟩, ⟨by (try simp only [hl7_1]); (try simp only [hl7_2]); (with_reducible repeat (first | refine blk_drewN ?_ _ | refine blk_drew ?_ | refine blk_alloc ?_ _)); exact BK274.out⟩, ⟨by repeat (first | (with_reducible first | exact HB.out | apply below_alloc | apply pw_below_drewN | apply below_drew1 | refine below_set ?_ GE274.out) | exact HB.out)⟩⟩
       ·replace c22 := Bool.eq_false_iff.mpr c22
        subst c22
        have H1 : ((emendateref21_sets.f k1 x7_1 (wrap64 ((l0_0.length : Int) + 1)) 1).bind fun t285 => (some t285)) = some r := by rw [if_neg (show ¬ (false = true) by decide)] at H; exact H
        clear H
        have H := H1
        clear H1
        replace H := Option.bind_eq_some_iff.mp H
        obtain ⟨t285, A1400, H⟩ := H
        replace H : (some t285) = some r := H
        have A140 := Aside0.mk A1400
        clear A1400
        obtain rfl := Option.some.inj H
        go_wp2_with (first | ((with_reducible refine gate_callee (f := 43) rfl ?_); refine goesL_ (some 171) rfl rfl Try.func43 (by kernel_rfl) rfl #[.slice (some ⟨go10, 0, none⟩) x7_1.length co10, .int .i64 (wrap64 ((l0_0.length : Int) + 1)), .int .i64 1] rfl (by (try simp only [List.map_toArray, List.map_cons, List.map_nil]); first | done | rfl | (simp only [List.length_drop, List.length_take]; rfl)) ?_; (with_reducible refine (emendateref21_sets.calls k1 _ _ x7_1 (wrap64 ((l0_0.length : Int) + 1)) 1 t285 _ ?side1 ?side2 A140.out).mono ?_); (case side1 => repeat (first | exact (Kd.R_reads' HO_7.out).2.2 | (with_reducible refine Kd.C_alloc ?_ _) | (with_reducible refine Kd.C_drewN ?_ _) | (with_reducible refine Kd.C_drew ?_))); (case side2 => exact (Kd.R_reads' HO_7.out).2.1); rintro e w141 ⟨v286, rfl, ho0, hb⟩; refine ⟨_, rfl, ?_⟩; have n0_ := Aside0.mk (Kd.R_below (by (with_reducible repeat (first | apply Kd.R_alloc | apply Kd.R_drewN | apply Kd.R_drew)); exact HO_5.out) hb); have n1_ := Aside0.mk (Kd.R_below (by (with_reducible repeat (first | apply Kd.R_alloc | apply Kd.R_drewN | apply Kd.R_drew)); exact HO_6.out) hb); have n2_ := Aside0.mk (Kd.R_below (by (with_reducible repeat (first | apply Kd.R_alloc | apply Kd.R_drewN | apply Kd.R_drew)); exact HO_7.out) hb); have n3_ := Aside0.mk (Kd.S_lower ho0 (below_size (by repeat (first | (with_reducible first | exact HB.out | apply below_alloc | apply pw_below_drewN | apply below_drew1 | refine below_set ?_ GE274.out) | exact HB.out)))); have n4_ := Aside0.mk (blk_below (g := gb274) (o := .cells #[.slice A0_0 l0_0.length c0_0, .slice A0_1 l0_1.length c0_1, .int .i64 a0_2, .slice A0_3 l0_3.length c0_3] 25 (0, 0)) (by (with_reducible repeat (first | refine blk_drewN ?_ _ | refine blk_drew ?_ | refine blk_alloc ?_ _)); exact BK274.out) hb); have n5_ := Aside0.mk (below_step (by repeat (first | (with_reducible first | exact HB.out | apply below_alloc | apply pw_below_drewN | apply below_drew1 | refine below_set ?_ GE274.out) | exact HB.out)) hb); clear HO_5; clear HO_6; clear HO_7; clear BK274; clear HB; have HO_5 := n0_; have HO_6 := n1_; have HO_7 := n2_; have HO287 := n3_; have BK274 := n4_; have HB := n5_; clear n0_ n1_ n2_ n3_ n4_ n5_; (try clear hb); (try clear hb2); (try clear hk); (try clear hi); (try clear ho0)))
        go_ret
        exact ⟨_, by first | rfl | (simp [errW_none, errW_some] <;> rfl) | (simp only [← hji4, ← hji7]; first | rfl | (simp [errW_none, errW_some] <;> rfl)) | (simp [*, errW_none, errW_some] <;> rfl), by (with_reducible repeat (first | apply Kd.S_alloc | apply Kd.S_drewN | apply Kd.S_drew)); exact HO287.out, by repeat (first | (with_reducible first | exact HB.out | apply below_alloc | apply pw_below_drewN | apply below_drew1 | refine below_set ?_ GE274.out) | exact HB.out)⟩
    ·rw [if_neg c9] at H
     exact absurd H (by simp)
   ·rw [if_neg c8] at H
    exact absurd H (by simp)
  ·rw [if_neg c6] at H
   exact absurd H (by simp)
 ·rw [if_neg c5] at H
  exact absurd H (by simp)

end Go.Proofs.Ytkaedhooccpniaa.PA
