-- Written by wip/tools/wprint.py (a wrapper around the kit's printer) for this claim. Not trusted: Lean checks it.
import Derived.Test.YtkaedhooccpniaaPAx0
-- halved
namespace Go.Proofs.Ytkaedhooccpniaa.PA
open Go.RowKit Go.Proofs.YtkaedhooccpniaaW.PrintWords Go.Proofs.YtkaedhooccpniaaW.PrintLast Go.Proofs.YtkaedhooccpniaaW.PrintMore
attribute [local go_sem] max2_int min2_int max_two min_two max_three min_three max_four min_four   -- for this text's walks alone
set_option linter.unusedVariables false
set_option linter.unusedSimpArgs false

/-! ### emendateref21_Reachable: function 18 -/
mutual
def emendateref21_Reachable.l0 : Nat → List Bool → Bool → List ByteArray → List ByteArray → Int → List (S41) → Option (List Bool)
 | 0, _, _, _, _, _, _ => none
 | k + 1, x3, x4, x200000, x200001, x200002, x200003 => if x4 = true then (emendateref21_Reachable.l1 k x3 false 0 x200000 x200001 x200002 x200003) else (some x3)
def emendateref21_Reachable.l1 : Nat → List Bool → Bool → Int → List ByteArray → List ByteArray → Int → List (S41) → Option (List Bool)
 | 0, _, _, _, _, _, _, _ => none
 | k + 1, x3, x4, x5, x200000, x200001, x200002, x200003 => if x5 < (x200003.length : Int) then (if 0 ≤ x5 then (emendateref21_Reachable.l2 k x3 x4 x5 0 x200000 x200001 x200002 x200003 ((rd_T41 x200003 x5).f0) ((rd_T41 x200003 x5).f1) ((rd_T41 x200003 x5).f2)) else (none)) else (emendateref21_Reachable.l0 k x3 x4 x200000 x200001 x200002 x200003)
def emendateref21_Reachable.l2 : Nat → List Bool → Bool → Int → Int → List ByteArray → List ByteArray → Int → List (S41) → Int → List Int → Int → Option (List Bool)
 | 0, _, _, _, _, _, _, _, _, _, _, _ => none
 | k + 1, x3, x4, x5, x7, x200000, x200001, x200002, x200003, x206000, x206001, x206002 => if x7 < (x206001.length : Int) then (if 0 ≤ x206000 then (if x206000 < (x3.length : Int) then (emendateref21_Reachable.j3 k x3 x4 x5 x7 (rdOf false x3 x206000) x200000 x200001 x200002 x200003 x206000 x206001 x206002) else (none)) else (none)) else (emendateref21_Reachable.j3 k x3 x4 x5 x7 false x200000 x200001 x200002 x200003 x206000 x206001 x206002)
def emendateref21_Reachable.j3 : Nat → List Bool → Bool → Int → Int → Bool → List ByteArray → List ByteArray → Int → List (S41) → Int → List Int → Int → Option (List Bool)
 | 0, _, _, _, _, _, _, _, _, _, _, _, _ => none
 | k + 1, x3, x4, x5, x7, x40, x200000, x200001, x200002, x200003, x206000, x206001, x206002 => if x40 = true then (if 0 ≤ x7 then (if x7 < (x206001.length : Int) then (if (rd x206001 x7) < 0 then (if 0 ≤ (wrap64 ((-1) - (rd x206001 x7))) then (if (wrap64 ((-1) - (rd x206001 x7))) < (x3.length : Int) then (if (rdOf false x3 (wrap64 ((-1) - (rd x206001 x7))) = true) then (emendateref21_Reachable.l2 k x3 x4 x5 (wrap64 (x7 + 1)) x200000 x200001 x200002 x200003 x206000 x206001 x206002) else (emendateref21_Reachable.l2 k (x3.set ((wrap64 ((-1) - (rd x206001 x7))) : Int).toNat true) true x5 (wrap64 (x7 + 1)) x200000 x200001 x200002 x200003 x206000 x206001 x206002)) else (none)) else (none)) else (emendateref21_Reachable.l2 k x3 x4 x5 (wrap64 (x7 + 1)) x200000 x200001 x200002 x200003 x206000 x206001 x206002)) else (none)) else (none)) else (emendateref21_Reachable.l1 k x3 x4 (wrap64 (x5 + 1)) x200000 x200001 x200002 x200003)
end
def emendateref21_Reachable.f (k : Nat) (l0_0 : List ByteArray) (l0_1 : List ByteArray) (a0_2 : Int) (l0_3 : List (S41)) : Option (List Bool) := if 0 ≤ (l0_1.length : Int) then (if ((l0_1.length : Int) : Int).toNat ≤ 281474976710656 then ((some (List.replicate ((l0_1.length : Int) : Int).toNat false : List Bool)).bind fun y200 => (if 0 ≤ a0_2 then (if a0_2 < (y200.length : Int) then (emendateref21_Reachable.l0 k (y200.set (a0_2 : Int).toNat true) true l0_0 l0_1 a0_2 l0_3) else (none)) else (none))) else (none)) else (none)
theorem emendateref21_Reachable.mono_l : ∀ k, (∀ y0 y1 y2 y3 y4 y5, LeO (emendateref21_Reachable.l0 k y0 y1 y2 y3 y4 y5) (emendateref21_Reachable.l0 (k + 1) y0 y1 y2 y3 y4 y5)) ∧ (∀ y0 y1 y2 y3 y4 y5 y6, LeO (emendateref21_Reachable.l1 k y0 y1 y2 y3 y4 y5 y6) (emendateref21_Reachable.l1 (k + 1) y0 y1 y2 y3 y4 y5 y6)) ∧ (∀ y0 y1 y2 y3 y4 y5 y6 y7 y8 y9 y10, LeO (emendateref21_Reachable.l2 k y0 y1 y2 y3 y4 y5 y6 y7 y8 y9 y10) (emendateref21_Reachable.l2 (k + 1) y0 y1 y2 y3 y4 y5 y6 y7 y8 y9 y10)) ∧ (∀ y0 y1 y2 y3 y4 y5 y6 y7 y8 y9 y10 y11, LeO (emendateref21_Reachable.j3 k y0 y1 y2 y3 y4 y5 y6 y7 y8 y9 y10 y11) (emendateref21_Reachable.j3 (k + 1) y0 y1 y2 y3 y4 y5 y6 y7 y8 y9 y10 y11))
 | 0 => ⟨fun _ _ _ _ _ _ r h => by simp [emendateref21_Reachable.l0] at h, fun _ _ _ _ _ _ _ r h => by simp [emendateref21_Reachable.l1] at h, fun _ _ _ _ _ _ _ _ _ _ _ r h => by simp [emendateref21_Reachable.l2] at h, fun _ _ _ _ _ _ _ _ _ _ _ _ r h => by simp [emendateref21_Reachable.j3] at h⟩
 | k + 1 => by
  obtain ⟨ih0, ih1, ih2, ih3⟩ := emendateref21_Reachable.mono_l k
  refine ⟨?_, ?_, ?_, ?_⟩
  ·intro y0 y1 y2 y3 y4 y5
   unfold emendateref21_Reachable.l0
   repeat' first
   | (with_reducible exact ih0 _ _ _ _ _ _)
   | (with_reducible exact ih1 _ _ _ _ _ _ _)
   | (with_reducible exact ih2 _ _ _ _ _ _ _ _ _ _ _)
   | (with_reducible exact ih3 _ _ _ _ _ _ _ _ _ _ _ _)
   | (with_reducible exact LeO.refl _)
   | (with_reducible exact LeO.none _)
   | (with_reducible refine LeO.ite ?_ ?_)
   | (with_reducible refine LeO.bind ?_ (fun _ => ?_))
   | exact ih0 _ _ _ _ _ _
   | exact ih1 _ _ _ _ _ _ _
   | exact ih2 _ _ _ _ _ _ _ _ _ _ _
   | exact ih3 _ _ _ _ _ _ _ _ _ _ _ _
   | exact LeO.none _
   | refine LeO.ite ?_ ?_
   | refine LeO.bind ?_ (fun _ => ?_)
  ·intro y0 y1 y2 y3 y4 y5 y6
   unfold emendateref21_Reachable.l1
   repeat' first
   | (with_reducible exact ih0 _ _ _ _ _ _)
   | (with_reducible exact ih1 _ _ _ _ _ _ _)
   | (with_reducible exact ih2 _ _ _ _ _ _ _ _ _ _ _)
   | (with_reducible exact ih3 _ _ _ _ _ _ _ _ _ _ _ _)
   | (with_reducible exact LeO.refl _)
   | (with_reducible exact LeO.none _)
   | (with_reducible refine LeO.ite ?_ ?_)
   | (with_reducible refine LeO.bind ?_ (fun _ => ?_))
   | exact ih0 _ _ _ _ _ _
   | exact ih1 _ _ _ _ _ _ _
   | exact ih2 _ _ _ _ _ _ _ _ _ _ _
   | exact ih3 _ _ _ _ _ _ _ _ _ _ _ _
   | exact LeO.none _
   | refine LeO.ite ?_ ?_
   | refine LeO.bind ?_ (fun _ => ?_)
  ·intro y0 y1 y2 y3 y4 y5 y6 y7 y8 y9 y10
   unfold emendateref21_Reachable.l2
   repeat' first
   | (with_reducible exact ih0 _ _ _ _ _ _)
   | (with_reducible exact ih1 _ _ _ _ _ _ _)
   | (with_reducible exact ih2 _ _ _ _ _ _ _ _ _ _ _)
   | (with_reducible exact ih3 _ _ _ _ _ _ _ _ _ _ _ _)
   | (with_reducible exact LeO.refl _)
   | (with_reducible exact LeO.none _)
   | (with_reducible refine LeO.ite ?_ ?_)
   | (with_reducible refine LeO.bind ?_ (fun _ => ?_))
   | exact ih0 _ _ _ _ _ _
   | exact ih1 _ _ _ _ _ _ _
   | exact ih2 _ _ _ _ _ _ _ _ _ _ _
   | exact ih3 _ _ _ _ _ _ _ _ _ _ _ _
   | exact LeO.none _
   | refine LeO.ite ?_ ?_
   | refine LeO.bind ?_ (fun _ => ?_)
  ·intro y0 y1 y2 y3 y4 y5 y6 y7 y8 y9 y10 y11
   unfold emendateref21_Reachable.j3
   repeat' first
   | (with_reducible exact ih0 _ _ _ _ _ _)
   | (with_reducible exact ih1 _ _ _ _ _ _ _)
   | (with_reducible exact ih2 _ _ _ _ _ _ _ _ _ _ _)
   | (with_reducible exact ih3 _ _ _ _ _ _ _ _ _ _ _ _)
   | (with_reducible exact LeO.refl _)
   | (with_reducible exact LeO.none _)
   | (with_reducible refine LeO.ite ?_ ?_)
   | (with_reducible refine LeO.bind ?_ (fun _ => ?_))
   | exact ih0 _ _ _ _ _ _
   | exact ih1 _ _ _ _ _ _ _
   | exact ih2 _ _ _ _ _ _ _ _ _ _ _
   | exact ih3 _ _ _ _ _ _ _ _ _ _ _ _
   | exact LeO.none _
   | refine LeO.ite ?_ ?_
   | refine LeO.bind ?_ (fun _ => ?_)
theorem emendateref21_Reachable.mono : ∀ a0 a1 a2 a3 k, LeO (emendateref21_Reachable.f k a0 a1 a2 a3) (emendateref21_Reachable.f (k + 1) a0 a1 a2 a3) := by
 intro a0 a1 a2 a3 k
 obtain ⟨ih0, ih1, ih2, ih3⟩ := emendateref21_Reachable.mono_l k
 unfold emendateref21_Reachable.f
 repeat' first
   | (with_reducible exact ih0 _ _ _ _ _ _)
   | (with_reducible exact ih1 _ _ _ _ _ _ _)
   | (with_reducible exact ih2 _ _ _ _ _ _ _ _ _ _ _)
   | (with_reducible exact ih3 _ _ _ _ _ _ _ _ _ _ _ _)
   | (with_reducible exact LeO.refl _)
   | (with_reducible exact LeO.none _)
   | (with_reducible refine LeO.ite ?_ ?_)
   | (with_reducible refine LeO.bind ?_ (fun _ => ?_))
   | exact ih0 _ _ _ _ _ _
   | exact ih1 _ _ _ _ _ _ _
   | exact ih2 _ _ _ _ _ _ _ _ _ _ _
   | exact ih3 _ _ _ _ _ _ _ _ _ _ _ _
   | exact LeO.none _
   | refine LeO.ite ?_ ?_
   | refine LeO.bind ?_ (fun _ => ?_)
set_option maxHeartbeats 8000000 in
set_option maxRecDepth 100000 in
theorem emendateref21_Reachable.calls (k : Nat) (A0_0 : Option Addr) (c0_0 : Nat) (l0_0 : List ByteArray) (A0_1 : Option Addr) (c0_1 : Nat) (l0_1 : List ByteArray) (a0_2 : Int) (A0_3 : Option Addr) (c0_3 : Nat) (l0_3 : List (S41)) (r : List Bool) (w : World) (hr0_0 : Kd.C Kd.string w A0_0 l0_0.length l0_0) (hc0_0 : l0_0.length ≤ c0_0) (hr0_1 : Kd.C Kd.string w A0_1 l0_1.length l0_1) (hc0_1 : l0_1.length ≤ c0_1) (hr0_3 : Kd.C k41 w A0_3 l0_3.length l0_3) (hc0_3 : l0_3.length ≤ c0_3) (h : emendateref21_Reachable.f k l0_0 l0_1 a0_2 l0_3 = some r) :
  Calls Try.prog 18 #[.agg #[.slice A0_0 l0_0.length c0_0, .slice A0_1 l0_1.length c0_1, .int .i64 a0_2, .slice A0_3 l0_3.length c0_3]] w fun e w' => ∃ v0_ : Value, e = .returned (v0_) ∧ Kd.R Kd.bool 4 w' w.heap.size (fun _ => True) v0_ r ∧ Below w.heap.size w w' := by
 have hu25 := Try.underlying25
 have hu41 := Try.underlying41
 have HR0_0 := Aside0.mk hr0_0
 have HC0_0 := Aside0.mk hc0_0
 clear hr0_0 hc0_0
 have HR0_1 := Aside0.mk hr0_1
 have HC0_1 := Aside0.mk hc0_1
 clear hr0_1 hc0_1
 have HR0_3 := Aside0.mk hr0_3
 have HC0_3 := Aside0.mk hc0_3
 clear hr0_3 hc0_3
 have HB := Aside0.mk (Below.refl w.heap.size w)
 have H : (if 0 ≤ (l0_1.length : Int) then (if ((l0_1.length : Int) : Int).toNat ≤ 281474976710656 then ((some (List.replicate ((l0_1.length : Int) : Int).toNat false : List Bool)).bind fun y200 => (if 0 ≤ a0_2 then (if a0_2 < (y200.length : Int) then (emendateref21_Reachable.l0 k (y200.set (a0_2 : Int).toNat true) true l0_0 l0_1 a0_2 l0_3) else (none)) else (none))) else (none)) else (none)) = some r := h
 clear h
 by_cases c2 : 0 ≤ (l0_1.length : Int)
 ·rw [if_pos c2] at H
  have c2b0 := eq_true c2
  have c2b1 : decide (0 ≤ (l0_1.length : Int)) = true := decide_eq_true c2
  clear c2
  by_cases c3 : ((l0_1.length : Int) : Int).toNat ≤ 281474976710656
  ·rw [if_pos c3] at H
   have c3b0 := eq_true c3
   have c3b1 : decide (((l0_1.length : Int) : Int).toNat ≤ 281474976710656) = true := decide_eq_true c3
   clear c3
   obtain ⟨y200, hy200⟩ : ∃ y_ : List Bool, y_ = (List.replicate ((l0_1.length : Int) : Int).toNat false) := ⟨_, rfl⟩
   replace H : (if 0 ≤ a0_2 then (if a0_2 < (y200.length : Int) then (emendateref21_Reachable.l0 k (y200.set (a0_2 : Int).toNat true) true l0_0 l0_1 a0_2 l0_3) else (none)) else (none)) = some r := by first | (rw [hy200]; with_reducible exact H) | (have H2_ := (Option.bind_some _ _).symm.trans H; rw [hy200]; with_reducible exact H2_) | (have H2_ := (Option.bind_some _ _).symm.trans H; with_reducible exact H2_) | with_reducible exact H | (rw [hy200]; exact H) | exact H
   have Ny200 := Aside0.mk hy200
   clear hy200
   by_cases c4 : 0 ≤ a0_2
   ·rw [if_pos c4] at H
    have c4b0 : decide (0 ≤ a0_2) = true := decide_eq_true c4
    clear c4
    by_cases c5 : a0_2 < (y200.length : Int)
    ·rw [if_pos c5] at H
     have c5b0 : decide (a0_2 < (y200.length : Int)) = true := decide_eq_true c5
     clear c5
     obtain ⟨y203, hy203⟩ : ∃ y_ : List Bool, y_ = (y200.set (a0_2 : Int).toNat true) := ⟨_, rfl⟩
     replace H : (emendateref21_Reachable.l0 k y203 true l0_0 l0_1 a0_2 l0_3) = some r := by first | (rw [hy203]; with_reducible exact H) | (have H2_ := (Option.bind_some _ _).symm.trans H; rw [hy203]; with_reducible exact H2_) | (have H2_ := (Option.bind_some _ _).symm.trans H; with_reducible exact H2_) | with_reducible exact H | (rw [hy203]; exact H) | exact H
     have Ny203 := Aside0.mk hy203
     clear hy203
     have H' := Aside0.mk H
     clear H
     go_enter Try.func18, Try.ntmps18
     go_wp2_with (first | ((with_reducible refine gate_dst (N := 1) rfl ?_); refine box_event ?hg (N := 1) ?hd (cs := #[.slice A0_0 l0_0.length c0_0, .slice A0_1 l0_1.length c0_1, .int .i64 a0_2, .slice A0_3 l0_3.length c0_3]) (t := 25) ?hr ?_; (case hd => rfl); (case hg => rfl); (case hr => first | (go_simp; done) | (go_simp; rfl)); intro gb199 hg w7 hbox hb; have n0_ := Aside0.mk (below_step (by repeat (first | (with_reducible first | exact HB.out | apply below_alloc | apply pw_below_drewN | apply below_drew1) | exact HB.out)) hb); have n1_ := Aside0.mk (hbox); have n2_ := Aside0.mk ((by rw [hg]; exact (below_size (by repeat (first | (with_reducible first | exact HB.out | apply below_alloc | apply pw_below_drewN | apply below_drew1) | exact HB.out))) : w.heap.size ≤ gb199)); have n3_ := Aside0.mk ((by rw [hg]; exact (below_size (by repeat (first | (with_reducible first | exact HB.out | apply below_alloc | apply pw_below_drewN | apply below_drew1) | exact HB.out))) : w.heap.size ≤ gb199)); clear HB; have HB := n0_; have BK199 := n1_; have GW199 := n2_; have GE199 := n3_; clear n0_ n1_ n2_ n3_; clear hb hbox hg; have hcz8_0 : w7.cell? ⟨gb199, 0, none⟩ = some (.slice A0_0 l0_0.length c0_0) := (blk_cell BK199.out 0).trans rfl; have hcz8_1 : w7.cell? ⟨gb199, 1, none⟩ = some (.slice A0_1 l0_1.length c0_1) := (blk_cell BK199.out 1).trans rfl; have hcz8_2 : w7.cell? ⟨gb199, 2, none⟩ = some (.int .i64 a0_2) := (blk_cell BK199.out 2).trans rfl; have hcz8_3 : w7.cell? ⟨gb199, 3, none⟩ = some (.slice A0_3 l0_3.length c0_3) := (blk_cell BK199.out 3).trans rfl; have hfz8_0 := blk_frozen BK199.out 0; have hfz8_1 := blk_frozen BK199.out 1; have hfz8_2 := blk_frozen BK199.out 2; have hfz8_3 := blk_frozen BK199.out 3) | ((with_reducible refine gate_dst (N := 11) rfl ?_); refine Kd.R_make Kd.bool _ 4 rfl (N := 11) rfl 29 _ _ rfl (l0_1.length : Int) rfl rfl Try.underlying29 (.bool false) 1 info4 rfl (by decide) (by omega) false (ok := fun _ => True) (okp := fun _ => True) rfl (fun _ hk => hk) trivial (of_decide_eq_true (by first | (with_reducible assumption) | assumption)) (Nat.le_trans (Nat.mul_le_mul_right _ (of_decide_eq_true (by first | (with_reducible assumption) | assumption) : (l0_1.length : Int).toNat ≤ 281474976710656)) (by omega)) (Below.refl _ _) (Nat.le_refl _) ?_; intro v201 w9 ho10 hb hg_ hnew_; clear hg_ hnew_; (first | rw [← Ny200.out] at ho10 | (simp only [Int.reduceToNat] at ho10; rw [← Ny200.out] at ho10)); have n0_ := Aside0.mk (Kd.R_lower ho10 (below_size (by repeat (first | (with_reducible first | exact HB.out | apply below_alloc | apply pw_below_drewN | apply below_drew1 | refine below_set ?_ GE199.out) | exact HB.out)))); have n1_ := Aside0.mk (blk_below (g := gb199) (o := .cells #[.slice A0_0 l0_0.length c0_0, .slice A0_1 l0_1.length c0_1, .int .i64 a0_2, .slice A0_3 l0_3.length c0_3] 25 (0, 0)) (by (with_reducible repeat (first | refine blk_drewN ?_ _ | refine blk_drew ?_ | refine blk_alloc ?_ _)); exact BK199.out) hb); have n2_ := Aside0.mk (below_step (by repeat (first | (with_reducible first | exact HB.out | apply below_alloc | apply pw_below_drewN | apply below_drew1 | refine below_set ?_ GE199.out) | exact HB.out)) hb); clear BK199; clear HB; have HO202 := n0_; have BK199 := n1_; have HB := n2_; clear n0_ n1_ n2_; clear hb ho10; have hcz11_0 : w9.cell? ⟨gb199, 0, none⟩ = some (.slice A0_0 l0_0.length c0_0) := (blk_cell BK199.out 0).trans rfl; have hcz11_1 : w9.cell? ⟨gb199, 1, none⟩ = some (.slice A0_1 l0_1.length c0_1) := (blk_cell BK199.out 1).trans rfl; have hcz11_2 : w9.cell? ⟨gb199, 2, none⟩ = some (.int .i64 a0_2) := (blk_cell BK199.out 2).trans rfl; have hcz11_3 : w9.cell? ⟨gb199, 3, none⟩ = some (.slice A0_3 l0_3.length c0_3) := (blk_cell BK199.out 3).trans rfl; have hfz11_0 := blk_frozen BK199.out 0; have hfz11_1 := blk_frozen BK199.out 1; have hfz11_2 := blk_frozen BK199.out 2; have hfz11_3 := blk_frozen BK199.out 3; have p6 : 0 ≤ (a0_2 : Int) := of_decide_eq_true (by first | (with_reducible assumption) | assumption); have q6 : (a0_2 : Int) < ((y200.length : Int) : Int) := of_decide_eq_true (by first | (with_reducible assumption) | assumption); obtain ⟨go6, co6, eo6, gb6, gl6, cl6, HG6⟩ := Kd.R_form HO202.out (by omega); (first | cases eo6 | (injection eo6 with ea_ en_ ec_; (first | subst ea_ | (injection ea_ with ea_; subst ea_)); subst ec_; clear en_)); have GB6 := Aside0.mk gb6; have GG6 := Aside0.mk HG6; clear gb6 gl6 HG6; obtain ⟨hx6_0, hf6_0⟩ := Kd.R_celln false HO202.out (a0_2 : Int) p6 q6; replace p6 := eq_true p6; replace q6 := eq_true q6; obtain ⟨hy12_, hz12_⟩ := Kd.R_celln false HO202.out (a0_2 : Int) (of_decide_eq_true (by first | (with_reducible assumption) | assumption)) (of_decide_eq_true (by first | (with_reducible assumption) | assumption)); have HP12 := Kd.R_putg HO202.out (a0_2 : Int) true) | ((with_reducible refine gate_store (t := 4) (p := 15) rfl ?_); refine store_event (t := 4) (p := 15) (v := ?vo_w13) (w1 := (w9.setCell ⟨go6, (a0_2 : Int).toNat, none⟩ (.bool true))) ?hg ?ho ?hn ?hr ?_; (case ho => rfl); (case hg => rfl); (case hn => rfl); (case hr => first | (go_simp; done) | (go_simp; rfl)); intro w13 hw; have hg : w9.grownBy w13 (some go6) := (by rw [hw]; exact HP12.2); have hp_ : Kd.R Kd.bool 4 w13 w.heap.size (fun _ => True) (.slice (some ⟨go6, 0, none⟩) y200.length co6) y203 := (by rw [hw, Ny203.out]; exact HP12.1); clear HP12; have n0_ := Aside0.mk (blk_grown (g := gb199) (o := .cells #[.slice A0_0 l0_0.length c0_0, .slice A0_1 l0_1.length c0_1, .int .i64 a0_2, .slice A0_3 l0_3.length c0_3] 25 (0, 0)) (by (with_reducible repeat (first | refine blk_drewN ?_ _ | refine blk_drew ?_ | refine blk_alloc ?_ _)); exact BK199.out) hg (Kd.R_ne HO202.out BK199.out (by decide))); have n1_ := Aside0.mk (hp_); have n2_ := Aside0.mk ((by rw [hw]; exact below_set (HB.out) GB6.out : Below w.heap.size w w13)); clear BK199; clear HO202; clear HB; have BK199 := n0_; have HO202 := n1_; have HB := n2_; clear n0_ n1_ n2_; clear hg hw hp_))
     go_loopg [4] k (fun kq v4 w' => ∃ (x3_1 : List Bool) (x4_1 : Bool), v4 = .bool x4_1 ∧ Aside0 (emendateref21_Reachable.l0 kq x3_1 x4_1 l0_0 l0_1 a0_2 l0_3 = some r) ∧ Aside0 (kq ≤ k) ∧ Aside0 (Kd.R Kd.bool 4 w' w.heap.size (fun _ => True) (.slice (some ⟨go6, 0, none⟩) y200.length co6) x3_1) ∧ Aside0 (w'.heap[gb199]? = some (.cells #[(.slice A0_0 l0_0.length c0_0), (.slice A0_1 l0_1.length c0_1), .int .i64 a0_2, (.slice A0_3 l0_3.length c0_3)] 25 (0, 0))) ∧ Aside0 (Below w.heap.size w w'))
     case atStart => exact ⟨(y203), (true), (by first | rfl | (simp; done) | (simp [*]; done)), H', ⟨Nat.le_refl _⟩, ⟨by (with_reducible repeat (first | apply Kd.R_alloc | apply Kd.R_drewN | apply Kd.R_drew)); exact HO202.out⟩, ⟨by (with_reducible repeat (first | refine blk_drewN ?_ _ | refine blk_drew ?_ | refine blk_alloc ?_ _)); exact BK199.out⟩, ⟨by repeat (first | (with_reducible first | exact HB.out | apply below_alloc | apply pw_below_drewN | apply below_drew1 | refine below_set ?_ GE199.out) | exact HB.out)⟩⟩
     case round =>
      clear H'
      try clear c1
      try clear c2
      try clear c2b0
      try clear c2b1
      try clear p2
      try clear c3
      try clear c3b0
      try clear c3b1
      try clear c4
      try clear c4b0
      try clear c5
      try clear c5b0
      try clear p6
      try clear q6
      try clear hx6
      try clear hf6
      try clear hcz11_0
      try clear hcz11_1
      try clear hcz11_2
      try clear hcz11_3
      try clear hcz8_0
      try clear hcz8_1
      try clear hcz8_2
      try clear hcz8_3
      try clear hfz11_0
      try clear hfz11_1
      try clear hfz11_2
      try clear hfz11_3
      try clear hfz8_0
      try clear hfz8_1
      try clear hfz8_2
      try clear hfz8_3
      try clear hx6_0
      try clear p6
      try clear q6
      obtain ⟨x3_1, x4_1, rfl, HA, HK1, HO_3, BK199, HB⟩ := hrel
      have hl3_1 := (Kd.R_reads' HO_3.out).1
      rw [hl3_1] at HO_3
      (try simp only [hl3_1])
      (try simp only [hl3_1] at BK199)
      cases gk with
      | zero => exact absurd HA.out (by simp [emendateref21_Reachable.l0])
      | succ k1 =>
       have H := HA.out
       clear HA
       simp only [emendateref21_Reachable.l0] at H
       by_cases c14 : x4_1 = true
       ·subst c14
        have H1 : (emendateref21_Reachable.l1 k1 x3_1 false 0 l0_0 l0_1 a0_2 l0_3) = some r := by rw [if_pos rfl] at H; exact H
        clear H
        have H := H1
        clear H1
        have H' := Aside0.mk H
        clear H
        go_wp2
        go_loopg [4, 5] k1 (fun kq v4 v5 w' => ∃ (x3_2 : List Bool) (x4_2 : Bool) (x5_2 : Int), v4 = .bool x4_2 ∧ v5 = .int .i64 x5_2 ∧ Aside0 (emendateref21_Reachable.l1 kq x3_2 x4_2 x5_2 l0_0 l0_1 a0_2 l0_3 = some r) ∧ Aside0 (kq ≤ k1) ∧ Aside0 (Kd.R Kd.bool 4 w' w.heap.size (fun _ => True) (.slice (some ⟨go6, 0, none⟩) x3_1.length co6) x3_2) ∧ Aside0 (w'.heap[gb199]? = some (.cells #[(.slice A0_0 l0_0.length c0_0), (.slice A0_1 l0_1.length c0_1), .int .i64 a0_2, (.slice A0_3 l0_3.length c0_3)] 25 (0, 0))) ∧ Aside0 (Below w.heap.size w w'))
        case atStart => exact ⟨(x3_1), (false), (0), (by first | rfl | (simp; done) | (simp [*]; done)), (by first | rfl | (simp; done) | (simp [*]; done)), H', ⟨Nat.le_refl _⟩, ⟨by (try simp only [hl3_1]); (with_reducible repeat (first | apply Kd.R_alloc | apply Kd.R_drewN | apply Kd.R_drew)); exact HO_3.out⟩, ⟨by (try simp only [hl3_1]); (with_reducible repeat (first | refine blk_drewN ?_ _ | refine blk_drew ?_ | refine blk_alloc ?_ _)); exact BK199.out⟩, ⟨by repeat (first | (with_reducible first | exact HB.out | apply below_alloc | apply pw_below_drewN | apply below_drew1 | refine below_set ?_ GE199.out) | exact HB.out)⟩⟩
        case round =>
         clear H'
         try clear c1
         try clear c2
         try clear c2b0
         try clear c2b1
         try clear p2
         try clear c3
         try clear c3b0
         try clear c3b1
         try clear c4
         try clear c4b0
         try clear c5
         try clear c5b0
         try clear p6
         try clear q6
         try clear hx6
         try clear hf6
         try clear c14
         try clear hcz11_0
         try clear hcz11_1
         try clear hcz11_2
         try clear hcz11_3
         try clear hcz8_0
         try clear hcz8_1
         try clear hcz8_2
         try clear hcz8_3
         try clear hfz11_0
         try clear hfz11_1
         try clear hfz11_2
         try clear hfz11_3
         try clear hfz8_0
         try clear hfz8_1
         try clear hfz8_2
         try clear hfz8_3
         try clear hx6_0
         try clear p2
         try clear p6
         try clear q6
         obtain ⟨x3_2, x4_2, x5_2, rfl, rfl, HA, HK2, HO_3, BK199, HB⟩ := hrel
         have hl3_2 := (Kd.R_reads' HO_3.out).1
         rw [hl3_2] at HO_3
         (try simp only [hl3_2])
         (try simp only [hl3_2] at BK199)
         cases gk with
         | zero => exact absurd HA.out (by simp [emendateref21_Reachable.l1])
         | succ k2 =>
          have H := HA.out
          clear HA
          simp only [emendateref21_Reachable.l1] at H
          by_cases c15 : x5_2 < (l0_3.length : Int)
          ·rw [if_pos c15] at H
           have c15b0 : decide (x5_2 < (l0_3.length : Int)) = true := decide_eq_true c15
           clear c15
           by_cases c16 : 0 ≤ x5_2
           ·rw [if_pos c16] at H
            have c16b0 : decide (0 ≤ x5_2) = true := decide_eq_true c16
            clear c16
            have H' := Aside0.mk H
            clear H
            have hcz17_0 : wr.cell? ⟨gb199, 0, none⟩ = some (.slice A0_0 l0_0.length c0_0) := (blk_cell BK199.out 0).trans rfl
            have hcz17_1 : wr.cell? ⟨gb199, 1, none⟩ = some (.slice A0_1 l0_1.length c0_1) := (blk_cell BK199.out 1).trans rfl
            have hcz17_2 : wr.cell? ⟨gb199, 2, none⟩ = some (.int .i64 a0_2) := (blk_cell BK199.out 2).trans rfl
            have hcz17_3 : wr.cell? ⟨gb199, 3, none⟩ = some (.slice A0_3 l0_3.length c0_3) := (blk_cell BK199.out 3).trans rfl
            have hfz17_0 := blk_frozen BK199.out 0
            have hfz17_1 := blk_frozen BK199.out 1
            have hfz17_2 := blk_frozen BK199.out 2
            have hfz17_3 := blk_frozen BK199.out 3
            have p204 : 0 ≤ (x5_2 : Int) := of_decide_eq_true (by first | (with_reducible assumption) | assumption)
            have q204 : x5_2 < (l0_3.length : Int) := of_decide_eq_true (by first | (with_reducible assumption) | assumption)
            obtain ⟨ad204, A204_1, c204_1, e204, hx204_0, hx204_1, hx204_2, hl204_1, hi204_1⟩ := at_T41 HR0_3.out x5_2 p204 q204
            cases e204
            replace hx204_0 := (HB.out.cell (World.block_lt_of_cell? w _ hx204_0)).trans hx204_0
            replace hx204_1 := (HB.out.cell (World.block_lt_of_cell? w _ hx204_1)).trans hx204_1
            replace hx204_2 := (HB.out.cell (World.block_lt_of_cell? w _ hx204_2)).trans hx204_2
            have HR204_1 := Aside0.mk hi204_1
            have HC204_1 := Aside0.mk hl204_1
            clear hi204_1 hl204_1
            replace p204 := eq_true p204
            replace q204 := eq_true q204
            go_wp2_with (first | ((with_reducible refine gate_dst (N := 6) rfl ?_); refine box_event ?hg (N := 6) ?hd (cs := #[.int .i64 0, .slice none 0 0, .int .i64 0]) (t := 41) ?hr ?_; (case hd => rfl); (case hg => rfl); (case hr => first | (go_simp; done) | (go_simp; rfl)); intro gb205 hg w18 hbox hb; have n0_ := Aside0.mk (Kd.R_below (by (with_reducible repeat (first | apply Kd.R_alloc | apply Kd.R_drewN | apply Kd.R_drew)); exact HO_3.out) hb); have n1_ := Aside0.mk (blk_below (g := gb199) (o := .cells #[.slice A0_0 l0_0.length c0_0, .slice A0_1 l0_1.length c0_1, .int .i64 a0_2, .slice (some ad204) l0_3.length c0_3] 25 (0, 0)) (by (with_reducible repeat (first | refine blk_drewN ?_ _ | refine blk_drew ?_ | refine blk_alloc ?_ _)); exact BK199.out) hb); have n2_ := Aside0.mk (below_step (by repeat (first | (with_reducible first | exact HB.out | apply below_alloc | apply pw_below_drewN | apply below_drew1 | refine below_set ?_ GE199.out) | exact HB.out)) hb); have n3_ := Aside0.mk (hbox); have n4_ := Aside0.mk ((by rw [hg]; exact (below_size (by repeat (first | (with_reducible first | exact HB.out | apply below_alloc | apply pw_below_drewN | apply below_drew1 | refine below_set ?_ GE199.out) | exact HB.out))) : w.heap.size ≤ gb205)); have n5_ := Aside0.mk ((by rw [hg]; exact (below_size (by repeat (first | (with_reducible first | exact HB.out | apply below_alloc | apply pw_below_drewN | apply below_drew1 | refine below_set ?_ GE199.out) | exact HB.out))) : w.heap.size ≤ gb205)); have n6_ := Aside0.mk ((by rw [hg]; exact Nat.ne_of_lt (blk_lt (g := gb199) (o := .cells #[.slice A0_0 l0_0.length c0_0, .slice A0_1 l0_1.length c0_1, .int .i64 a0_2, .slice (some ad204) l0_3.length c0_3] 25 (0, 0)) (by (with_reducible repeat (first | refine blk_drewN ?_ _ | refine blk_drew ?_ | refine blk_alloc ?_ _)); exact BK199.out)) : gb199 ≠ gb205)); have n7_ := Aside0.mk ((by rw [hg]; exact Nat.ne_of_gt (blk_lt (g := gb199) (o := .cells #[.slice A0_0 l0_0.length c0_0, .slice A0_1 l0_1.length c0_1, .int .i64 a0_2, .slice (some ad204) l0_3.length c0_3] 25 (0, 0)) (by (with_reducible repeat (first | refine blk_drewN ?_ _ | refine blk_drew ?_ | refine blk_alloc ?_ _)); exact BK199.out)) : gb205 ≠ gb199)); clear HO_3; clear BK199; clear HB; have HO_3 := n0_; have BK199 := n1_; have HB := n2_; have BK205 := n3_; have GW205 := n4_; have GE205 := n5_; have NB199_205 := n6_; have NB205_199 := n7_; clear n0_ n1_ n2_ n3_ n4_ n5_ n6_ n7_; clear hb hbox hg; have hnb19 := NB205_199.out; have hnc19 := NB199_205.out; have hcz20_0 : w18.cell? ⟨gb205, 0, none⟩ = some (.int .i64 0) := (blk_cell BK205.out 0).trans rfl; have hcz20_1 : w18.cell? ⟨gb205, 1, none⟩ = some (.slice none 0 0) := (blk_cell BK205.out 1).trans rfl; have hcz20_2 : w18.cell? ⟨gb205, 2, none⟩ = some (.int .i64 0) := (blk_cell BK205.out 2).trans rfl; have hfz20_0 := blk_frozen BK205.out 0; have hfz20_1 := blk_frozen BK205.out 1; have hfz20_2 := blk_frozen BK205.out 2))
            go_loopg [4, 7] k2 (fun kq v4 v7 w' => ∃ (x3_3 : List Bool) (x4_3 : Bool) (x7_3 : Int), v4 = .bool x4_3 ∧ v7 = .int .i64 x7_3 ∧ Aside0 (emendateref21_Reachable.l2 kq x3_3 x4_3 x5_2 x7_3 l0_0 l0_1 a0_2 l0_3 ((rd_T41 l0_3 x5_2).f0) ((rd_T41 l0_3 x5_2).f1) ((rd_T41 l0_3 x5_2).f2) = some r) ∧ Aside0 (kq ≤ k2) ∧ Aside0 (Kd.R Kd.bool 4 w' w.heap.size (fun _ => True) (.slice (some ⟨go6, 0, none⟩) x3_2.length co6) x3_3) ∧ Aside0 (w'.heap[gb199]? = some (.cells #[(.slice A0_0 l0_0.length c0_0), (.slice A0_1 l0_1.length c0_1), .int .i64 a0_2, (.slice (some ad204) l0_3.length c0_3)] 25 (0, 0))) ∧ Aside0 (w'.heap[gb205]? = some (.cells #[.int .i64 ((rd_T41 l0_3 x5_2).f0), (.slice A204_1 ((rd_T41 l0_3 x5_2).f1).length c204_1), .int .i64 ((rd_T41 l0_3 x5_2).f2)] 41 (0, 0))) ∧ Aside0 (Below w.heap.size w w'))
            case atStart => exact ⟨(x3_2), (x4_2), (0), (by first | rfl | (simp; done) | (simp [*]; done)), (by first | rfl | (simp; done) | (simp [*]; done)), H', ⟨Nat.le_refl _⟩, ⟨by (try simp only [hl3_1]); (try simp only [hl3_2]); (with_reducible repeat (first | apply Kd.R_alloc | apply Kd.R_drewN | apply Kd.R_drew)); exact Kd.R_mono (Kd.R_far (p := ⟨gb205, 2, none⟩) (Kd.R_far (p := ⟨gb205, 1, none⟩) (Kd.R_far (p := ⟨gb205, 0, none⟩) (Kd.R_types HO_3.out BK205.out (by decide)) (fun _ hk => hk.2) (.int .i64 ((rd_T41 l0_3 x5_2).f0))) (fun _ hk => hk.2) (.slice A204_1 ((rd_T41 l0_3 x5_2).f1).length c204_1)) (fun _ hk => hk.2) (.int .i64 ((rd_T41 l0_3 x5_2).f2))) (fun _ hk => trivial)⟩, ⟨by (try simp only [hl3_1]); (try simp only [hl3_2]); (with_reducible repeat (first | refine blk_drewN ?_ _ | refine blk_drew ?_ | refine blk_alloc ?_ _)); refine blk_far ?_ NB199_205.out _; (with_reducible repeat (first | refine blk_drewN ?_ _ | refine blk_drew ?_ | refine blk_alloc ?_ _)); refine blk_far ?_ NB199_205.out _; (with_reducible repeat (first | refine blk_drewN ?_ _ | refine blk_drew ?_ | refine blk_alloc ?_ _)); refine blk_far ?_ NB199_205.out _; (with_reducible repeat (first | refine blk_drewN ?_ _ | refine blk_drew ?_ | refine blk_alloc ?_ _)); exact BK199.out⟩, ⟨by (try simp only [hl3_1]); (try simp only [hl3_2]); (with_reducible repeat (first | refine blk_drewN ?_ _ | refine blk_drew ?_ | refine blk_alloc ?_ _)); refine blk_put (cs := #[.int .i64 ((rd_T41 l0_3 x5_2).f0), .slice A204_1 ((rd_T41 l0_3 x5_2).f1).length c204_1, .int .i64 0]) ?_ 2 _ rfl; (with_reducible repeat (first | refine blk_drewN ?_ _ | refine blk_drew ?_ | refine blk_alloc ?_ _)); refine blk_put (cs := #[.int .i64 ((rd_T41 l0_3 x5_2).f0), .slice none 0 0, .int .i64 0]) ?_ 1 _ rfl; (with_reducible repeat (first | refine blk_drewN ?_ _ | refine blk_drew ?_ | refine blk_alloc ?_ _)); refine blk_put (cs := #[.int .i64 0, .slice none 0 0, .int .i64 0]) ?_ 0 _ rfl; (with_reducible repeat (first | refine blk_drewN ?_ _ | refine blk_drew ?_ | refine blk_alloc ?_ _)); exact BK205.out⟩, ⟨by repeat (first | (with_reducible first | exact HB.out | apply below_alloc | apply pw_below_drewN | apply below_drew1 | refine below_set ?_ GE199.out | refine below_set ?_ GE205.out) | exact HB.out)⟩⟩
            case round =>
             clear H'
             try clear c1
             try clear c2
             try clear c2b0
             try clear c2b1
             try clear p2
             try clear q2
             try clear hx2
             try clear c3
             try clear c3b0
             try clear c3b1
             try clear c4
             try clear c4b0
             try clear c5
             try clear c5b0
             try clear p6
             try clear q6
             try clear hx6
             try clear hf6
             try clear c14
             try clear c15
             try clear c15b0
             try clear c16
             try clear c16b0
             try clear c18
             try clear c19
             try clear c20
             try clear p20
             try clear q20
             try clear hx20
             try clear hcz11_0
             try clear hcz11_1
             try clear hcz11_2
             try clear hcz11_3
             try clear hcz17_0
             try clear hcz17_1
             try clear hcz17_2
             try clear hcz17_3
             try clear hcz20_0
             try clear hcz20_1
             try clear hcz20_2
             try clear hcz8_0
             try clear hcz8_1
             try clear hcz8_2
             try clear hcz8_3
             try clear hfz11_0
             try clear hfz11_1
             try clear hfz11_2
             try clear hfz11_3
             try clear hfz17_0
             try clear hfz17_1
             try clear hfz17_2
             try clear hfz17_3
             try clear hfz20_0
             try clear hfz20_1
             try clear hfz20_2
             try clear hfz8_0
             try clear hfz8_1
             try clear hfz8_2
             try clear hfz8_3
             try clear hx204_0
             try clear hx204_1
             try clear hx204_2
             try clear hx6_0
             try clear p2
             try clear p204
             try clear p6
             try clear q204
             try clear q6
             obtain ⟨x3_3, x4_3, x7_3, rfl, rfl, HA, HK3, HO_3, BK199, BK205, HB⟩ := hrel
             have hl3_3 := (Kd.R_reads' HO_3.out).1
             rw [hl3_3] at HO_3
             (try simp only [hl3_3])
             (try simp only [hl3_3] at BK199)
             (try simp only [hl3_3] at BK205)
             cases gk with
             | zero => exact absurd HA.out (by simp [emendateref21_Reachable.l2])
             | succ k3 =>
              have H := HA.out
              clear HA
              simp only [emendateref21_Reachable.l2] at H
              have HC21 := Aside0.mk H
              clear H
              go_upto_region 11 with (fail)
              go_cut [40] (fun v40 wc => ∃ (kq : Nat) (x40_20 : Bool), v40 = .bool x40_20 ∧ Aside0 (emendateref21_Reachable.j3 kq x3_3 x4_3 x5_2 x7_3 x40_20 l0_0 l0_1 a0_2 l0_3 ((rd_T41 l0_3 x5_2).f0) ((rd_T41 l0_3 x5_2).f1) ((rd_T41 l0_3 x5_2).f2) = some r) ∧ Aside0 (kq ≤ k3) ∧ Aside0 (Kd.R Kd.bool 4 wc w.heap.size (fun _ => True) (.slice (some ⟨go6, 0, none⟩) x3_3.length co6) x3_3) ∧ Aside0 (wc.heap[gb199]? = some (.cells #[(.slice A0_0 l0_0.length c0_0), (.slice A0_1 l0_1.length c0_1), .int .i64 a0_2, (.slice (some ad204) l0_3.length c0_3)] 25 (0, 0))) ∧ Aside0 (wc.heap[gb205]? = some (.cells #[.int .i64 ((rd_T41 l0_3 x5_2).f0), (.slice A204_1 ((rd_T41 l0_3 x5_2).f1).length c204_1), .int .i64 ((rd_T41 l0_3 x5_2).f2)] 41 (0, 0))) ∧ Aside0 (Below w.heap.size w wc))
              case first =>
               have H := HC21.out
               clear HC21
               by_cases c22 : x7_3 < (((rd_T41 l0_3 x5_2).f1).length : Int)
               ·rw [if_pos c22] at H
                have c22b0 : decide (x7_3 < (((rd_T41 l0_3 x5_2).f1).length : Int)) = true := decide_eq_true c22
                clear c22
                (first | rw [c22b0] | (simp only [i64_w, i32_w]; rw [c22b0]) | skip)
                by_cases c23 : 0 ≤ ((rd_T41 l0_3 x5_2).f0)
                ·rw [if_pos c23] at H
                 have c23b0 : decide (0 ≤ ((rd_T41 l0_3 x5_2).f0)) = true := decide_eq_true c23
                 clear c23
                 by_cases c24 : ((rd_T41 l0_3 x5_2).f0) < (x3_3.length : Int)
                 ·rw [if_pos c24] at H
                  have c24b0 : decide (((rd_T41 l0_3 x5_2).f0) < (x3_3.length : Int)) = true := decide_eq_true c24
                  clear c24
                  have H' := Aside0.mk H
                  clear H
                  have hnb25 := NB205_199.out
                  have hnc25 := NB199_205.out
                  have hcz26_0 : wr.cell? ⟨gb205, 0, none⟩ = some (.int .i64 ((rd_T41 l0_3 x5_2).f0)) := (blk_cell BK205.out 0).trans rfl
                  have hcz26_1 : wr.cell? ⟨gb205, 1, none⟩ = some (.slice A204_1 ((rd_T41 l0_3 x5_2).f1).length c204_1) := (blk_cell BK205.out 1).trans rfl
                  have hcz26_2 : wr.cell? ⟨gb205, 2, none⟩ = some (.int .i64 ((rd_T41 l0_3 x5_2).f2)) := (blk_cell BK205.out 2).trans rfl
                  have hfz26_0 := blk_frozen BK205.out 0
                  have hfz26_1 := blk_frozen BK205.out 1
                  have hfz26_2 := blk_frozen BK205.out 2
                  have p206 : 0 ≤ (((rd_T41 l0_3 x5_2).f0) : Int) := of_decide_eq_true (by first | (with_reducible assumption) | assumption)
                  have q206 : ((rd_T41 l0_3 x5_2).f0) < (x3_3.length : Int) := of_decide_eq_true (by first | (with_reducible assumption) | assumption)
                  obtain ⟨ad206, e206, hx206_0⟩ := Kd.at_bool (Kd.R_reads' HO_3.out).2.2 ((rd_T41 l0_3 x5_2).f0) p206 q206
                  obtain rfl : (⟨go6, 0, none⟩ : Addr) = ad206 := (by injection e206)
                  (first | simp only [add_plain] at hx206_0 | simp only [add_at] at hx206_0 | simp only [Addr.add, Nat.zero_add] at hx206_0 | skip)
                  replace p206 := eq_true p206
                  replace q206 := eq_true q206
                  go_wp2
                  go_meet
                  case rel => exact ⟨_, (rdOf false x3_3 ((rd_T41 l0_3 x5_2).f0)), (by first | rfl | (simp; done) | (simp [*]; done)), H', ⟨by have := HK1.out; have := HK2.out; have := HK3.out; first | omega | exact Nat.le_refl _⟩, ⟨by (try simp only [hl3_1]); (try simp only [hl3_2]); (try simp only [hl3_3]); (with_reducible repeat (first | apply Kd.R_alloc | apply Kd.R_drewN | apply Kd.R_drew)); exact HO_3.out⟩, ⟨by (try simp only [hl3_1]); (try simp only [hl3_2]); (try simp only [hl3_3]); (with_reducible repeat (first | refine blk_drewN ?_ _ | refine blk_drew ?_ | refine blk_alloc ?_ _)); exact BK199.out⟩, ⟨by (try simp only [hl3_1]); (try simp only [hl3_2]); (try simp only [hl3_3]); (with_reducible repeat (first | refine blk_drewN ?_ _ | refine blk_drew ?_ | refine blk_alloc ?_ _)); exact BK205.out⟩, ⟨by repeat (first | (with_reducible first | exact HB.out | apply below_alloc | apply pw_below_drewN | apply below_drew1 | refine below_set ?_ GE199.out | refine below_set ?_ GE205.out) | exact HB.out)⟩⟩
                 ·rw [if_neg c24] at H
                  exact absurd H (by simp)
                ·rw [if_neg c23] at H
                 exact absurd H (by simp)
               ·rw [if_neg c22] at H
                have c22b0 : decide (x7_3 < (((rd_T41 l0_3 x5_2).f1).length : Int)) = false := decide_eq_false c22
                clear c22
                (first | rw [c22b0] | (simp only [i64_w, i32_w]; rw [c22b0]) | skip)
                have H' := Aside0.mk H
                clear H
                have hnb27 := NB205_199.out
                have hnc27 := NB199_205.out
                have hcz28_0 : wr.cell? ⟨gb205, 0, none⟩ = some (.int .i64 ((rd_T41 l0_3 x5_2).f0)) := (blk_cell BK205.out 0).trans rfl
                have hcz28_1 : wr.cell? ⟨gb205, 1, none⟩ = some (.slice A204_1 ((rd_T41 l0_3 x5_2).f1).length c204_1) := (blk_cell BK205.out 1).trans rfl
                have hcz28_2 : wr.cell? ⟨gb205, 2, none⟩ = some (.int .i64 ((rd_T41 l0_3 x5_2).f2)) := (blk_cell BK205.out 2).trans rfl
                have hfz28_0 := blk_frozen BK205.out 0
                have hfz28_1 := blk_frozen BK205.out 1
                have hfz28_2 := blk_frozen BK205.out 2
                go_wp2
                go_meet
                case rel => exact ⟨_, (false), (by first | rfl | (simp; done) | (simp [*]; done)), H', ⟨by have := HK1.out; have := HK2.out; have := HK3.out; first | omega | exact Nat.le_refl _⟩, ⟨by (try simp only [hl3_1]); (try simp only [hl3_2]); (try simp only [hl3_3]); (with_reducible repeat (first | apply Kd.R_alloc | apply Kd.R_drewN | apply Kd.R_drew)); exact HO_3.out⟩, ⟨by (try simp only [hl3_1]); (try simp only [hl3_2]); (try simp only [hl3_3]); (with_reducible repeat (first | refine blk_drewN ?_ _ | refine blk_drew ?_ | refine blk_alloc ?_ _)); exact BK199.out⟩, ⟨by (try simp only [hl3_1]); (try simp only [hl3_2]); (try simp only [hl3_3]); (with_reducible repeat (first | refine blk_drewN ?_ _ | refine blk_drew ?_ | refine blk_alloc ?_ _)); exact BK205.out⟩, ⟨by repeat (first | (with_reducible first | exact HB.out | apply below_alloc | apply pw_below_drewN | apply below_drew1 | refine below_set ?_ GE199.out | refine below_set ?_ GE205.out) | exact HB.out)⟩⟩
              case rest =>
               clear HC21
               try clear c1
               try clear c2
               try clear c2b0
               try clear c2b1
               try clear p2
               try clear q2
               try clear hx2
               try clear c3
               try clear c3b0
               try clear c3b1
               try clear c4
               try clear c4b0
               try clear c5
               try clear c5b0
               try clear p6
               try clear q6
               try clear hx6
               try clear hf6
               try clear c14
               try clear c15
               try clear c15b0
               try clear c16
               try clear c16b0
               try clear c18
               try clear c19
               try clear c20
               try clear p20
               try clear q20
               try clear hx20
               try clear c22
               try clear c22b0
               try clear c23
               try clear c23b0
               try clear c24
               try clear c24b0
               try clear c25
               try clear c27
               try clear hcz11_0
               try clear hcz11_1
               try clear hcz11_2
               try clear hcz11_3
               try clear hcz17_0
               try clear hcz17_1
               try clear hcz17_2
               try clear hcz17_3
               try clear hcz20_0
               try clear hcz20_1
               try clear hcz20_2
               try clear hcz26_0
               try clear hcz26_1
               try clear hcz26_2
               try clear hcz28_0
               try clear hcz28_1
               try clear hcz28_2
               try clear hcz8_0
               try clear hcz8_1
               try clear hcz8_2
               try clear hcz8_3
               try clear hfz11_0
               try clear hfz11_1
               try clear hfz11_2
               try clear hfz11_3
               try clear hfz17_0
               try clear hfz17_1
               try clear hfz17_2
               try clear hfz17_3
               try clear hfz20_0
               try clear hfz20_1
               try clear hfz20_2
               try clear hfz26_0
               try clear hfz26_1
               try clear hfz26_2
               try clear hfz28_0
               try clear hfz28_1
               try clear hfz28_2
               try clear hfz8_0
               try clear hfz8_1
               try clear hfz8_2
               try clear hfz8_3
               try clear hx204_0
               try clear hx204_1
               try clear hx204_2
               try clear hx206_0
               try clear hx6_0
               try clear p2
               try clear p20
               try clear p204
               try clear p206
               try clear p6
               try clear q2
               try clear q20
               try clear q204
               try clear q206
               try clear q6
               obtain ⟨kq, x40_20, rfl, HA, HJ20, HO_3, BK199, BK205, HB⟩ := hcut
               cases kq with
               | zero => exact absurd HA.out (by simp [emendateref21_Reachable.j3])
               | succ kj20 =>
                have H := HA.out
                clear HA
                simp only [emendateref21_Reachable.j3] at H
                by_cases c29 : x40_20 = true
                ·subst c29
                 have H1 : (if 0 ≤ x7_3 then (if x7_3 < (((rd_T41 l0_3 x5_2).f1).length : Int) then (if (rd ((rd_T41 l0_3 x5_2).f1) x7_3) < 0 then (if 0 ≤ (wrap64 ((-1) - (rd ((rd_T41 l0_3 x5_2).f1) x7_3))) then (if (wrap64 ((-1) - (rd ((rd_T41 l0_3 x5_2).f1) x7_3))) < (x3_3.length : Int) then (if (rdOf false x3_3 (wrap64 ((-1) - (rd ((rd_T41 l0_3 x5_2).f1) x7_3))) = true) then (emendateref21_Reachable.l2 kj20 x3_3 x4_3 x5_2 (wrap64 (x7_3 + 1)) l0_0 l0_1 a0_2 l0_3 ((rd_T41 l0_3 x5_2).f0) ((rd_T41 l0_3 x5_2).f1) ((rd_T41 l0_3 x5_2).f2)) else (emendateref21_Reachable.l2 kj20 (x3_3.set ((wrap64 ((-1) - (rd ((rd_T41 l0_3 x5_2).f1) x7_3))) : Int).toNat true) true x5_2 (wrap64 (x7_3 + 1)) l0_0 l0_1 a0_2 l0_3 ((rd_T41 l0_3 x5_2).f0) ((rd_T41 l0_3 x5_2).f1) ((rd_T41 l0_3 x5_2).f2))) else (none)) else (none)) else (emendateref21_Reachable.l2 kj20 x3_3 x4_3 x5_2 (wrap64 (x7_3 + 1)) l0_0 l0_1 a0_2 l0_3 ((rd_T41 l0_3 x5_2).f0) ((rd_T41 l0_3 x5_2).f1) ((rd_T41 l0_3 x5_2).f2))) else (none)) else (none)) = some r := by rw [if_pos rfl] at H; exact H
                 clear H
                 have H := H1
                 clear H1
                 by_cases c30 : 0 ≤ x7_3
                 ·rw [if_pos c30] at H
                  have c30b0 : decide (0 ≤ x7_3) = true := decide_eq_true c30
                  clear c30
                  by_cases c31 : x7_3 < (((rd_T41 l0_3 x5_2).f1).length : Int)
                  ·rw [if_pos c31] at H
                   have c31b0 : decide (x7_3 < (((rd_T41 l0_3 x5_2).f1).length : Int)) = true := decide_eq_true c31
                   clear c31
                   by_cases c32 : (rd ((rd_T41 l0_3 x5_2).f1) x7_3) < 0
                   ·rw [if_pos c32] at H
                    have c32b0 : decide ((rd ((rd_T41 l0_3 x5_2).f1) x7_3) < 0) = true := decide_eq_true c32
                    clear c32
                    obtain ⟨ji33, hji33⟩ : ∃ j_ : Int, (wrap64 ((-1) - (rd ((rd_T41 l0_3 x5_2).f1) x7_3))) = j_ := ⟨_, rfl⟩
                    replace H : (if 0 ≤ (ji33) then (if (ji33) < (x3_3.length : Int) then (if (rdOf false x3_3 (ji33) = true) then (emendateref21_Reachable.l2 kj20 x3_3 x4_3 x5_2 (wrap64 (x7_3 + 1)) l0_0 l0_1 a0_2 l0_3 ((rd_T41 l0_3 x5_2).f0) ((rd_T41 l0_3 x5_2).f1) ((rd_T41 l0_3 x5_2).f2)) else (emendateref21_Reachable.l2 kj20 (x3_3.set ((ji33) : Int).toNat true) true x5_2 (wrap64 (x7_3 + 1)) l0_0 l0_1 a0_2 l0_3 ((rd_T41 l0_3 x5_2).f0) ((rd_T41 l0_3 x5_2).f1) ((rd_T41 l0_3 x5_2).f2))) else (none)) else (none)) = some r := by first | (rw [hji33] at H; exact H) | (simp only [hji33] at H ⊢; exact H)
                    have hji33w : (IntKind.i64.wrap ((-1) - (rd ((rd_T41 l0_3 x5_2).f1) x7_3))) = ji33 := (i64_w _).trans hji33
                    by_cases c34 : 0 ≤ (ji33)
                    ·rw [if_pos c34] at H
                     have c34b0 : decide (0 ≤ (ji33)) = true := decide_eq_true c34
                     clear c34
                     by_cases c35 : (ji33) < (x3_3.length : Int)
                     ·rw [if_pos c35] at H
                      have c35b0 : decide ((ji33) < (x3_3.length : Int)) = true := decide_eq_true c35
                      clear c35
                      obtain ⟨bq36, hbq36⟩ : ∃ b_ : Bool, b_ = (rdOf false x3_3 (ji33)) := ⟨_, rfl⟩
                      replace H : (if (bq36 = true) then (emendateref21_Reachable.l2 kj20 x3_3 x4_3 x5_2 (wrap64 (x7_3 + 1)) l0_0 l0_1 a0_2 l0_3 ((rd_T41 l0_3 x5_2).f0) ((rd_T41 l0_3 x5_2).f1) ((rd_T41 l0_3 x5_2).f2)) else (emendateref21_Reachable.l2 kj20 (x3_3.set ((ji33) : Int).toNat true) true x5_2 (wrap64 (x7_3 + 1)) l0_0 l0_1 a0_2 l0_3 ((rd_T41 l0_3 x5_2).f0) ((rd_T41 l0_3 x5_2).f1) ((rd_T41 l0_3 x5_2).f2))) = some r := by rw [← hbq36] at H; exact H
                      have Nbq36 := Aside0.mk hbq36
                      clear hbq36
                      by_cases c37 : (bq36 = true)
                      ·subst c37
                       have H1 : (emendateref21_Reachable.l2 kj20 x3_3 x4_3 x5_2 (wrap64 (x7_3 + 1)) l0_0 l0_1 a0_2 l0_3 ((rd_T41 l0_3 x5_2).f0) ((rd_T41 l0_3 x5_2).f1) ((rd_T41 l0_3 x5_2).f2)) = some r := by rw [if_pos rfl] at H; exact H
                       clear H
                       have H := H1
                       clear H1
                       have H' := Aside0.mk H
                       clear H
                       have hnb38 := NB205_199.out
                       have hnc38 := NB199_205.out
                       have hcz39_0 : wc.cell? ⟨gb205, 0, none⟩ = some (.int .i64 ((rd_T41 l0_3 x5_2).f0)) := (blk_cell BK205.out 0).trans rfl
                       have hcz39_1 : wc.cell? ⟨gb205, 1, none⟩ = some (.slice A204_1 ((rd_T41 l0_3 x5_2).f1).length c204_1) := (blk_cell BK205.out 1).trans rfl
                       have hcz39_2 : wc.cell? ⟨gb205, 2, none⟩ = some (.int .i64 ((rd_T41 l0_3 x5_2).f2)) := (blk_cell BK205.out 2).trans rfl
                       have hfz39_0 := blk_frozen BK205.out 0
                       have hfz39_1 := blk_frozen BK205.out 1
                       have hfz39_2 := blk_frozen BK205.out 2
                       have p207 : 0 ≤ (x7_3 : Int) := of_decide_eq_true (by first | (with_reducible assumption) | assumption)
                       have q207 : x7_3 < (((rd_T41 l0_3 x5_2).f1).length : Int) := of_decide_eq_true (by first | (with_reducible assumption) | assumption)
                       obtain ⟨ad207, e207, hx207_0⟩ := Kd.at_int HR204_1.out x7_3 p207 q207
                       cases e207
                       replace hx207_0 := (HB.out.cell (World.block_lt_of_cell? w _ hx207_0)).trans hx207_0
                       replace p207 := eq_true p207
                       replace q207 := eq_true q207
                       have p208 : 0 ≤ (x7_3 : Int) := of_decide_eq_true (by first | (with_reducible assumption) | assumption)
                       have q208 : x7_3 < (((rd_T41 l0_3 x5_2).f1).length : Int) := of_decide_eq_true (by first | (with_reducible assumption) | assumption)
                       obtain ⟨ad208, e208, hx208_0⟩ := Kd.at_int HR204_1.out x7_3 p208 q208
                       obtain rfl : ad207 = ad208 := (by injection e208)
                       replace hx208_0 := (HB.out.cell (World.block_lt_of_cell? w _ hx208_0)).trans hx208_0
                       replace p208 := eq_true p208
                       replace q208 := eq_true q208
                       have p209 : 0 ≤ ((ji33) : Int) := of_decide_eq_true (by first | (with_reducible assumption) | assumption)
                       have q209 : (ji33) < (x3_3.length : Int) := of_decide_eq_true (by first | (with_reducible assumption) | assumption)
                       obtain ⟨ad209, e209, hx209_0⟩ := Kd.at_bool (Kd.R_reads' HO_3.out).2.2 (ji33) p209 q209
                       (try rw [← Nbq36.out] at hx209_0)
                       obtain rfl : (⟨go6, 0, none⟩ : Addr) = ad209 := (by injection e209)
                       (first | simp only [add_plain] at hx209_0 | simp only [add_at] at hx209_0 | simp only [Addr.add, Nat.zero_add] at hx209_0 | skip)
                       replace p209 := eq_true p209
                       replace q209 := eq_true q209
                       go_wp2
                       (try simp only [← hl3_3])
                       go_roundg kj20
                       case measure => have := HK1.out; have := HK2.out; have := HK3.out; have := HJ20.out; omega
                       case rel => exact ⟨(x3_3), (x4_3), (wrap64 (x7_3 + 1)), (by first | rfl | (simp; done) | (simp [*]; done)), (by first | rfl | (simp; done) | (simp [*]; done)), H', ⟨by have := HK1.out; have := HK2.out; have := HK3.out; have := HJ20.out; omega⟩, ⟨by (try simp only [hl3_1]); (try simp only [hl3_2]); (try simp only [hl3_3]); (with_reducible repeat (first | apply Kd.R_alloc | apply Kd.R_drewN | apply Kd.R_drew)); exact HO_3.out⟩, ⟨by (try simp only [hl3_1]); (try simp only [hl3_2]); (try simp only [hl3_3]); (with_reducible repeat (first | refine blk_drewN ?_ _ | refine blk_drew ?_ | refine blk_alloc ?_ _)); exact BK199.out⟩, ⟨by (try simp only [hl3_1]); (try simp only [hl3_2]); (try simp only [hl3_3]); (with_reducible repeat (first | refine blk_drewN ?_ _ | refine blk_drew ?_ | refine blk_alloc ?_ _)); exact BK205.out⟩, ⟨by repeat (first | (with_reducible first | exact HB.out | apply below_alloc | apply pw_below_drewN | apply below_drew1 | refine below_set ?_ GE199.out | refine below_set ?_ GE205.out) | exact HB.out)⟩⟩
                      ·replace c37 := Bool.eq_false_iff.mpr c37
                       subst c37
                       have H1 : (emendateref21_Reachable.l2 kj20 (x3_3.set ((ji33) : Int).toNat true) true x5_2 (wrap64 (x7_3 + 1)) l0_0 l0_1 a0_2 l0_3 ((rd_T41 l0_3 x5_2).f0) ((rd_T41 l0_3 x5_2).f1) ((rd_T41 l0_3 x5_2).f2)) = some r := by rw [if_neg (show ¬ (false = true) by decide)] at H; exact H
                       clear H
                       have H := H1
                       clear H1
                       obtain ⟨y211, hy211⟩ : ∃ y_ : List Bool, y_ = (x3_3.set ((ji33) : Int).toNat true) := ⟨_, rfl⟩
                       replace H : (emendateref21_Reachable.l2 kj20 y211 true x5_2 (wrap64 (x7_3 + 1)) l0_0 l0_1 a0_2 l0_3 ((rd_T41 l0_3 x5_2).f0) ((rd_T41 l0_3 x5_2).f1) ((rd_T41 l0_3 x5_2).f2)) = some r := by first | (rw [hy211]; with_reducible exact H) | (have H2_ := (Option.bind_some _ _).symm.trans H; rw [hy211]; with_reducible exact H2_) | (have H2_ := (Option.bind_some _ _).symm.trans H; with_reducible exact H2_) | with_reducible exact H | (rw [hy211]; exact H) | exact H
                       have Ny211 := Aside0.mk hy211
                       clear hy211
                       have H' := Aside0.mk H
                       clear H
                       have hnb41 := NB205_199.out
                       have hnc41 := NB199_205.out
                       have hcz42_0 : wc.cell? ⟨gb205, 0, none⟩ = some (.int .i64 ((rd_T41 l0_3 x5_2).f0)) := (blk_cell BK205.out 0).trans rfl
                       have hcz42_1 : wc.cell? ⟨gb205, 1, none⟩ = some (.slice A204_1 ((rd_T41 l0_3 x5_2).f1).length c204_1) := (blk_cell BK205.out 1).trans rfl
                       have hcz42_2 : wc.cell? ⟨gb205, 2, none⟩ = some (.int .i64 ((rd_T41 l0_3 x5_2).f2)) := (blk_cell BK205.out 2).trans rfl
                       have hfz42_0 := blk_frozen BK205.out 0
                       have hfz42_1 := blk_frozen BK205.out 1
                       have hfz42_2 := blk_frozen BK205.out 2
                       have p207 : 0 ≤ (x7_3 : Int) := of_decide_eq_true (by first | (with_reducible assumption) | assumption)
                       have q207 : x7_3 < (((rd_T41 l0_3 x5_2).f1).length : Int) := of_decide_eq_true (by first | (with_reducible assumption) | assumption)
                       obtain ⟨ad207, e207, hx207_0⟩ := Kd.at_int HR204_1.out x7_3 p207 q207
                       cases e207
                       replace hx207_0 := (HB.out.cell (World.block_lt_of_cell? w _ hx207_0)).trans hx207_0
                       replace p207 := eq_true p207
                       replace q207 := eq_true q207
                       have p208 : 0 ≤ (x7_3 : Int) := of_decide_eq_true (by first | (with_reducible assumption) | assumption)
                       have q208 : x7_3 < (((rd_T41 l0_3 x5_2).f1).length : Int) := of_decide_eq_true (by first | (with_reducible assumption) | assumption)
                       obtain ⟨ad208, e208, hx208_0⟩ := Kd.at_int HR204_1.out x7_3 p208 q208
                       obtain rfl : ad207 = ad208 := (by injection e208)
                       replace hx208_0 := (HB.out.cell (World.block_lt_of_cell? w _ hx208_0)).trans hx208_0
                       replace p208 := eq_true p208
                       replace q208 := eq_true q208
                       have p209 : 0 ≤ ((ji33) : Int) := of_decide_eq_true (by first | (with_reducible assumption) | assumption)
                       have q209 : (ji33) < (x3_3.length : Int) := of_decide_eq_true (by first | (with_reducible assumption) | assumption)
                       obtain ⟨ad209, e209, hx209_0⟩ := Kd.at_bool (Kd.R_reads' HO_3.out).2.2 (ji33) p209 q209
                       (try rw [← Nbq36.out] at hx209_0)
                       obtain rfl : (⟨go6, 0, none⟩ : Addr) = ad209 := (by injection e209)
                       (first | simp only [add_plain] at hx209_0 | simp only [add_at] at hx209_0 | simp only [Addr.add, Nat.zero_add] at hx209_0 | skip)
                       replace p209 := eq_true p209
                       replace q209 := eq_true q209
                       have p210 : 0 ≤ (x7_3 : Int) := of_decide_eq_true (by first | (with_reducible assumption) | assumption)
                       have q210 : x7_3 < (((rd_T41 l0_3 x5_2).f1).length : Int) := of_decide_eq_true (by first | (with_reducible assumption) | assumption)
                       obtain ⟨ad210, e210, hx210_0⟩ := Kd.at_int HR204_1.out x7_3 p210 q210
                       obtain rfl : ad207 = ad210 := (by injection e210)
                       replace hx210_0 := (HB.out.cell (World.block_lt_of_cell? w _ hx210_0)).trans hx210_0
                       replace p210 := eq_true p210
                       replace q210 := eq_true q210
                       have p40 : 0 ≤ ((ji33) : Int) := of_decide_eq_true (by first | (with_reducible assumption) | assumption)
                       have q40 : ((ji33) : Int) < ((x3_3.length : Int) : Int) := of_decide_eq_true (by first | (with_reducible assumption) | assumption)
                       obtain ⟨hx40_0, hf40_0⟩ := Kd.R_celln false HO_3.out ((ji33) : Int) p40 q40
                       replace p40 := eq_true p40
                       replace q40 := eq_true q40
                       have HP43 := Kd.R_putg HO_3.out ((ji33) : Int) true
                       go_wp2_with (first | ((with_reducible refine gate_store (t := 4) (p := 68) rfl ?_); refine store_event (t := 4) (p := 68) (v := ?vo_w44) (w1 := (wc.setCell ⟨go6, ((ji33) : Int).toNat, none⟩ (.bool true))) ?hg ?ho ?hn ?hr ?_; (case ho => rfl); (case hg => rfl); (case hn => rfl); (case hr => first | (go_simp; done) | (go_simp; rfl)); intro w44 hw; have hg : wc.grownBy w44 (some go6) := (by rw [hw]; exact HP43.2); have hp_ : Kd.R Kd.bool 4 w44 w.heap.size (fun _ => True) (.slice (some ⟨go6, 0, none⟩) x3_3.length co6) y211 := (by rw [hw, Ny211.out]; exact HP43.1); clear HP43; have n0_ := Aside0.mk (hp_); have n1_ := Aside0.mk (blk_grown (g := gb199) (o := .cells #[.slice A0_0 l0_0.length c0_0, .slice A0_1 l0_1.length c0_1, .int .i64 a0_2, .slice (some ad204) l0_3.length c0_3] 25 (0, 0)) (by (with_reducible repeat (first | refine blk_drewN ?_ _ | refine blk_drew ?_ | refine blk_alloc ?_ _)); exact BK199.out) hg (Kd.R_ne HO_3.out BK199.out (by decide))); have n2_ := Aside0.mk (blk_grown (g := gb205) (o := .cells #[.int .i64 ((rd_T41 l0_3 x5_2).f0), .slice (some ad207) ((rd_T41 l0_3 x5_2).f1).length c204_1, .int .i64 ((rd_T41 l0_3 x5_2).f2)] 41 (0, 0)) (by (with_reducible repeat (first | refine blk_drewN ?_ _ | refine blk_drew ?_ | refine blk_alloc ?_ _)); exact BK205.out) hg (Kd.R_ne HO_3.out BK205.out (by decide))); have n3_ := Aside0.mk ((by rw [hw]; exact below_set (HB.out) GB6.out : Below w.heap.size w w44)); clear HO_3; clear BK199; clear BK205; clear HB; have HO_3 := n0_; have BK199 := n1_; have BK205 := n2_; have HB := n3_; clear n0_ n1_ n2_ n3_; clear hg hw hp_))
                       (try simp only [← hl3_3])
                       go_roundg kj20
                       case measure => have := HK1.out; have := HK2.out; have := HK3.out; have := HJ20.out; omega
                       case rel => exact ⟨(y211), (true), (wrap64 (x7_3 + 1)), (by first | rfl | (simp; done) | (simp [*]; done)), (by first | rfl | (simp; done) | (simp [*]; done)), H', ⟨by have := HK1.out; have := HK2.out; have := HK3.out; have := HJ20.out; omega⟩, ⟨by (try simp only [hl3_1]); (try simp only [hl3_2]); (try simp only [hl3_3]); (with_reducible repeat (first | apply Kd.R_alloc | apply Kd.R_drewN | apply Kd.R_drew)); exact HO_3.out⟩, ⟨by (try simp only [hl3_1]); (try simp only [hl3_2]); (try simp only [hl3_3]); (with_reducible repeat (first | refine blk_drewN ?_ _ | refine blk_drew ?_ | refine blk_alloc ?_ _)); exact BK199.out⟩, ⟨by (try simp only [hl3_1]); (try simp only [hl3_2]); (try simp only [hl3_3]); (with_reducible repeat (first | refine blk_drewN ?_ _ | refine blk_drew ?_ | refine blk_alloc ?_ _)); exact BK205.out⟩, ⟨by repeat (first | (with_reducible first | exact HB.out | apply below_alloc | apply pw_below_drewN | apply below_drew1 | refine below_set ?_ GE199.out | refine below_set ?_ GE205.out) | exact HB.out)⟩⟩
                     ·rw [if_neg c35] at H
                      exact absurd H (by simp)
                    ·rw [if_neg c34] at H
                     exact absurd H (by simp)
                   ·rw [if_neg c32] at H
                    have c32b0 : decide ((rd ((rd_T41 l0_3 x5_2).f1) x7_3) < 0) = false := decide_eq_false c32
                    clear c32
                    have H' := Aside0.mk H
                    clear H
                    have hnb45 := NB205_199.out
                    have hnc45 := NB199_205.out
                    have hcz46_0 : wc.cell? ⟨gb205, 0, none⟩ = some (.int .i64 ((rd_T41 l0_3 x5_2).f0)) := (blk_cell BK205.out 0).trans rfl
                    have hcz46_1 : wc.cell? ⟨gb205, 1, none⟩ = some (.slice A204_1 ((rd_T41 l0_3 x5_2).f1).length c204_1) := (blk_cell BK205.out 1).trans rfl
                    have hcz46_2 : wc.cell? ⟨gb205, 2, none⟩ = some (.int .i64 ((rd_T41 l0_3 x5_2).f2)) := (blk_cell BK205.out 2).trans rfl
                    have hfz46_0 := blk_frozen BK205.out 0
                    have hfz46_1 := blk_frozen BK205.out 1
                    have hfz46_2 := blk_frozen BK205.out 2
                    have p207 : 0 ≤ (x7_3 : Int) := of_decide_eq_true (by first | (with_reducible assumption) | assumption)
                    have q207 : x7_3 < (((rd_T41 l0_3 x5_2).f1).length : Int) := of_decide_eq_true (by first | (with_reducible assumption) | assumption)
                    obtain ⟨ad207, e207, hx207_0⟩ := Kd.at_int HR204_1.out x7_3 p207 q207
                    cases e207
                    replace hx207_0 := (HB.out.cell (World.block_lt_of_cell? w _ hx207_0)).trans hx207_0
                    replace p207 := eq_true p207
                    replace q207 := eq_true q207
                    go_wp2
                    (try simp only [← hl3_3])
                    go_roundg kj20
                    case measure => have := HK1.out; have := HK2.out; have := HK3.out; have := HJ20.out; omega
                    case rel => exact ⟨(x3_3), (x4_3), (wrap64 (x7_3 + 1)), (by first | rfl | (simp; done) | (simp [*]; done)), (by first | rfl | (simp; done) | (simp [*]; done)), H', ⟨by have := HK1.out; have := HK2.out; have := HK3.out; have := HJ20.out; omega⟩, ⟨by (try simp only [hl3_1]); (try simp only [hl3_2]); (try simp only [hl3_3]); (with_reducible repeat (first | apply Kd.R_alloc | apply Kd.R_drewN | apply Kd.R_drew)); exact HO_3.out⟩, ⟨by (try simp only [hl3_1]); (try simp only [hl3_2]); (try simp only [hl3_3]); (with_reducible repeat (first | refine blk_drewN ?_ _ | refine blk_drew ?_ | refine blk_alloc ?_ _)); exact BK199.out⟩, ⟨by (try simp only [hl3_1]); (try simp only [hl3_2]); (try simp only [hl3_3]); (with_reducible repeat (first | refine blk_drewN ?_ _ | refine blk_drew ?_ | refine blk_alloc ?_ _)); exact BK205.out⟩, ⟨by repeat (first | (with_reducible first | exact HB.out | apply below_alloc | apply pw_below_drewN | apply below_drew1 | refine below_set ?_ GE199.out | refine below_set ?_ GE205.out) | exact HB.out)⟩⟩
                  ·rw [if_neg c31] at H
                   exact absurd H (by simp)
                 ·rw [if_neg c30] at H
                  exact absurd H (by simp)
                ·replace c29 := Bool.eq_false_iff.mpr c29
                 subst c29
                 have H1 : (emendateref21_Reachable.l1 kj20 x3_3 x4_3 (wrap64 (x5_2 + 1)) l0_0 l0_1 a0_2 l0_3) = some r := by rw [if_neg (show ¬ (false = true) by decide)] at H; exact H
                 clear H
                 have H := H1
                 clear H1
                 have H' := Aside0.mk H
                 clear H
                 go_wp2
                 (try simp only [← hl3_2, ← hl3_3])
                 go_roundg kj20
                 case measure => have := HK1.out; have := HK2.out; have := HK3.out; have := HJ20.out; omega
                 case rel => exact ⟨(x3_3), (x4_3), (wrap64 (x5_2 + 1)), (by first | rfl | (simp; done) | (simp [*]; done)), (by first | rfl | (simp; done) | (simp [*]; done)), H', ⟨by have := HK1.out; have := HK2.out; have := HK3.out; have := HJ20.out; omega⟩, ⟨by (try simp only [hl3_1]); (try simp only [hl3_2]); (try simp only [hl3_3]); (with_reducible repeat (first | apply Kd.R_alloc | apply Kd.R_drewN | apply Kd.R_drew)); exact HO_3.out⟩, ⟨by (try simp only [hl3_1]); (try simp only [hl3_2]); (try simp only [hl3_3]); (with_reducible repeat (first | refine blk_drewN ?_ _ | refine blk_drew ?_ | refine blk_alloc ?_ _)); exact BK199.out⟩, ⟨by repeat (first | (with_reducible first | exact HB.out | apply below_alloc | apply pw_below_drewN | apply below_drew1 | refine below_set ?_ GE199.out | refine below_set ?_ GE205.out) | exact HB.out)⟩⟩
           ·rw [if_neg c16] at H
            exact absurd H (by simp)
          ·rw [if_neg c15] at H
           have c15b0 : decide (x5_2 < (l0_3.length : Int)) = false := decide_eq_false c15
           clear c15
           have H' := Aside0.mk H
           clear H
           have hcz47_0 : wr.cell? ⟨gb199, 0, none⟩ = some (.slice A0_0 l0_0.length c0_0) := (blk_cell BK199.out 0).trans rfl
           have hcz47_1 : wr.cell? ⟨gb199, 1, none⟩ = some (.slice A0_1 l0_1.length c0_1) := (blk_cell BK199.out 1).trans rfl
           have hcz47_2 : wr.cell? ⟨gb199, 2, none⟩ = some (.int .i64 a0_2) := (blk_cell BK199.out 2).trans rfl
           have hcz47_3 : wr.cell? ⟨gb199, 3, none⟩ = some (.slice A0_3 l0_3.length c0_3) := (blk_cell BK199.out 3).trans rfl
           have hfz47_0 := blk_frozen BK199.out 0
           have hfz47_1 := blk_frozen BK199.out 1
           have hfz47_2 := blk_frozen BK199.out 2
           have hfz47_3 := blk_frozen BK199.out 3
           go_wp2
           (try simp only [← hl3_1, ← hl3_2])
           go_roundg k2
           case measure => have := HK1.out; have := HK2.out; omega
           case rel => exact ⟨(x3_2), (x4_2), (by first | rfl | (simp; done) | (simp [*]; done)), H', ⟨by have := HK1.out; have := HK2.out; omega⟩, ⟨by (try simp only [hl3_1]); (try simp only [hl3_2]); (with_reducible repeat (first | apply Kd.R_alloc | apply Kd.R_drewN | apply Kd.R_drew)); exact HO_3.out⟩, ⟨by (try simp only [hl3_1]); (try simp only [hl3_2]); (with_reducible repeat (first | refine blk_drewN ?_ _ | refine blk_drew ?_ | refine blk_alloc ?_ _)); exact BK199.out⟩, ⟨by repeat (first | (with_reducible first | exact HB.out | apply below_alloc | apply pw_below_drewN | apply below_drew1 | refine below_set ?_ GE199.out) | exact HB.out)⟩⟩
       ·replace c14 := Bool.eq_false_iff.mpr c14
        subst c14
        have H1 : (some x3_1) = some r := by rw [if_neg (show ¬ (false = true) by decide)] at H; exact H
        clear H
        have H := H1
        clear H1
        obtain rfl := Option.some.inj H
        go_wp2
        go_ret
        exact ⟨_, by first | rfl | (simp [errW_none, errW_some] <;> rfl) | (simp [*, errW_none, errW_some] <;> rfl), by (with_reducible repeat (first | apply Kd.R_alloc | apply Kd.R_drewN | apply Kd.R_drew)); exact HO_3.out, by repeat (first | (with_reducible first | exact HB.out | apply below_alloc | apply pw_below_drewN | apply below_drew1 | refine below_set ?_ GE199.out) | exact HB.out)⟩
    ·rw [if_neg c5] at H
     exact absurd H (by simp)
   ·rw [if_neg c4] at H
    exact absurd H (by simp)
  ·rw [if_neg c3] at H
   exact absurd H (by simp)
 ·rw [if_neg c2] at H
  exact absurd H (by simp)

end Go.Proofs.Ytkaedhooccpniaa.PA
