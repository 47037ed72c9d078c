-- Written by wip/tools/wprint.py (a wrapper around the kit's printer) for this claim. Not trusted: Lean checks it.
import Derived.Test.YtcigcacjjdpgfaaPAx0
import Derived.Test.YtcigcacjjdpgfaaPAx12
-- halved
namespace Go.Proofs.Ytcigcacjjdpgfaa.PA
open Go.RowKit Go.Proofs.YtcigcacjjdpgfaaW.PrintWords Go.Proofs.YtcigcacjjdpgfaaW.PrintLast Go.Proofs.YtcigcacjjdpgfaaW.PrintMore
attribute [local go_sem] max2_int min2_int max_two min_two max_three min_three max_four min_four   -- for this text's walks alone
set_option linter.unusedVariables false
set_option linter.unusedSimpArgs false

/-! ### emendateref34_Valid: function 30 -/
mutual
def emendateref34_Valid.j0 : Nat → Int → Bool → List Int → List Int → List (List Int) → Int → Int → Option (Bool)
 | 0, _, _, _, _, _, _, _ => none
 | k + 1, x1, x38, x206000, x206001, x206002, x206003, x206004 => if x38 = true then (some false) else (emendateref34_Valid.l0 k x1 0 x206000 x206001 x206002 x206003 x206004)
def emendateref34_Valid.l0 : Nat → Int → Int → List Int → List Int → List (List Int) → Int → Int → Option (Bool)
 | 0, _, _, _, _, _, _, _ => none
 | k + 1, x1, x5, x206000, x206001, x206002, x206003, x206004 => if x5 < x1 then (if 0 ≤ x5 then (if x5 < (x206000.length : Int) then ((emendateref34_between.f (rd x206000 x5) 1 1000).bind fun t209 => (if t209 = true then (if x5 < (x206001.length : Int) then ((emendateref34_between.f (rd x206001 x5) 1 1000).bind fun t211 => (if t211 = true then (if x5 < (x206002.length : Int) then (emendateref34_Valid.j2 k x1 x5 (((rd_L1 x206002 x5).length : Int) != x1) x206000 x206001 x206002 x206003 x206004) else (none)) else (emendateref34_Valid.j2 k x1 x5 true x206000 x206001 x206002 x206003 x206004))) else (none)) else (emendateref34_Valid.j2 k x1 x5 true x206000 x206001 x206002 x206003 x206004))) else (none)) else (none)) else (some true)
def emendateref34_Valid.j2 : Nat → Int → Int → Bool → List Int → List Int → List (List Int) → Int → Int → Option (Bool)
 | 0, _, _, _, _, _, _, _, _ => none
 | k + 1, x1, x5, x69, x206000, x206001, x206002, x206003, x206004 => if x69 = true then (some false) else (emendateref34_Valid.l1 k x1 x5 0 x206000 x206001 x206002 x206003 x206004)
def emendateref34_Valid.l1 : Nat → Int → Int → Int → List Int → List Int → List (List Int) → Int → Int → Option (Bool)
 | 0, _, _, _, _, _, _, _, _ => none
 | k + 1, x1, x5, x6, x206000, x206001, x206002, x206003, x206004 => if x6 < x1 then (if 0 ≤ x5 then (if x5 < (x206002.length : Int) then (if 0 ≤ x6 then (if x6 < ((rd_L1 x206002 x5).length : Int) then (if x5 = x6 then (if (rd (rd_L1 x206002 x5) x6) = 0 then (emendateref34_Valid.l1 k x1 x5 (wrap64 (x6 + 1)) x206000 x206001 x206002 x206003 x206004) else (some false)) else (if (rd (rd_L1 x206002 x5) x6) = (-1) then (emendateref34_Valid.l1 k x1 x5 (wrap64 (x6 + 1)) x206000 x206001 x206002 x206003 x206004) else ((emendateref34_between.f (rd (rd_L1 x206002 x5) x6) 1 1000).bind fun t215 => (if t215 = true then (emendateref34_Valid.l1 k x1 x5 (wrap64 (x6 + 1)) x206000 x206001 x206002 x206003 x206004) else (some false))))) else (none)) else (none)) else (none)) else (none)) else (emendateref34_Valid.l0 k x1 (wrap64 (x5 + 1)) x206000 x206001 x206002 x206003 x206004)
end
def emendateref34_Valid.f (k : Nat) (l0_0 : List Int) (l0_1 : List Int) (l0_2 : List (List Int)) (a0_3 : Int) (a0_4 : Int) (a1 : Int) : Option (Bool) := if (l0_0.length : Int) = a1 then (if (l0_1.length : Int) = a1 then (if (l0_2.length : Int) = a1 then ((emendateref34_between.f a0_3 0 1000).bind fun t206 => (if t206 = true then ((emendateref34_between.f a0_4 1 1000).bind fun t207 => (emendateref34_Valid.j0 k a1 (!t207) l0_0 l0_1 l0_2 a0_3 a0_4)) else (emendateref34_Valid.j0 k a1 true l0_0 l0_1 l0_2 a0_3 a0_4))) else (emendateref34_Valid.j0 k a1 true l0_0 l0_1 l0_2 a0_3 a0_4)) else (emendateref34_Valid.j0 k a1 true l0_0 l0_1 l0_2 a0_3 a0_4)) else (emendateref34_Valid.j0 k a1 true l0_0 l0_1 l0_2 a0_3 a0_4)
theorem emendateref34_Valid.mono_l : ∀ k, (∀ y0 y1 y2 y3 y4 y5 y6, LeO (emendateref34_Valid.j0 k y0 y1 y2 y3 y4 y5 y6) (emendateref34_Valid.j0 (k + 1) y0 y1 y2 y3 y4 y5 y6)) ∧ (∀ y0 y1 y2 y3 y4 y5 y6, LeO (emendateref34_Valid.l0 k y0 y1 y2 y3 y4 y5 y6) (emendateref34_Valid.l0 (k + 1) y0 y1 y2 y3 y4 y5 y6)) ∧ (∀ y0 y1 y2 y3 y4 y5 y6 y7, LeO (emendateref34_Valid.j2 k y0 y1 y2 y3 y4 y5 y6 y7) (emendateref34_Valid.j2 (k + 1) y0 y1 y2 y3 y4 y5 y6 y7)) ∧ (∀ y0 y1 y2 y3 y4 y5 y6 y7, LeO (emendateref34_Valid.l1 k y0 y1 y2 y3 y4 y5 y6 y7) (emendateref34_Valid.l1 (k + 1) y0 y1 y2 y3 y4 y5 y6 y7))
 | 0 => ⟨fun _ _ _ _ _ _ _ r h => by simp [emendateref34_Valid.j0] at h, fun _ _ _ _ _ _ _ r h => by simp [emendateref34_Valid.l0] at h, fun _ _ _ _ _ _ _ _ r h => by simp [emendateref34_Valid.j2] at h, fun _ _ _ _ _ _ _ _ r h => by simp [emendateref34_Valid.l1] at h⟩
 | k + 1 => by
  obtain ⟨ih0, ih1, ih2, ih3⟩ := emendateref34_Valid.mono_l k
  refine ⟨?_, ?_, ?_, ?_⟩
  ·intro y0 y1 y2 y3 y4 y5 y6
   unfold emendateref34_Valid.j0
   repeat' first
   | (with_reducible exact ih0 _ _ _ _ _ _ _)
   | (with_reducible exact ih1 _ _ _ _ _ _ _)
   | (with_reducible exact ih2 _ _ _ _ _ _ _ _)
   | (with_reducible exact ih3 _ _ _ _ _ _ _ _)
   | (with_reducible exact LeO.refl _)
   | (with_reducible exact LeO.none _)
   | (with_reducible refine LeO.ite ?_ ?_)
   | (with_reducible refine LeO.bind ?_ (fun _ => ?_))
   | exact ih0 _ _ _ _ _ _ _
   | exact ih1 _ _ _ _ _ _ _
   | exact ih2 _ _ _ _ _ _ _ _
   | exact ih3 _ _ _ _ _ _ _ _
   | exact LeO.none _
   | refine LeO.ite ?_ ?_
   | refine LeO.bind ?_ (fun _ => ?_)
  ·intro y0 y1 y2 y3 y4 y5 y6
   unfold emendateref34_Valid.l0
   repeat' first
   | (with_reducible exact ih0 _ _ _ _ _ _ _)
   | (with_reducible exact ih1 _ _ _ _ _ _ _)
   | (with_reducible exact ih2 _ _ _ _ _ _ _ _)
   | (with_reducible exact ih3 _ _ _ _ _ _ _ _)
   | (with_reducible exact LeO.refl _)
   | (with_reducible exact LeO.none _)
   | (with_reducible refine LeO.ite ?_ ?_)
   | (with_reducible refine LeO.bind ?_ (fun _ => ?_))
   | exact ih0 _ _ _ _ _ _ _
   | exact ih1 _ _ _ _ _ _ _
   | exact ih2 _ _ _ _ _ _ _ _
   | exact ih3 _ _ _ _ _ _ _ _
   | exact LeO.none _
   | refine LeO.ite ?_ ?_
   | refine LeO.bind ?_ (fun _ => ?_)
  ·intro y0 y1 y2 y3 y4 y5 y6 y7
   unfold emendateref34_Valid.j2
   repeat' first
   | (with_reducible exact ih0 _ _ _ _ _ _ _)
   | (with_reducible exact ih1 _ _ _ _ _ _ _)
   | (with_reducible exact ih2 _ _ _ _ _ _ _ _)
   | (with_reducible exact ih3 _ _ _ _ _ _ _ _)
   | (with_reducible exact LeO.refl _)
   | (with_reducible exact LeO.none _)
   | (with_reducible refine LeO.ite ?_ ?_)
   | (with_reducible refine LeO.bind ?_ (fun _ => ?_))
   | exact ih0 _ _ _ _ _ _ _
   | exact ih1 _ _ _ _ _ _ _
   | exact ih2 _ _ _ _ _ _ _ _
   | exact ih3 _ _ _ _ _ _ _ _
   | exact LeO.none _
   | refine LeO.ite ?_ ?_
   | refine LeO.bind ?_ (fun _ => ?_)
  ·intro y0 y1 y2 y3 y4 y5 y6 y7
   unfold emendateref34_Valid.l1
   repeat' first
   | (with_reducible exact ih0 _ _ _ _ _ _ _)
   | (with_reducible exact ih1 _ _ _ _ _ _ _)
   | (with_reducible exact ih2 _ _ _ _ _ _ _ _)
   | (with_reducible exact ih3 _ _ _ _ _ _ _ _)
   | (with_reducible exact LeO.refl _)
   | (with_reducible exact LeO.none _)
   | (with_reducible refine LeO.ite ?_ ?_)
   | (with_reducible refine LeO.bind ?_ (fun _ => ?_))
   | exact ih0 _ _ _ _ _ _ _
   | exact ih1 _ _ _ _ _ _ _
   | exact ih2 _ _ _ _ _ _ _ _
   | exact ih3 _ _ _ _ _ _ _ _
   | exact LeO.none _
   | refine LeO.ite ?_ ?_
   | refine LeO.bind ?_ (fun _ => ?_)
theorem emendateref34_Valid.mono : ∀ a0 a1 a2 a3 a4 a5 k, LeO (emendateref34_Valid.f k a0 a1 a2 a3 a4 a5) (emendateref34_Valid.f (k + 1) a0 a1 a2 a3 a4 a5) := by
 intro a0 a1 a2 a3 a4 a5 k
 obtain ⟨ih0, ih1, ih2, ih3⟩ := emendateref34_Valid.mono_l k
 unfold emendateref34_Valid.f
 repeat' first
   | (with_reducible exact ih0 _ _ _ _ _ _ _)
   | (with_reducible exact ih1 _ _ _ _ _ _ _)
   | (with_reducible exact ih2 _ _ _ _ _ _ _ _)
   | (with_reducible exact ih3 _ _ _ _ _ _ _ _)
   | (with_reducible exact LeO.refl _)
   | (with_reducible exact LeO.none _)
   | (with_reducible refine LeO.ite ?_ ?_)
   | (with_reducible refine LeO.bind ?_ (fun _ => ?_))
   | exact ih0 _ _ _ _ _ _ _
   | exact ih1 _ _ _ _ _ _ _
   | exact ih2 _ _ _ _ _ _ _ _
   | exact ih3 _ _ _ _ _ _ _ _
   | exact LeO.none _
   | refine LeO.ite ?_ ?_
   | refine LeO.bind ?_ (fun _ => ?_)
set_option maxHeartbeats 8000000 in
set_option maxRecDepth 100000 in
theorem emendateref34_Valid.calls (k : Nat) (A0_0 : Option Addr) (c0_0 : Nat) (l0_0 : List Int) (A0_1 : Option Addr) (c0_1 : Nat) (l0_1 : List Int) (A0_2 : Option Addr) (c0_2 : Nat) (l0_2 : List (List Int)) (a0_3 : Int) (a0_4 : Int) (a1 : Int) (r : Bool) (w : World) (hr0_0 : Kd.C (Kd.int .i64) w A0_0 l0_0.length l0_0) (hc0_0 : l0_0.length ≤ c0_0) (hr0_1 : Kd.C (Kd.int .i64) w A0_1 l0_1.length l0_1) (hc0_1 : l0_1.length ≤ c0_1) (hr0_2 : Kd.C (Kd.slice 3 (Kd.int .i64)) w A0_2 l0_2.length l0_2) (hc0_2 : l0_2.length ≤ c0_2) (h : emendateref34_Valid.f k l0_0 l0_1 l0_2 a0_3 a0_4 a1 = some r) :
  Calls Try.prog 30 #[.agg #[.slice A0_0 l0_0.length c0_0, .slice A0_1 l0_1.length c0_1, .slice A0_2 l0_2.length c0_2, .int .i64 a0_3, .int .i64 a0_4], .int .i64 a1] w fun e w' => e = .returned (.bool r) ∧ Below w.heap.size w w' := by
 have hu34 := Try.underlying34
 have HR0_0 := Aside0.mk hr0_0
 have HC0_0 := Aside0.mk hc0_0
 clear hr0_0 hc0_0
 have HR0_1 := Aside0.mk hr0_1
 have HC0_1 := Aside0.mk hc0_1
 clear hr0_1 hc0_1
 have HR0_2 := Aside0.mk hr0_2
 have HC0_2 := Aside0.mk hc0_2
 clear hr0_2 hc0_2
 have HB := Aside0.mk (Below.refl w.heap.size w)
 have H : (if (l0_0.length : Int) = a1 then (if (l0_1.length : Int) = a1 then (if (l0_2.length : Int) = a1 then ((emendateref34_between.f a0_3 0 1000).bind fun t206 => (if t206 = true then ((emendateref34_between.f a0_4 1 1000).bind fun t207 => (emendateref34_Valid.j0 k a1 (!t207) l0_0 l0_1 l0_2 a0_3 a0_4)) else (emendateref34_Valid.j0 k a1 true l0_0 l0_1 l0_2 a0_3 a0_4))) else (emendateref34_Valid.j0 k a1 true l0_0 l0_1 l0_2 a0_3 a0_4)) else (emendateref34_Valid.j0 k a1 true l0_0 l0_1 l0_2 a0_3 a0_4)) else (emendateref34_Valid.j0 k a1 true l0_0 l0_1 l0_2 a0_3 a0_4)) = some r := h
 clear h
 have HC3 := Aside0.mk H
 clear H
 go_enter Try.func30, Try.ntmps30
 go_upto_region 1 with (first | ((with_reducible refine gate_dst (N := 2) rfl ?_); (try (refine gate_guard (by rfl) ?_; dsimp only)); refine box_event ?hg (N := 2) ?hd (cs := #[.slice A0_0 l0_0.length c0_0, .slice A0_1 l0_1.length c0_1, .slice A0_2 l0_2.length c0_2, .int .i64 a0_3, .int .i64 a0_4]) (t := 34) ?hr ?_; (case hd => rfl); (case hg => rfl); (case hr => first | (go_simp; done) | (go_simp; rfl)); intro gb205 hg w4 hbox hb; have n0_ := Aside0.mk (below_step (by repeat (first | (with_reducible first | exact HB.out | apply below_alloc | apply pw_below_drewN | apply below_drew1) | exact HB.out)) hb); have n1_ := Aside0.mk (hbox); have n2_ := Aside0.mk ((by rw [hg]; exact (below_size (by repeat (first | (with_reducible first | exact HB.out | apply below_alloc | apply pw_below_drewN | apply below_drew1) | exact HB.out))) : w.heap.size ≤ gb205)); have n3_ := Aside0.mk ((by rw [hg]; exact (below_size (by repeat (first | (with_reducible first | exact HB.out | apply below_alloc | apply pw_below_drewN | apply below_drew1) | exact HB.out))) : w.heap.size ≤ gb205)); clear HB; have HB := n0_; have BK205 := n1_; have GW205 := n2_; have GE205 := n3_; clear n0_ n1_ n2_ n3_; clear hb hbox hg))
 (try simp only [Act.put, List.setIfInBounds_toArray, List.set_cons_zero, List.set_cons_succ])
 go_cut [38] (fun v38 wc => ∃ (kq : Nat) (x38_2 : Bool), v38 = .bool x38_2 ∧ Aside0 (emendateref34_Valid.j0 kq a1 x38_2 l0_0 l0_1 l0_2 a0_3 a0_4 = some r) ∧ Aside0 (kq ≤ k) ∧ Aside0 (wc.heap[gb205]? = some (.cells #[(.slice A0_0 l0_0.length c0_0), (.slice A0_1 l0_1.length c0_1), (.slice A0_2 l0_2.length c0_2), .int .i64 a0_3, .int .i64 a0_4] 34 (0, 0))) ∧ Aside0 (Below w.heap.size w wc))
 case first =>
  have H := HC3.out
  clear HC3
  by_cases c5 : (l0_0.length : Int) = a1
  ·rw [if_pos c5] at H
   have c5b0 : ((l0_0.length : Int) == a1) = true := beq_iff_eq.mpr c5
   have c5b1 : ((l0_0.length : Int) != a1) = false := bne_eq_false_iff_eq.mpr c5
   clear c5
   (first | rw [c5b0] | (simp only [i64_w, i32_w]; rw [c5b0]) | skip)
   by_cases c6 : (l0_1.length : Int) = a1
   ·rw [if_pos c6] at H
    have c6b0 : ((l0_1.length : Int) == a1) = true := beq_iff_eq.mpr c6
    have c6b1 : ((l0_1.length : Int) != a1) = false := bne_eq_false_iff_eq.mpr c6
    clear c6
    by_cases c7 : (l0_2.length : Int) = a1
    ·rw [if_pos c7] at H
     have c7b0 : ((l0_2.length : Int) == a1) = true := beq_iff_eq.mpr c7
     have c7b1 : ((l0_2.length : Int) != a1) = false := bne_eq_false_iff_eq.mpr c7
     clear c7
     replace H := Option.bind_eq_some_iff.mp H
     obtain ⟨t206, A80, H⟩ := H
     replace H : (if t206 = true then ((emendateref34_between.f a0_4 1 1000).bind fun t207 => (emendateref34_Valid.j0 k a1 (!t207) l0_0 l0_1 l0_2 a0_3 a0_4)) else (emendateref34_Valid.j0 k a1 true l0_0 l0_1 l0_2 a0_3 a0_4)) = some r := H
     have A8 := Aside0.mk A80
     clear A80
     by_cases c9 : t206 = true
     ·subst c9
      have H1 : ((emendateref34_between.f a0_4 1 1000).bind fun t207 => (emendateref34_Valid.j0 k a1 (!t207) l0_0 l0_1 l0_2 a0_3 a0_4)) = some r := by rw [if_pos rfl] at H; exact H
      clear H
      have H := H1
      clear H1
      replace H := Option.bind_eq_some_iff.mp H
      obtain ⟨t207, A100, H⟩ := H
      replace H : (emendateref34_Valid.j0 k a1 (!t207) l0_0 l0_1 l0_2 a0_3 a0_4) = some r := H
      have A10 := Aside0.mk A100
      clear A100
      have H' := Aside0.mk H
      clear H
      have hcz11_0 : w4.cell? ⟨gb205, 0, none⟩ = some (.slice A0_0 l0_0.length c0_0) := (blk_cell BK205.out 0).trans rfl
      have hcz11_1 : w4.cell? ⟨gb205, 1, none⟩ = some (.slice A0_1 l0_1.length c0_1) := (blk_cell BK205.out 1).trans rfl
      have hcz11_2 : w4.cell? ⟨gb205, 2, none⟩ = some (.slice A0_2 l0_2.length c0_2) := (blk_cell BK205.out 2).trans rfl
      have hcz11_3 : w4.cell? ⟨gb205, 3, none⟩ = some (.int .i64 a0_3) := (blk_cell BK205.out 3).trans rfl
      have hcz11_4 : w4.cell? ⟨gb205, 4, none⟩ = some (.int .i64 a0_4) := (blk_cell BK205.out 4).trans rfl
      have hfz11_0 := blk_frozen BK205.out 0
      have hfz11_1 := blk_frozen BK205.out 1
      have hfz11_2 := blk_frozen BK205.out 2
      have hfz11_3 := blk_frozen BK205.out 3
      have hfz11_4 := blk_frozen BK205.out 4
      go_wp2_with (first | (go_at_call 42; (with_reducible refine (emendateref34_between.calls a0_3 0 1000 true _ A8.out).mono ?_); rintro e w' ⟨rfl, ⟨nd, rfl⟩⟩) | (go_at_call 42; (with_reducible refine (emendateref34_between.calls a0_4 1 1000 t207 _ A10.out).mono ?_); rintro e w' ⟨rfl, ⟨nd, rfl⟩⟩))
      go_meet
      case rel => exact ⟨_, (!t207), (by first | rfl | (simp; done) | (simp [*]; done)), H', ⟨by first | omega | exact Nat.le_refl _⟩, ⟨by (with_reducible repeat (first | refine blk_drewN ?_ _ | refine blk_drew ?_ | refine blk_alloc ?_ _)); exact BK205.out⟩, ⟨by repeat (first | (with_reducible first | exact HB.out | apply below_alloc | apply pw_below_drewN | apply below_drew1 | refine below_set ?_ GE205.out) | exact HB.out)⟩⟩
     ·replace c9 := Bool.eq_false_iff.mpr c9
      subst c9
      have H1 : (emendateref34_Valid.j0 k a1 true l0_0 l0_1 l0_2 a0_3 a0_4) = some r := by rw [if_neg (show ¬ (false = true) by decide)] at H; exact H
      clear H
      have H := H1
      clear H1
      have H' := Aside0.mk H
      clear H
      have hcz12_0 : w4.cell? ⟨gb205, 0, none⟩ = some (.slice A0_0 l0_0.length c0_0) := (blk_cell BK205.out 0).trans rfl
      have hcz12_1 : w4.cell? ⟨gb205, 1, none⟩ = some (.slice A0_1 l0_1.length c0_1) := (blk_cell BK205.out 1).trans rfl
      have hcz12_2 : w4.cell? ⟨gb205, 2, none⟩ = some (.slice A0_2 l0_2.length c0_2) := (blk_cell BK205.out 2).trans rfl
      have hcz12_3 : w4.cell? ⟨gb205, 3, none⟩ = some (.int .i64 a0_3) := (blk_cell BK205.out 3).trans rfl
      have hcz12_4 : w4.cell? ⟨gb205, 4, none⟩ = some (.int .i64 a0_4) := (blk_cell BK205.out 4).trans rfl
      have hfz12_0 := blk_frozen BK205.out 0
      have hfz12_1 := blk_frozen BK205.out 1
      have hfz12_2 := blk_frozen BK205.out 2
      have hfz12_3 := blk_frozen BK205.out 3
      have hfz12_4 := blk_frozen BK205.out 4
      go_wp2_with (first | (go_at_call 42; (with_reducible refine (emendateref34_between.calls a0_3 0 1000 false _ A8.out).mono ?_); rintro e w' ⟨rfl, ⟨nd, rfl⟩⟩))
      go_meet
      case rel => exact ⟨_, (true), (by first | rfl | (simp; done) | (simp [*]; done)), H', ⟨by first | omega | exact Nat.le_refl _⟩, ⟨by (with_reducible repeat (first | refine blk_drewN ?_ _ | refine blk_drew ?_ | refine blk_alloc ?_ _)); exact BK205.out⟩, ⟨by repeat (first | (with_reducible first | exact HB.out | apply below_alloc | apply pw_below_drewN | apply below_drew1 | refine below_set ?_ GE205.out) | exact HB.out)⟩⟩
    ·rw [if_neg c7] at H
     have c7b0 : ((l0_2.length : Int) == a1) = false := beq_eq_false_iff_ne.mpr c7
     have c7b1 : ((l0_2.length : Int) != a1) = true := bne_iff_ne.mpr c7
     have H' := Aside0.mk H
     clear H
     have hcz13_0 : w4.cell? ⟨gb205, 0, none⟩ = some (.slice A0_0 l0_0.length c0_0) := (blk_cell BK205.out 0).trans rfl
     have hcz13_1 : w4.cell? ⟨gb205, 1, none⟩ = some (.slice A0_1 l0_1.length c0_1) := (blk_cell BK205.out 1).trans rfl
     have hcz13_2 : w4.cell? ⟨gb205, 2, none⟩ = some (.slice A0_2 l0_2.length c0_2) := (blk_cell BK205.out 2).trans rfl
     have hcz13_3 : w4.cell? ⟨gb205, 3, none⟩ = some (.int .i64 a0_3) := (blk_cell BK205.out 3).trans rfl
     have hcz13_4 : w4.cell? ⟨gb205, 4, none⟩ = some (.int .i64 a0_4) := (blk_cell BK205.out 4).trans rfl
     have hfz13_0 := blk_frozen BK205.out 0
     have hfz13_1 := blk_frozen BK205.out 1
     have hfz13_2 := blk_frozen BK205.out 2
     have hfz13_3 := blk_frozen BK205.out 3
     have hfz13_4 := blk_frozen BK205.out 4
     go_wp2
     go_meet
     case rel => exact ⟨_, (true), (by first | rfl | (simp; done) | (simp [*]; done)), H', ⟨by first | omega | exact Nat.le_refl _⟩, ⟨by (with_reducible repeat (first | refine blk_drewN ?_ _ | refine blk_drew ?_ | refine blk_alloc ?_ _)); exact BK205.out⟩, ⟨by repeat (first | (with_reducible first | exact HB.out | apply below_alloc | apply pw_below_drewN | apply below_drew1 | refine below_set ?_ GE205.out) | exact HB.out)⟩⟩
   ·rw [if_neg c6] at H
    have c6b0 : ((l0_1.length : Int) == a1) = false := beq_eq_false_iff_ne.mpr c6
    have c6b1 : ((l0_1.length : Int) != a1) = true := bne_iff_ne.mpr c6
    have H' := Aside0.mk H
    clear H
    have hcz14_0 : w4.cell? ⟨gb205, 0, none⟩ = some (.slice A0_0 l0_0.length c0_0) := (blk_cell BK205.out 0).trans rfl
    have hcz14_1 : w4.cell? ⟨gb205, 1, none⟩ = some (.slice A0_1 l0_1.length c0_1) := (blk_cell BK205.out 1).trans rfl
    have hcz14_2 : w4.cell? ⟨gb205, 2, none⟩ = some (.slice A0_2 l0_2.length c0_2) := (blk_cell BK205.out 2).trans rfl
    have hcz14_3 : w4.cell? ⟨gb205, 3, none⟩ = some (.int .i64 a0_3) := (blk_cell BK205.out 3).trans rfl
    have hcz14_4 : w4.cell? ⟨gb205, 4, none⟩ = some (.int .i64 a0_4) := (blk_cell BK205.out 4).trans rfl
    have hfz14_0 := blk_frozen BK205.out 0
    have hfz14_1 := blk_frozen BK205.out 1
    have hfz14_2 := blk_frozen BK205.out 2
    have hfz14_3 := blk_frozen BK205.out 3
    have hfz14_4 := blk_frozen BK205.out 4
    go_wp2
    go_meet
    case rel => exact ⟨_, (true), (by first | rfl | (simp; done) | (simp [*]; done)), H', ⟨by first | omega | exact Nat.le_refl _⟩, ⟨by (with_reducible repeat (first | refine blk_drewN ?_ _ | refine blk_drew ?_ | refine blk_alloc ?_ _)); exact BK205.out⟩, ⟨by repeat (first | (with_reducible first | exact HB.out | apply below_alloc | apply pw_below_drewN | apply below_drew1 | refine below_set ?_ GE205.out) | exact HB.out)⟩⟩
  ·rw [if_neg c5] at H
   have c5b0 : ((l0_0.length : Int) == a1) = false := beq_eq_false_iff_ne.mpr c5
   have c5b1 : ((l0_0.length : Int) != a1) = true := bne_iff_ne.mpr c5
   (first | rw [c5b0] | (simp only [i64_w, i32_w]; rw [c5b0]) | skip)
   have H' := Aside0.mk H
   clear H
   have hcz15_0 : w4.cell? ⟨gb205, 0, none⟩ = some (.slice A0_0 l0_0.length c0_0) := (blk_cell BK205.out 0).trans rfl
   have hcz15_1 : w4.cell? ⟨gb205, 1, none⟩ = some (.slice A0_1 l0_1.length c0_1) := (blk_cell BK205.out 1).trans rfl
   have hcz15_2 : w4.cell? ⟨gb205, 2, none⟩ = some (.slice A0_2 l0_2.length c0_2) := (blk_cell BK205.out 2).trans rfl
   have hcz15_3 : w4.cell? ⟨gb205, 3, none⟩ = some (.int .i64 a0_3) := (blk_cell BK205.out 3).trans rfl
   have hcz15_4 : w4.cell? ⟨gb205, 4, none⟩ = some (.int .i64 a0_4) := (blk_cell BK205.out 4).trans rfl
   have hfz15_0 := blk_frozen BK205.out 0
   have hfz15_1 := blk_frozen BK205.out 1
   have hfz15_2 := blk_frozen BK205.out 2
   have hfz15_3 := blk_frozen BK205.out 3
   have hfz15_4 := blk_frozen BK205.out 4
   go_wp2
   go_meet
   case rel => exact ⟨_, (true), (by first | rfl | (simp; done) | (simp [*]; done)), H', ⟨by first | omega | exact Nat.le_refl _⟩, ⟨by (with_reducible repeat (first | refine blk_drewN ?_ _ | refine blk_drew ?_ | refine blk_alloc ?_ _)); exact BK205.out⟩, ⟨by repeat (first | (with_reducible first | exact HB.out | apply below_alloc | apply pw_below_drewN | apply below_drew1 | refine below_set ?_ GE205.out) | exact HB.out)⟩⟩
 case rest =>
  clear HC3
  try clear p2
  try clear c3
  try clear c5
  try clear c5b0
  try clear c5b1
  try clear c6
  try clear c6b0
  try clear c6b1
  try clear c7
  try clear c7b0
  try clear c7b1
  try clear c9
  try clear hcz11_0
  try clear hcz11_1
  try clear hcz11_2
  try clear hcz11_3
  try clear hcz11_4
  try clear hcz12_0
  try clear hcz12_1
  try clear hcz12_2
  try clear hcz12_3
  try clear hcz12_4
  try clear hcz13_0
  try clear hcz13_1
  try clear hcz13_2
  try clear hcz13_3
  try clear hcz13_4
  try clear hcz14_0
  try clear hcz14_1
  try clear hcz14_2
  try clear hcz14_3
  try clear hcz14_4
  try clear hcz15_0
  try clear hcz15_1
  try clear hcz15_2
  try clear hcz15_3
  try clear hcz15_4
  try clear hfz11_0
  try clear hfz11_1
  try clear hfz11_2
  try clear hfz11_3
  try clear hfz11_4
  try clear hfz12_0
  try clear hfz12_1
  try clear hfz12_2
  try clear hfz12_3
  try clear hfz12_4
  try clear hfz13_0
  try clear hfz13_1
  try clear hfz13_2
  try clear hfz13_3
  try clear hfz13_4
  try clear hfz14_0
  try clear hfz14_1
  try clear hfz14_2
  try clear hfz14_3
  try clear hfz14_4
  try clear hfz15_0
  try clear hfz15_1
  try clear hfz15_2
  try clear hfz15_3
  try clear hfz15_4
  obtain ⟨kq, x38_2, rfl, HA, HJ2, BK205, HB⟩ := hcut
  cases kq with
  | zero => exact absurd HA.out (by simp [emendateref34_Valid.j0])
  | succ kj2 =>
   have H := HA.out
   clear HA
   simp only [emendateref34_Valid.j0] at H
   by_cases c16 : x38_2 = true
   ·subst c16
    have H1 : (some false) = some r := by rw [if_pos rfl] at H; exact H
    clear H
    have H := H1
    clear H1
    obtain rfl := Option.some.inj H
    go_wp2
    go_ret
    exact ⟨by first | rfl | (simp [errW_none, errW_some] <;> rfl) | (simp [*, errW_none, errW_some] <;> rfl), by repeat (first | (with_reducible first | exact HB.out | apply below_alloc | apply pw_below_drewN | apply below_drew1 | refine below_set ?_ GE205.out) | exact HB.out)⟩
   ·replace c16 := Bool.eq_false_iff.mpr c16
    subst c16
    have H1 : (emendateref34_Valid.l0 kj2 a1 0 l0_0 l0_1 l0_2 a0_3 a0_4) = some r := by rw [if_neg (show ¬ (false = true) by decide)] at H; exact H
    clear H
    have H := H1
    clear H1
    have H' := Aside0.mk H
    clear H
    go_wp2
    go_loopg [5] kj2 (fun kq v5 w' => ∃ (x5_2 : Int), v5 = .int .i64 x5_2 ∧ Aside0 (emendateref34_Valid.l0 kq a1 x5_2 l0_0 l0_1 l0_2 a0_3 a0_4 = some r) ∧ Aside0 (kq ≤ kj2) ∧ Aside0 (w'.heap[gb205]? = some (.cells #[(.slice A0_0 l0_0.length c0_0), (.slice A0_1 l0_1.length c0_1), (.slice A0_2 l0_2.length c0_2), .int .i64 a0_3, .int .i64 a0_4] 34 (0, 0))) ∧ Aside0 (Below w.heap.size w w'))
    case atStart => exact ⟨(0), (by first | rfl | (simp; done) | (simp [*]; done)), H', ⟨Nat.le_refl _⟩, ⟨by (with_reducible repeat (first | refine blk_drewN ?_ _ | refine blk_drew ?_ | refine blk_alloc ?_ _)); exact BK205.out⟩, ⟨by repeat (first | (with_reducible first | exact HB.out | apply below_alloc | apply pw_below_drewN | apply below_drew1 | refine below_set ?_ GE205.out) | exact HB.out)⟩⟩
    case round =>
     clear H'
     try clear c1
     try clear p2
     try clear c3
     try clear c5
     try clear c5b0
     try clear c5b1
     try clear c6
     try clear c6b0
     try clear c6b1
     try clear c7
     try clear c7b0
     try clear c7b1
     try clear c9
     try clear c16
     try clear hcz11_0
     try clear hcz11_1
     try clear hcz11_2
     try clear hcz11_3
     try clear hcz11_4
     try clear hcz12_0
     try clear hcz12_1
     try clear hcz12_2
     try clear hcz12_3
     try clear hcz12_4
     try clear hcz13_0
     try clear hcz13_1
     try clear hcz13_2
     try clear hcz13_3
     try clear hcz13_4
     try clear hcz14_0
     try clear hcz14_1
     try clear hcz14_2
     try clear hcz14_3
     try clear hcz14_4
     try clear hcz15_0
     try clear hcz15_1
     try clear hcz15_2
     try clear hcz15_3
     try clear hcz15_4
     try clear hfz11_0
     try clear hfz11_1
     try clear hfz11_2
     try clear hfz11_3
     try clear hfz11_4
     try clear hfz12_0
     try clear hfz12_1
     try clear hfz12_2
     try clear hfz12_3
     try clear hfz12_4
     try clear hfz13_0
     try clear hfz13_1
     try clear hfz13_2
     try clear hfz13_3
     try clear hfz13_4
     try clear hfz14_0
     try clear hfz14_1
     try clear hfz14_2
     try clear hfz14_3
     try clear hfz14_4
     try clear hfz15_0
     try clear hfz15_1
     try clear hfz15_2
     try clear hfz15_3
     try clear hfz15_4
     try clear p2
     obtain ⟨x5_2, rfl, HA, HK2, BK205, HB⟩ := hrel
     cases gk with
     | zero => exact absurd HA.out (by simp [emendateref34_Valid.l0])
     | succ k2 =>
      have H := HA.out
      clear HA
      simp only [emendateref34_Valid.l0] at H
      by_cases c17 : x5_2 < a1
      ·rw [if_pos c17] at H
       have c17b0 : decide (x5_2 < a1) = true := decide_eq_true c17
       clear c17
       have HC18 := Aside0.mk H
       clear H
       go_upto_region 6 with (fail)
       go_cut [69] (fun v69 wc => ∃ (kq : Nat) (x69_17 : Bool), v69 = .bool x69_17 ∧ Aside0 (emendateref34_Valid.j2 kq a1 x5_2 x69_17 l0_0 l0_1 l0_2 a0_3 a0_4 = some r) ∧ Aside0 (kq ≤ k2) ∧ Aside0 (wc.heap[gb205]? = some (.cells #[(.slice A0_0 l0_0.length c0_0), (.slice A0_1 l0_1.length c0_1), (.slice A0_2 l0_2.length c0_2), .int .i64 a0_3, .int .i64 a0_4] 34 (0, 0))) ∧ Aside0 (Below w.heap.size w wc))
       case first =>
        have H := HC18.out
        clear HC18
        by_cases c19 : 0 ≤ x5_2
        ·rw [if_pos c19] at H
         have c19b0 : decide (0 ≤ x5_2) = true := decide_eq_true c19
         clear c19
         (first | rw [c19b0] | (simp only [i64_w, i32_w]; rw [c19b0]) | skip)
         by_cases c20 : x5_2 < (l0_0.length : Int)
         ·rw [if_pos c20] at H
          have c20b0 : decide (x5_2 < (l0_0.length : Int)) = true := decide_eq_true c20
          clear c20
          replace H := Option.bind_eq_some_iff.mp H
          obtain ⟨t209, A210, H⟩ := H
          replace H : (if t209 = true then (if x5_2 < (l0_1.length : Int) then ((emendateref34_between.f (rd l0_1 x5_2) 1 1000).bind fun t211 => (if t211 = true then (if x5_2 < (l0_2.length : Int) then (emendateref34_Valid.j2 k2 a1 x5_2 (((rd_L1 l0_2 x5_2).length : Int) != a1) l0_0 l0_1 l0_2 a0_3 a0_4) else (none)) else (emendateref34_Valid.j2 k2 a1 x5_2 true l0_0 l0_1 l0_2 a0_3 a0_4))) else (none)) else (emendateref34_Valid.j2 k2 a1 x5_2 true l0_0 l0_1 l0_2 a0_3 a0_4)) = some r := H
          have A21 := Aside0.mk A210
          clear A210
          by_cases c22 : t209 = true
          ·subst c22
           have H1 : (if x5_2 < (l0_1.length : Int) then ((emendateref34_between.f (rd l0_1 x5_2) 1 1000).bind fun t211 => (if t211 = true then (if x5_2 < (l0_2.length : Int) then (emendateref34_Valid.j2 k2 a1 x5_2 (((rd_L1 l0_2 x5_2).length : Int) != a1) l0_0 l0_1 l0_2 a0_3 a0_4) else (none)) else (emendateref34_Valid.j2 k2 a1 x5_2 true l0_0 l0_1 l0_2 a0_3 a0_4))) else (none)) = some r := by rw [if_pos rfl] at H; exact H
           clear H
           have H := H1
           clear H1
           by_cases c23 : x5_2 < (l0_1.length : Int)
           ·rw [if_pos c23] at H
            have c23b0 : decide (x5_2 < (l0_1.length : Int)) = true := decide_eq_true c23
            clear c23
            replace H := Option.bind_eq_some_iff.mp H
            obtain ⟨t211, A240, H⟩ := H
            replace H : (if t211 = true then (if x5_2 < (l0_2.length : Int) then (emendateref34_Valid.j2 k2 a1 x5_2 (((rd_L1 l0_2 x5_2).length : Int) != a1) l0_0 l0_1 l0_2 a0_3 a0_4) else (none)) else (emendateref34_Valid.j2 k2 a1 x5_2 true l0_0 l0_1 l0_2 a0_3 a0_4)) = some r := H
            have A24 := Aside0.mk A240
            clear A240
            by_cases c25 : t211 = true
            ·subst c25
             have H1 : (if x5_2 < (l0_2.length : Int) then (emendateref34_Valid.j2 k2 a1 x5_2 (((rd_L1 l0_2 x5_2).length : Int) != a1) l0_0 l0_1 l0_2 a0_3 a0_4) else (none)) = some r := by rw [if_pos rfl] at H; exact H
             clear H
             have H := H1
             clear H1
             by_cases c26 : x5_2 < (l0_2.length : Int)
             ·rw [if_pos c26] at H
              have c26b0 : decide (x5_2 < (l0_2.length : Int)) = true := decide_eq_true c26
              clear c26
              have H' := Aside0.mk H
              clear H
              have hcz27_0 : wr.cell? ⟨gb205, 0, none⟩ = some (.slice A0_0 l0_0.length c0_0) := (blk_cell BK205.out 0).trans rfl
              have hcz27_1 : wr.cell? ⟨gb205, 1, none⟩ = some (.slice A0_1 l0_1.length c0_1) := (blk_cell BK205.out 1).trans rfl
              have hcz27_2 : wr.cell? ⟨gb205, 2, none⟩ = some (.slice A0_2 l0_2.length c0_2) := (blk_cell BK205.out 2).trans rfl
              have hcz27_3 : wr.cell? ⟨gb205, 3, none⟩ = some (.int .i64 a0_3) := (blk_cell BK205.out 3).trans rfl
              have hcz27_4 : wr.cell? ⟨gb205, 4, none⟩ = some (.int .i64 a0_4) := (blk_cell BK205.out 4).trans rfl
              have hfz27_0 := blk_frozen BK205.out 0
              have hfz27_1 := blk_frozen BK205.out 1
              have hfz27_2 := blk_frozen BK205.out 2
              have hfz27_3 := blk_frozen BK205.out 3
              have hfz27_4 := blk_frozen BK205.out 4
              have p208 : 0 ≤ (x5_2 : Int) := of_decide_eq_true (by first | (with_reducible assumption) | assumption)
              have q208 : x5_2 < (l0_0.length : Int) := of_decide_eq_true (by first | (with_reducible assumption) | assumption)
              obtain ⟨ad208, e208, hx208_0⟩ := Kd.at_int HR0_0.out x5_2 p208 q208
              cases e208
              replace hx208_0 := (HB.out.cell (World.block_lt_of_cell? w _ hx208_0)).trans hx208_0
              replace p208 := eq_true p208
              replace q208 := eq_true q208
              go_wp2_with (first | ((with_reducible refine gate_callee (f := 42) rfl ?_); refine goesL_ (some 49) rfl rfl Try.func42 (by kernel_rfl) rfl #[.int .i64 (rd l0_0 x5_2), .int .i64 1, .int .i64 1000] rfl (by (try simp only [List.map_toArray, List.map_cons, List.map_nil]); first | done | rfl | (simp only [List.length_drop, List.length_take]; rfl)) ?_; (with_reducible refine (emendateref34_between.calls (rd l0_0 x5_2) 1 1000 true _ A21.out).mono ?_); rintro e w' ⟨rfl, ⟨nd, rfl⟩⟩; refine ⟨_, rfl, ?_⟩; have p210 : 0 ≤ (x5_2 : Int) := of_decide_eq_true (by first | (with_reducible assumption) | assumption); have q210 : x5_2 < (l0_1.length : Int) := of_decide_eq_true (by first | (with_reducible assumption) | assumption); obtain ⟨ad210, e210, hx210_0⟩ := Kd.at_int HR0_1.out x5_2 p210 q210; cases e210; replace hx210_0 := (HB.out.cell (World.block_lt_of_cell? w _ hx210_0)).trans hx210_0; replace p210 := eq_true p210; replace q210 := eq_true q210) | (go_at_call 42; (with_reducible refine (emendateref34_between.calls (rd l0_1 x5_2) 1 1000 true _ A24.out).mono ?_); rintro e w' ⟨rfl, ⟨nd, rfl⟩⟩; have p212 : 0 ≤ (x5_2 : Int) := of_decide_eq_true (by first | (with_reducible assumption) | assumption); have q212 : x5_2 < (l0_2.length : Int) := of_decide_eq_true (by first | (with_reducible assumption) | assumption); obtain ⟨ad212, A212_0, c212_0, e212, hx212_0, hl212_0, hi212_0⟩ := at_L1 HR0_2.out x5_2 p212 q212; cases e212; replace hx212_0 := (HB.out.cell (World.block_lt_of_cell? w _ hx212_0)).trans hx212_0; have HR212_0 := Aside0.mk hi212_0; have HC212_0 := Aside0.mk hl212_0; clear hi212_0 hl212_0; replace p212 := eq_true p212; replace q212 := eq_true q212))
              go_meet
              case rel => exact ⟨_, ((((rd_L1 l0_2 x5_2).length : Int) != a1)), (by first | rfl | (simp; done) | (simp [*]; done)), H', ⟨by have := HJ2.out; have := HK2.out; first | omega | exact Nat.le_refl _⟩, ⟨by (with_reducible repeat (first | refine blk_drewN ?_ _ | refine blk_drew ?_ | refine blk_alloc ?_ _)); exact BK205.out⟩, ⟨by repeat (first | (with_reducible first | exact HB.out | apply below_alloc | apply pw_below_drewN | apply below_drew1 | refine below_set ?_ GE205.out) | exact HB.out)⟩⟩
             ·rw [if_neg c26] at H
              exact absurd H (by simp)
            ·replace c25 := Bool.eq_false_iff.mpr c25
             subst c25
             have H1 : (emendateref34_Valid.j2 k2 a1 x5_2 true l0_0 l0_1 l0_2 a0_3 a0_4) = some r := by rw [if_neg (show ¬ (false = true) by decide)] at H; exact H
             clear H
             have H := H1
             clear H1
             have H' := Aside0.mk H
             clear H
             have hcz28_0 : wr.cell? ⟨gb205, 0, none⟩ = some (.slice A0_0 l0_0.length c0_0) := (blk_cell BK205.out 0).trans rfl
             have hcz28_1 : wr.cell? ⟨gb205, 1, none⟩ = some (.slice A0_1 l0_1.length c0_1) := (blk_cell BK205.out 1).trans rfl
             have hcz28_2 : wr.cell? ⟨gb205, 2, none⟩ = some (.slice A0_2 l0_2.length c0_2) := (blk_cell BK205.out 2).trans rfl
             have hcz28_3 : wr.cell? ⟨gb205, 3, none⟩ = some (.int .i64 a0_3) := (blk_cell BK205.out 3).trans rfl
             have hcz28_4 : wr.cell? ⟨gb205, 4, none⟩ = some (.int .i64 a0_4) := (blk_cell BK205.out 4).trans rfl
             have hfz28_0 := blk_frozen BK205.out 0
             have hfz28_1 := blk_frozen BK205.out 1
             have hfz28_2 := blk_frozen BK205.out 2
             have hfz28_3 := blk_frozen BK205.out 3
             have hfz28_4 := blk_frozen BK205.out 4
             have p208 : 0 ≤ (x5_2 : Int) := of_decide_eq_true (by first | (with_reducible assumption) | assumption)
             have q208 : x5_2 < (l0_0.length : Int) := of_decide_eq_true (by first | (with_reducible assumption) | assumption)
             obtain ⟨ad208, e208, hx208_0⟩ := Kd.at_int HR0_0.out x5_2 p208 q208
             cases e208
             replace hx208_0 := (HB.out.cell (World.block_lt_of_cell? w _ hx208_0)).trans hx208_0
             replace p208 := eq_true p208
             replace q208 := eq_true q208
             go_wp2_with (first | ((with_reducible refine gate_callee (f := 42) rfl ?_); refine goesL_ (some 49) rfl rfl Try.func42 (by kernel_rfl) rfl #[.int .i64 (rd l0_0 x5_2), .int .i64 1, .int .i64 1000] rfl (by (try simp only [List.map_toArray, List.map_cons, List.map_nil]); first | done | rfl | (simp only [List.length_drop, List.length_take]; rfl)) ?_; (with_reducible refine (emendateref34_between.calls (rd l0_0 x5_2) 1 1000 true _ A21.out).mono ?_); rintro e w' ⟨rfl, ⟨nd, rfl⟩⟩; refine ⟨_, rfl, ?_⟩; have p210 : 0 ≤ (x5_2 : Int) := of_decide_eq_true (by first | (with_reducible assumption) | assumption); have q210 : x5_2 < (l0_1.length : Int) := of_decide_eq_true (by first | (with_reducible assumption) | assumption); obtain ⟨ad210, e210, hx210_0⟩ := Kd.at_int HR0_1.out x5_2 p210 q210; cases e210; replace hx210_0 := (HB.out.cell (World.block_lt_of_cell? w _ hx210_0)).trans hx210_0; replace p210 := eq_true p210; replace q210 := eq_true q210) | (go_at_call 42; (with_reducible refine (emendateref34_between.calls (rd l0_1 x5_2) 1 1000 false _ A24.out).mono ?_); rintro e w' ⟨rfl, ⟨nd, rfl⟩⟩))
             go_meet
             case rel => exact ⟨_, (true), (by first | rfl | (simp; done) | (simp [*]; done)), H', ⟨by have := HJ2.out; have := HK2.out; first | omega | exact Nat.le_refl _⟩, ⟨by (with_reducible repeat (first | refine blk_drewN ?_ _ | refine blk_drew ?_ | refine blk_alloc ?_ _)); exact BK205.out⟩, ⟨by repeat (first | (with_reducible first | exact HB.out | apply below_alloc | apply pw_below_drewN | apply below_drew1 | refine below_set ?_ GE205.out) | exact HB.out)⟩⟩
           ·rw [if_neg c23] at H
            exact absurd H (by simp)
          ·replace c22 := Bool.eq_false_iff.mpr c22
           subst c22
           have H1 : (emendateref34_Valid.j2 k2 a1 x5_2 true l0_0 l0_1 l0_2 a0_3 a0_4) = some r := by rw [if_neg (show ¬ (false = true) by decide)] at H; exact H
           clear H
           have H := H1
           clear H1
           have H' := Aside0.mk H
           clear H
           have hcz29_0 : wr.cell? ⟨gb205, 0, none⟩ = some (.slice A0_0 l0_0.length c0_0) := (blk_cell BK205.out 0).trans rfl
           have hcz29_1 : wr.cell? ⟨gb205, 1, none⟩ = some (.slice A0_1 l0_1.length c0_1) := (blk_cell BK205.out 1).trans rfl
           have hcz29_2 : wr.cell? ⟨gb205, 2, none⟩ = some (.slice A0_2 l0_2.length c0_2) := (blk_cell BK205.out 2).trans rfl
           have hcz29_3 : wr.cell? ⟨gb205, 3, none⟩ = some (.int .i64 a0_3) := (blk_cell BK205.out 3).trans rfl
           have hcz29_4 : wr.cell? ⟨gb205, 4, none⟩ = some (.int .i64 a0_4) := (blk_cell BK205.out 4).trans rfl
           have hfz29_0 := blk_frozen BK205.out 0
           have hfz29_1 := blk_frozen BK205.out 1
           have hfz29_2 := blk_frozen BK205.out 2
           have hfz29_3 := blk_frozen BK205.out 3
           have hfz29_4 := blk_frozen BK205.out 4
           have p208 : 0 ≤ (x5_2 : Int) := of_decide_eq_true (by first | (with_reducible assumption) | assumption)
           have q208 : x5_2 < (l0_0.length : Int) := of_decide_eq_true (by first | (with_reducible assumption) | assumption)
           obtain ⟨ad208, e208, hx208_0⟩ := Kd.at_int HR0_0.out x5_2 p208 q208
           cases e208
           replace hx208_0 := (HB.out.cell (World.block_lt_of_cell? w _ hx208_0)).trans hx208_0
           replace p208 := eq_true p208
           replace q208 := eq_true q208
           go_wp2_with (first | ((with_reducible refine gate_callee (f := 42) rfl ?_); refine goesL_ (some 49) rfl rfl Try.func42 (by kernel_rfl) rfl #[.int .i64 (rd l0_0 x5_2), .int .i64 1, .int .i64 1000] rfl (by (try simp only [List.map_toArray, List.map_cons, List.map_nil]); first | done | rfl | (simp only [List.length_drop, List.length_take]; rfl)) ?_; (with_reducible refine (emendateref34_between.calls (rd l0_0 x5_2) 1 1000 false _ A21.out).mono ?_); rintro e w' ⟨rfl, ⟨nd, rfl⟩⟩; refine ⟨_, rfl, ?_⟩))
           go_meet
           case rel => exact ⟨_, (true), (by first | rfl | (simp; done) | (simp [*]; done)), H', ⟨by have := HJ2.out; have := HK2.out; first | omega | exact Nat.le_refl _⟩, ⟨by (with_reducible repeat (first | refine blk_drewN ?_ _ | refine blk_drew ?_ | refine blk_alloc ?_ _)); exact BK205.out⟩, ⟨by repeat (first | (with_reducible first | exact HB.out | apply below_alloc | apply pw_below_drewN | apply below_drew1 | refine below_set ?_ GE205.out) | exact HB.out)⟩⟩
         ·rw [if_neg c20] at H
          exact absurd H (by simp)
        ·rw [if_neg c19] at H
         exact absurd H (by simp)
       case rest =>
        clear HC18
        try clear c1
        try clear c2
        try clear p2
        try clear q2
        try clear hx2
        try clear c3
        try clear c4
        try clear c5
        try clear c5b0
        try clear c5b1
        try clear c6
        try clear c6b0
        try clear c6b1
        try clear c7
        try clear c7b0
        try clear c7b1
        try clear c9
        try clear c16
        try clear c17
        try clear c17b0
        try clear c19
        try clear c19b0
        try clear c20
        try clear c20b0
        try clear p20
        try clear q20
        try clear hx20
        try clear c21
        try clear p21
        try clear q21
        try clear hx21
        try clear c22
        try clear c23
        try clear c23b0
        try clear c25
        try clear c26
        try clear c26b0
        try clear hcz11_0
        try clear hcz11_1
        try clear hcz11_2
        try clear hcz11_3
        try clear hcz11_4
        try clear hcz12_0
        try clear hcz12_1
        try clear hcz12_2
        try clear hcz12_3
        try clear hcz12_4
        try clear hcz13_0
        try clear hcz13_1
        try clear hcz13_2
        try clear hcz13_3
        try clear hcz13_4
        try clear hcz14_0
        try clear hcz14_1
        try clear hcz14_2
        try clear hcz14_3
        try clear hcz14_4
        try clear hcz15_0
        try clear hcz15_1
        try clear hcz15_2
        try clear hcz15_3
        try clear hcz15_4
        try clear hcz27_0
        try clear hcz27_1
        try clear hcz27_2
        try clear hcz27_3
        try clear hcz27_4
        try clear hcz28_0
        try clear hcz28_1
        try clear hcz28_2
        try clear hcz28_3
        try clear hcz28_4
        try clear hcz29_0
        try clear hcz29_1
        try clear hcz29_2
        try clear hcz29_3
        try clear hcz29_4
        try clear hfz11_0
        try clear hfz11_1
        try clear hfz11_2
        try clear hfz11_3
        try clear hfz11_4
        try clear hfz12_0
        try clear hfz12_1
        try clear hfz12_2
        try clear hfz12_3
        try clear hfz12_4
        try clear hfz13_0
        try clear hfz13_1
        try clear hfz13_2
        try clear hfz13_3
        try clear hfz13_4
        try clear hfz14_0
        try clear hfz14_1
        try clear hfz14_2
        try clear hfz14_3
        try clear hfz14_4
        try clear hfz15_0
        try clear hfz15_1
        try clear hfz15_2
        try clear hfz15_3
        try clear hfz15_4
        try clear hfz27_0
        try clear hfz27_1
        try clear hfz27_2
        try clear hfz27_3
        try clear hfz27_4
        try clear hfz28_0
        try clear hfz28_1
        try clear hfz28_2
        try clear hfz28_3
        try clear hfz28_4
        try clear hfz29_0
        try clear hfz29_1
        try clear hfz29_2
        try clear hfz29_3
        try clear hfz29_4
        try clear hx208_0
        try clear hx210_0
        try clear hx212_0
        try clear p2
        try clear p208
        try clear p210
        try clear p212
        try clear q208
        try clear q210
        try clear q212
        obtain ⟨kq, x69_17, rfl, HA, HJ17, BK205, HB⟩ := hcut
        cases kq with
        | zero => exact absurd HA.out (by simp [emendateref34_Valid.j2])
        | succ kj17 =>
         have H := HA.out
         clear HA
         simp only [emendateref34_Valid.j2] at H
         by_cases c30 : x69_17 = true
         ·subst c30
          have H1 : (some false) = some r := by rw [if_pos rfl] at H; exact H
          clear H
          have H := H1
          clear H1
          obtain rfl := Option.some.inj H
          go_wp2
          go_ret
          exact ⟨by first | rfl | (simp [errW_none, errW_some] <;> rfl) | (simp [*, errW_none, errW_some] <;> rfl), by repeat (first | (with_reducible first | exact HB.out | apply below_alloc | apply pw_below_drewN | apply below_drew1 | refine below_set ?_ GE205.out) | exact HB.out)⟩
         ·replace c30 := Bool.eq_false_iff.mpr c30
          subst c30
          have H1 : (emendateref34_Valid.l1 kj17 a1 x5_2 0 l0_0 l0_1 l0_2 a0_3 a0_4) = some r := by rw [if_neg (show ¬ (false = true) by decide)] at H; exact H
          clear H
          have H := H1
          clear H1
          have H' := Aside0.mk H
          clear H
          go_wp2
          go_loopg [6] kj17 (fun kq v6 w' => ∃ (x6_4 : Int), v6 = .int .i64 x6_4 ∧ Aside0 (emendateref34_Valid.l1 kq a1 x5_2 x6_4 l0_0 l0_1 l0_2 a0_3 a0_4 = some r) ∧ Aside0 (kq ≤ kj17) ∧ Aside0 (w'.heap[gb205]? = some (.cells #[(.slice A0_0 l0_0.length c0_0), (.slice A0_1 l0_1.length c0_1), (.slice A0_2 l0_2.length c0_2), .int .i64 a0_3, .int .i64 a0_4] 34 (0, 0))) ∧ Aside0 (Below w.heap.size w w'))
          case atStart => exact ⟨(0), (by first | rfl | (simp; done) | (simp [*]; done)), H', ⟨Nat.le_refl _⟩, ⟨by (with_reducible repeat (first | refine blk_drewN ?_ _ | refine blk_drew ?_ | refine blk_alloc ?_ _)); exact BK205.out⟩, ⟨by repeat (first | (with_reducible first | exact HB.out | apply below_alloc | apply pw_below_drewN | apply below_drew1 | refine below_set ?_ GE205.out) | exact HB.out)⟩⟩
          case round =>
           clear H'
           try clear c1
           try clear c2
           try clear p2
           try clear q2
           try clear hx2
           try clear c3
           try clear c4
           try clear c5
           try clear c5b0
           try clear c5b1
           try clear c6
           try clear c6b0
           try clear c6b1
           try clear c7
           try clear c7b0
           try clear c7b1
           try clear c9
           try clear c16
           try clear c17
           try clear c17b0
           try clear c19
           try clear c19b0
           try clear c20
           try clear c20b0
           try clear p20
           try clear q20
           try clear hx20
           try clear c21
           try clear p21
           try clear q21
           try clear hx21
           try clear c22
           try clear c23
           try clear c23b0
           try clear c25
           try clear c26
           try clear c26b0
           try clear c30
           try clear hcz11_0
           try clear hcz11_1
           try clear hcz11_2
           try clear hcz11_3
           try clear hcz11_4
           try clear hcz12_0
           try clear hcz12_1
           try clear hcz12_2
           try clear hcz12_3
           try clear hcz12_4
           try clear hcz13_0
           try clear hcz13_1
           try clear hcz13_2
           try clear hcz13_3
           try clear hcz13_4
           try clear hcz14_0
           try clear hcz14_1
           try clear hcz14_2
           try clear hcz14_3
           try clear hcz14_4
           try clear hcz15_0
           try clear hcz15_1
           try clear hcz15_2
           try clear hcz15_3
           try clear hcz15_4
           try clear hcz27_0
           try clear hcz27_1
           try clear hcz27_2
           try clear hcz27_3
           try clear hcz27_4
           try clear hcz28_0
           try clear hcz28_1
           try clear hcz28_2
           try clear hcz28_3
           try clear hcz28_4
           try clear hcz29_0
           try clear hcz29_1
           try clear hcz29_2
           try clear hcz29_3
           try clear hcz29_4
           try clear hfz11_0
           try clear hfz11_1
           try clear hfz11_2
           try clear hfz11_3
           try clear hfz11_4
           try clear hfz12_0
           try clear hfz12_1
           try clear hfz12_2
           try clear hfz12_3
           try clear hfz12_4
           try clear hfz13_0
           try clear hfz13_1
           try clear hfz13_2
           try clear hfz13_3
           try clear hfz13_4
           try clear hfz14_0
           try clear hfz14_1
           try clear hfz14_2
           try clear hfz14_3
           try clear hfz14_4
           try clear hfz15_0
           try clear hfz15_1
           try clear hfz15_2
           try clear hfz15_3
           try clear hfz15_4
           try clear hfz27_0
           try clear hfz27_1
           try clear hfz27_2
           try clear hfz27_3
           try clear hfz27_4
           try clear hfz28_0
           try clear hfz28_1
           try clear hfz28_2
           try clear hfz28_3
           try clear hfz28_4
           try clear hfz29_0
           try clear hfz29_1
           try clear hfz29_2
           try clear hfz29_3
           try clear hfz29_4
           try clear hx208_0
           try clear hx210_0
           try clear hx212_0
           try clear p2
           try clear p20
           try clear p208
           try clear p21
           try clear p210
           try clear p212
           try clear q2
           try clear q20
           try clear q208
           try clear q21
           try clear q210
           try clear q212
           obtain ⟨x6_4, rfl, HA, HK4, BK205, HB⟩ := hrel
           cases gk with
           | zero => exact absurd HA.out (by simp [emendateref34_Valid.l1])
           | succ k4 =>
            have H := HA.out
            clear HA
            simp only [emendateref34_Valid.l1] at H
            by_cases c31 : x6_4 < a1
            ·rw [if_pos c31] at H
             have c31b0 : decide (x6_4 < a1) = true := decide_eq_true c31
             clear c31
             by_cases c32 : 0 ≤ x5_2
             ·rw [if_pos c32] at H
              have c32b0 : decide (0 ≤ x5_2) = true := decide_eq_true c32
              clear c32
              by_cases c33 : x5_2 < (l0_2.length : Int)
              ·rw [if_pos c33] at H
               have c33b0 : decide (x5_2 < (l0_2.length : Int)) = true := decide_eq_true c33
               clear c33
               by_cases c34 : 0 ≤ x6_4
               ·rw [if_pos c34] at H
                have c34b0 : decide (0 ≤ x6_4) = true := decide_eq_true c34
                clear c34
                by_cases c35 : x6_4 < ((rd_L1 l0_2 x5_2).length : Int)
                ·rw [if_pos c35] at H
                 have c35b0 : decide (x6_4 < ((rd_L1 l0_2 x5_2).length : Int)) = true := decide_eq_true c35
                 clear c35
                 by_cases c36 : x5_2 = x6_4
                 ·rw [if_pos c36] at H
                  have c36b0 : (x5_2 == x6_4) = true := beq_iff_eq.mpr c36
                  have c36b1 : (x5_2 != x6_4) = false := bne_eq_false_iff_eq.mpr c36
                  clear c36
                  by_cases c37 : (rd (rd_L1 l0_2 x5_2) x6_4) = 0
                  ·rw [if_pos c37] at H
                   have c37b0 : ((rd (rd_L1 l0_2 x5_2) x6_4) == 0) = true := beq_iff_eq.mpr c37
                   have c37b1 : ((rd (rd_L1 l0_2 x5_2) x6_4) != 0) = false := bne_eq_false_iff_eq.mpr c37
                   clear c37
                   have H' := Aside0.mk H
                   clear H
                   have hcz38_0 : wr.cell? ⟨gb205, 0, none⟩ = some (.slice A0_0 l0_0.length c0_0) := (blk_cell BK205.out 0).trans rfl
                   have hcz38_1 : wr.cell? ⟨gb205, 1, none⟩ = some (.slice A0_1 l0_1.length c0_1) := (blk_cell BK205.out 1).trans rfl
                   have hcz38_2 : wr.cell? ⟨gb205, 2, none⟩ = some (.slice A0_2 l0_2.length c0_2) := (blk_cell BK205.out 2).trans rfl
                   have hcz38_3 : wr.cell? ⟨gb205, 3, none⟩ = some (.int .i64 a0_3) := (blk_cell BK205.out 3).trans rfl
                   have hcz38_4 : wr.cell? ⟨gb205, 4, none⟩ = some (.int .i64 a0_4) := (blk_cell BK205.out 4).trans rfl
                   have hfz38_0 := blk_frozen BK205.out 0
                   have hfz38_1 := blk_frozen BK205.out 1
                   have hfz38_2 := blk_frozen BK205.out 2
                   have hfz38_3 := blk_frozen BK205.out 3
                   have hfz38_4 := blk_frozen BK205.out 4
                   have p213 : 0 ≤ (x5_2 : Int) := of_decide_eq_true (by first | (with_reducible assumption) | assumption)
                   have q213 : x5_2 < (l0_2.length : Int) := of_decide_eq_true (by first | (with_reducible assumption) | assumption)
                   obtain ⟨ad213, A213_0, c213_0, e213, hx213_0, hl213_0, hi213_0⟩ := at_L1 HR0_2.out x5_2 p213 q213
                   cases e213
                   replace hx213_0 := (HB.out.cell (World.block_lt_of_cell? w _ hx213_0)).trans hx213_0
                   have HR213_0 := Aside0.mk hi213_0
                   have HC213_0 := Aside0.mk hl213_0
                   clear hi213_0 hl213_0
                   replace p213 := eq_true p213
                   replace q213 := eq_true q213
                   have p214 : 0 ≤ (x6_4 : Int) := of_decide_eq_true (by first | (with_reducible assumption) | assumption)
                   have q214 : x6_4 < ((rd_L1 l0_2 x5_2).length : Int) := of_decide_eq_true (by first | (with_reducible assumption) | assumption)
                   obtain ⟨ad214, e214, hx214_0⟩ := Kd.at_int HR213_0.out x6_4 p214 q214
                   cases e214
                   replace hx214_0 := (HB.out.cell (World.block_lt_of_cell? w _ hx214_0)).trans hx214_0
                   replace p214 := eq_true p214
                   replace q214 := eq_true q214
                   go_wp2
                   go_roundg k4
                   case measure => have := HJ2.out; have := HK2.out; have := HJ17.out; have := HK4.out; omega
                   case rel => exact ⟨(wrap64 (x6_4 + 1)), (by first | rfl | (simp; done) | (simp [*]; done)), H', ⟨by have := HJ2.out; have := HK2.out; have := HJ17.out; have := HK4.out; omega⟩, ⟨by (with_reducible repeat (first | refine blk_drewN ?_ _ | refine blk_drew ?_ | refine blk_alloc ?_ _)); exact BK205.out⟩, ⟨by repeat (first | (with_reducible first | exact HB.out | apply below_alloc | apply pw_below_drewN | apply below_drew1 | refine below_set ?_ GE205.out) | exact HB.out)⟩⟩
                  ·rw [if_neg c37] at H
                   have c37b0 : ((rd (rd_L1 l0_2 x5_2) x6_4) == 0) = false := beq_eq_false_iff_ne.mpr c37
                   have c37b1 : ((rd (rd_L1 l0_2 x5_2) x6_4) != 0) = true := bne_iff_ne.mpr c37
                   obtain rfl := Option.some.inj H
                   have hcz39_0 : wr.cell? ⟨gb205, 0, none⟩ = some (.slice A0_0 l0_0.length c0_0) := (blk_cell BK205.out 0).trans rfl
                   have hcz39_1 : wr.cell? ⟨gb205, 1, none⟩ = some (.slice A0_1 l0_1.length c0_1) := (blk_cell BK205.out 1).trans rfl
                   have hcz39_2 : wr.cell? ⟨gb205, 2, none⟩ = some (.slice A0_2 l0_2.length c0_2) := (blk_cell BK205.out 2).trans rfl
                   have hcz39_3 : wr.cell? ⟨gb205, 3, none⟩ = some (.int .i64 a0_3) := (blk_cell BK205.out 3).trans rfl
                   have hcz39_4 : wr.cell? ⟨gb205, 4, none⟩ = some (.int .i64 a0_4) := (blk_cell BK205.out 4).trans rfl
                   have hfz39_0 := blk_frozen BK205.out 0
                   have hfz39_1 := blk_frozen BK205.out 1
                   have hfz39_2 := blk_frozen BK205.out 2
                   have hfz39_3 := blk_frozen BK205.out 3
                   have hfz39_4 := blk_frozen BK205.out 4
                   have p213 : 0 ≤ (x5_2 : Int) := of_decide_eq_true (by first | (with_reducible assumption) | assumption)
                   have q213 : x5_2 < (l0_2.length : Int) := of_decide_eq_true (by first | (with_reducible assumption) | assumption)
                   obtain ⟨ad213, A213_0, c213_0, e213, hx213_0, hl213_0, hi213_0⟩ := at_L1 HR0_2.out x5_2 p213 q213
                   cases e213
                   replace hx213_0 := (HB.out.cell (World.block_lt_of_cell? w _ hx213_0)).trans hx213_0
                   have HR213_0 := Aside0.mk hi213_0
                   have HC213_0 := Aside0.mk hl213_0
                   clear hi213_0 hl213_0
                   replace p213 := eq_true p213
                   replace q213 := eq_true q213
                   have p214 : 0 ≤ (x6_4 : Int) := of_decide_eq_true (by first | (with_reducible assumption) | assumption)
                   have q214 : x6_4 < ((rd_L1 l0_2 x5_2).length : Int) := of_decide_eq_true (by first | (with_reducible assumption) | assumption)
                   obtain ⟨ad214, e214, hx214_0⟩ := Kd.at_int HR213_0.out x6_4 p214 q214
                   cases e214
                   replace hx214_0 := (HB.out.cell (World.block_lt_of_cell? w _ hx214_0)).trans hx214_0
                   replace p214 := eq_true p214
                   replace q214 := eq_true q214
                   go_wp2
                   go_ret
                   exact ⟨by first | rfl | (simp [errW_none, errW_some] <;> rfl) | (simp [*, errW_none, errW_some] <;> rfl), by repeat (first | (with_reducible first | exact HB.out | apply below_alloc | apply pw_below_drewN | apply below_drew1 | refine below_set ?_ GE205.out) | exact HB.out)⟩
                 ·rw [if_neg c36] at H
                  have c36b0 : (x5_2 == x6_4) = false := beq_eq_false_iff_ne.mpr c36
                  have c36b1 : (x5_2 != x6_4) = true := bne_iff_ne.mpr c36
                  by_cases c40 : (rd (rd_L1 l0_2 x5_2) x6_4) = (-1)
                  ·rw [if_pos c40] at H
                   have c40b0 : ((rd (rd_L1 l0_2 x5_2) x6_4) == (-1)) = true := beq_iff_eq.mpr c40
                   have c40b1 : ((rd (rd_L1 l0_2 x5_2) x6_4) != (-1)) = false := bne_eq_false_iff_eq.mpr c40
                   clear c40
                   have H' := Aside0.mk H
                   clear H
                   have hcz41_0 : wr.cell? ⟨gb205, 0, none⟩ = some (.slice A0_0 l0_0.length c0_0) := (blk_cell BK205.out 0).trans rfl
                   have hcz41_1 : wr.cell? ⟨gb205, 1, none⟩ = some (.slice A0_1 l0_1.length c0_1) := (blk_cell BK205.out 1).trans rfl
                   have hcz41_2 : wr.cell? ⟨gb205, 2, none⟩ = some (.slice A0_2 l0_2.length c0_2) := (blk_cell BK205.out 2).trans rfl
                   have hcz41_3 : wr.cell? ⟨gb205, 3, none⟩ = some (.int .i64 a0_3) := (blk_cell BK205.out 3).trans rfl
                   have hcz41_4 : wr.cell? ⟨gb205, 4, none⟩ = some (.int .i64 a0_4) := (blk_cell BK205.out 4).trans rfl
                   have hfz41_0 := blk_frozen BK205.out 0
                   have hfz41_1 := blk_frozen BK205.out 1
                   have hfz41_2 := blk_frozen BK205.out 2
                   have hfz41_3 := blk_frozen BK205.out 3
                   have hfz41_4 := blk_frozen BK205.out 4
                   have p213 : 0 ≤ (x5_2 : Int) := of_decide_eq_true (by first | (with_reducible assumption) | assumption)
                   have q213 : x5_2 < (l0_2.length : Int) := of_decide_eq_true (by first | (with_reducible assumption) | assumption)
                   obtain ⟨ad213, A213_0, c213_0, e213, hx213_0, hl213_0, hi213_0⟩ := at_L1 HR0_2.out x5_2 p213 q213
                   cases e213
                   replace hx213_0 := (HB.out.cell (World.block_lt_of_cell? w _ hx213_0)).trans hx213_0
                   have HR213_0 := Aside0.mk hi213_0
                   have HC213_0 := Aside0.mk hl213_0
                   clear hi213_0 hl213_0
                   replace p213 := eq_true p213
                   replace q213 := eq_true q213
                   have p214 : 0 ≤ (x6_4 : Int) := of_decide_eq_true (by first | (with_reducible assumption) | assumption)
                   have q214 : x6_4 < ((rd_L1 l0_2 x5_2).length : Int) := of_decide_eq_true (by first | (with_reducible assumption) | assumption)
                   obtain ⟨ad214, e214, hx214_0⟩ := Kd.at_int HR213_0.out x6_4 p214 q214
                   cases e214
                   replace hx214_0 := (HB.out.cell (World.block_lt_of_cell? w _ hx214_0)).trans hx214_0
                   replace p214 := eq_true p214
                   replace q214 := eq_true q214
                   go_wp2
                   go_roundg k4
                   case measure => have := HJ2.out; have := HK2.out; have := HJ17.out; have := HK4.out; omega
                   case rel => exact ⟨(wrap64 (x6_4 + 1)), (by first | rfl | (simp; done) | (simp [*]; done)), H', ⟨by have := HJ2.out; have := HK2.out; have := HJ17.out; have := HK4.out; omega⟩, ⟨by (with_reducible repeat (first | refine blk_drewN ?_ _ | refine blk_drew ?_ | refine blk_alloc ?_ _)); exact BK205.out⟩, ⟨by repeat (first | (with_reducible first | exact HB.out | apply below_alloc | apply pw_below_drewN | apply below_drew1 | refine below_set ?_ GE205.out) | exact HB.out)⟩⟩
                  ·rw [if_neg c40] at H
                   have c40b0 : ((rd (rd_L1 l0_2 x5_2) x6_4) == (-1)) = false := beq_eq_false_iff_ne.mpr c40
                   have c40b1 : ((rd (rd_L1 l0_2 x5_2) x6_4) != (-1)) = true := bne_iff_ne.mpr c40
                   replace H := Option.bind_eq_some_iff.mp H
                   obtain ⟨t215, A420, H⟩ := H
                   replace H : (if t215 = true then (emendateref34_Valid.l1 k4 a1 x5_2 (wrap64 (x6_4 + 1)) l0_0 l0_1 l0_2 a0_3 a0_4) else (some false)) = some r := H
                   have A42 := Aside0.mk A420
                   clear A420
                   by_cases c43 : t215 = true
                   ·subst c43
                    have H1 : (emendateref34_Valid.l1 k4 a1 x5_2 (wrap64 (x6_4 + 1)) l0_0 l0_1 l0_2 a0_3 a0_4) = some r := by rw [if_pos rfl] at H; exact H
                    clear H
                    have H := H1
                    clear H1
                    have H' := Aside0.mk H
                    clear H
                    have hcz44_0 : wr.cell? ⟨gb205, 0, none⟩ = some (.slice A0_0 l0_0.length c0_0) := (blk_cell BK205.out 0).trans rfl
                    have hcz44_1 : wr.cell? ⟨gb205, 1, none⟩ = some (.slice A0_1 l0_1.length c0_1) := (blk_cell BK205.out 1).trans rfl
                    have hcz44_2 : wr.cell? ⟨gb205, 2, none⟩ = some (.slice A0_2 l0_2.length c0_2) := (blk_cell BK205.out 2).trans rfl
                    have hcz44_3 : wr.cell? ⟨gb205, 3, none⟩ = some (.int .i64 a0_3) := (blk_cell BK205.out 3).trans rfl
                    have hcz44_4 : wr.cell? ⟨gb205, 4, none⟩ = some (.int .i64 a0_4) := (blk_cell BK205.out 4).trans rfl
                    have hfz44_0 := blk_frozen BK205.out 0
                    have hfz44_1 := blk_frozen BK205.out 1
                    have hfz44_2 := blk_frozen BK205.out 2
                    have hfz44_3 := blk_frozen BK205.out 3
                    have hfz44_4 := blk_frozen BK205.out 4
                    have p213 : 0 ≤ (x5_2 : Int) := of_decide_eq_true (by first | (with_reducible assumption) | assumption)
                    have q213 : x5_2 < (l0_2.length : Int) := of_decide_eq_true (by first | (with_reducible assumption) | assumption)
                    obtain ⟨ad213, A213_0, c213_0, e213, hx213_0, hl213_0, hi213_0⟩ := at_L1 HR0_2.out x5_2 p213 q213
                    cases e213
                    replace hx213_0 := (HB.out.cell (World.block_lt_of_cell? w _ hx213_0)).trans hx213_0
                    have HR213_0 := Aside0.mk hi213_0
                    have HC213_0 := Aside0.mk hl213_0
                    clear hi213_0 hl213_0
                    replace p213 := eq_true p213
                    replace q213 := eq_true q213
                    have p214 : 0 ≤ (x6_4 : Int) := of_decide_eq_true (by first | (with_reducible assumption) | assumption)
                    have q214 : x6_4 < ((rd_L1 l0_2 x5_2).length : Int) := of_decide_eq_true (by first | (with_reducible assumption) | assumption)
                    obtain ⟨ad214, e214, hx214_0⟩ := Kd.at_int HR213_0.out x6_4 p214 q214
                    cases e214
                    replace hx214_0 := (HB.out.cell (World.block_lt_of_cell? w _ hx214_0)).trans hx214_0
                    replace p214 := eq_true p214
                    replace q214 := eq_true q214
                    go_wp2_with (first | (go_at_call 42; (with_reducible refine (emendateref34_between.calls (rd (rd_L1 l0_2 x5_2) x6_4) 1 1000 true _ A42.out).mono ?_); rintro e w' ⟨rfl, ⟨nd, rfl⟩⟩))
                    go_roundg k4
                    case measure => have := HJ2.out; have := HK2.out; have := HJ17.out; have := HK4.out; omega
                    case rel => exact ⟨(wrap64 (x6_4 + 1)), (by first | rfl | (simp; done) | (simp [*]; done)), H', ⟨by have := HJ2.out; have := HK2.out; have := HJ17.out; have := HK4.out; omega⟩, ⟨by (with_reducible repeat (first | refine blk_drewN ?_ _ | refine blk_drew ?_ | refine blk_alloc ?_ _)); exact BK205.out⟩, ⟨by repeat (first | (with_reducible first | exact HB.out | apply below_alloc | apply pw_below_drewN | apply below_drew1 | refine below_set ?_ GE205.out) | exact HB.out)⟩⟩
                   ·replace c43 := Bool.eq_false_iff.mpr c43
                    subst c43
                    have H1 : (some false) = some r := by rw [if_neg (show ¬ (false = true) by decide)] at H; exact H
                    clear H
                    have H := H1
                    clear H1
                    obtain rfl := Option.some.inj H
                    have hcz45_0 : wr.cell? ⟨gb205, 0, none⟩ = some (.slice A0_0 l0_0.length c0_0) := (blk_cell BK205.out 0).trans rfl
                    have hcz45_1 : wr.cell? ⟨gb205, 1, none⟩ = some (.slice A0_1 l0_1.length c0_1) := (blk_cell BK205.out 1).trans rfl
                    have hcz45_2 : wr.cell? ⟨gb205, 2, none⟩ = some (.slice A0_2 l0_2.length c0_2) := (blk_cell BK205.out 2).trans rfl
                    have hcz45_3 : wr.cell? ⟨gb205, 3, none⟩ = some (.int .i64 a0_3) := (blk_cell BK205.out 3).trans rfl
                    have hcz45_4 : wr.cell? ⟨gb205, 4, none⟩ = some (.int .i64 a0_4) := (blk_cell BK205.out 4).trans rfl
                    have hfz45_0 := blk_frozen BK205.out 0
                    have hfz45_1 := blk_frozen BK205.out 1
                    have hfz45_2 := blk_frozen BK205.out 2
                    have hfz45_3 := blk_frozen BK205.out 3
                    have hfz45_4 := blk_frozen BK205.out 4
                    have p213 : 0 ≤ (x5_2 : Int) := of_decide_eq_true (by first | (with_reducible assumption) | assumption)
                    have q213 : x5_2 < (l0_2.length : Int) := of_decide_eq_true (by first | (with_reducible assumption) | assumption)
                    obtain ⟨ad213, A213_0, c213_0, e213, hx213_0, hl213_0, hi213_0⟩ := at_L1 HR0_2.out x5_2 p213 q213
                    cases e213
                    replace hx213_0 := (HB.out.cell (World.block_lt_of_cell? w _ hx213_0)).trans hx213_0
                    have HR213_0 := Aside0.mk hi213_0
                    have HC213_0 := Aside0.mk hl213_0
                    clear hi213_0 hl213_0
                    replace p213 := eq_true p213
                    replace q213 := eq_true q213
                    have p214 : 0 ≤ (x6_4 : Int) := of_decide_eq_true (by first | (with_reducible assumption) | assumption)
                    have q214 : x6_4 < ((rd_L1 l0_2 x5_2).length : Int) := of_decide_eq_true (by first | (with_reducible assumption) | assumption)
                    obtain ⟨ad214, e214, hx214_0⟩ := Kd.at_int HR213_0.out x6_4 p214 q214
                    cases e214
                    replace hx214_0 := (HB.out.cell (World.block_lt_of_cell? w _ hx214_0)).trans hx214_0
                    replace p214 := eq_true p214
                    replace q214 := eq_true q214
                    go_wp2_with (first | (go_at_call 42; (with_reducible refine (emendateref34_between.calls (rd (rd_L1 l0_2 x5_2) x6_4) 1 1000 false _ A42.out).mono ?_); rintro e w' ⟨rfl, ⟨nd, rfl⟩⟩))
                    go_ret
                    exact ⟨by first | rfl | (simp [errW_none, errW_some] <;> rfl) | (simp [*, errW_none, errW_some] <;> rfl), by repeat (first | (with_reducible first | exact HB.out | apply below_alloc | apply pw_below_drewN | apply below_drew1 | refine below_set ?_ GE205.out) | exact HB.out)⟩
                ·rw [if_neg c35] at H
                 exact absurd H (by simp)
               ·rw [if_neg c34] at H
                exact absurd H (by simp)
              ·rw [if_neg c33] at H
               exact absurd H (by simp)
             ·rw [if_neg c32] at H
              exact absurd H (by simp)
            ·rw [if_neg c31] at H
             have c31b0 : decide (x6_4 < a1) = false := decide_eq_false c31
             clear c31
             have H' := Aside0.mk H
             clear H
             go_wp2
             go_roundg k4
             case measure => have := HJ2.out; have := HK2.out; have := HJ17.out; have := HK4.out; omega
             case rel => exact ⟨(wrap64 (x5_2 + 1)), (by first | rfl | (simp; done) | (simp [*]; done)), H', ⟨by have := HJ2.out; have := HK2.out; have := HJ17.out; have := HK4.out; omega⟩, ⟨by (with_reducible repeat (first | refine blk_drewN ?_ _ | refine blk_drew ?_ | refine blk_alloc ?_ _)); exact BK205.out⟩, ⟨by repeat (first | (with_reducible first | exact HB.out | apply below_alloc | apply pw_below_drewN | apply below_drew1 | refine below_set ?_ GE205.out) | exact HB.out)⟩⟩
      ·rw [if_neg c17] at H
       have c17b0 : decide (x5_2 < a1) = false := decide_eq_false c17
       clear c17
       obtain rfl := Option.some.inj H
       go_wp2
       go_ret
       exact ⟨by first | rfl | (simp [errW_none, errW_some] <;> rfl) | (simp [*, errW_none, errW_some] <;> rfl), by repeat (first | (with_reducible first | exact HB.out | apply below_alloc | apply pw_below_drewN | apply below_drew1 | refine below_set ?_ GE205.out) | exact HB.out)⟩

end Go.Proofs.Ytcigcacjjdpgfaa.PA
