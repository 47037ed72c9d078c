import Derived.Test.YtgmgihnagpmfcaaPAx3
import Derived.WalkSpells
import Derived.Outline
/- awake: the examples of the chapter hold; by hand, in the printed contracts' form. -/
namespace Go.Proofs.Ytgmgihnagpmfcaa.PA
open Go.RowKit Go.Proofs.YtgmgihnagpmfcaaW.PrintWords Go.Proofs.YtgmgihnagpmfcaaW.PrintLast Go.Proofs.YtgmgihnagpmfcaaW.PrintMore
set_option linter.unusedVariables false
set_option linter.unusedSimpArgs false

def emendatelaw02_awake.f : Option Bool := some true

def abc : ByteArray := ⟨#[97, 98, 99]⟩
theorem mv_2_false (w : World) : Calls Try.prog 10 #[.agg #[.int .i64 2, .bool false], .agg #[.int .i64 3, .int .i64 2, .string ⟨#[97, 98, 99]⟩]] w fun e w' => e = .returned (.agg #[.int .i64 2, .bool false]) ∧ Below w.heap.size w w' := anchor_Move.calls 2 false 3 2 ⟨#[97, 98, 99]⟩ 2 false w (by kernel_rfl)
theorem mv_3_false (w : World) : Calls Try.prog 10 #[.agg #[.int .i64 3, .bool false], .agg #[.int .i64 3, .int .i64 2, .string ⟨#[97, 98, 99]⟩]] w fun e w' => e = .returned (.agg #[.int .i64 3, .bool false]) ∧ Below w.heap.size w w' := anchor_Move.calls 3 false 3 2 ⟨#[97, 98, 99]⟩ 3 false w (by kernel_rfl)
theorem mv_5_false (w : World) : Calls Try.prog 10 #[.agg #[.int .i64 5, .bool false], .agg #[.int .i64 3, .int .i64 2, .string ⟨#[97, 98, 99]⟩]] w fun e w' => e = .returned (.agg #[.int .i64 3, .bool false]) ∧ Below w.heap.size w w' := anchor_Move.calls 5 false 3 2 ⟨#[97, 98, 99]⟩ 3 false w (by kernel_rfl)
theorem mv_6_false (w : World) : Calls Try.prog 10 #[.agg #[.int .i64 6, .bool false], .agg #[.int .i64 3, .int .i64 2, .string ⟨#[97, 98, 99]⟩]] w fun e w' => e = .returned (.agg #[.int .i64 7, .bool false]) ∧ Below w.heap.size w w' := anchor_Move.calls 6 false 3 2 ⟨#[97, 98, 99]⟩ 7 false w (by kernel_rfl)
theorem mv_3_true (w : World) : Calls Try.prog 10 #[.agg #[.int .i64 3, .bool true], .agg #[.int .i64 3, .int .i64 2, .string ⟨#[97, 98, 99]⟩]] w fun e w' => e = .returned (.agg #[.int .i64 6, .bool true]) ∧ Below w.heap.size w w' := anchor_Move.calls 3 true 3 2 ⟨#[97, 98, 99]⟩ 6 true w (by kernel_rfl)
theorem mv_6_true (w : World) : Calls Try.prog 10 #[.agg #[.int .i64 6, .bool true], .agg #[.int .i64 3, .int .i64 2, .string ⟨#[97, 98, 99]⟩]] w fun e w' => e = .returned (.agg #[.int .i64 7, .bool true]) ∧ Below w.heap.size w w' := anchor_Move.calls 6 true 3 2 ⟨#[97, 98, 99]⟩ 7 true w (by kernel_rfl)
theorem at_5 (w : World) : Calls Try.prog 14 #[.int .i64 5] w fun e w' => e = .returned (.agg #[.int .i64 5, .bool false]) ∧ Below w.heap.size w w' := emendatelaw02_at.calls 5 5 false w rfl
theorem at_2 (w : World) : Calls Try.prog 14 #[.int .i64 2] w fun e w' => e = .returned (.agg #[.int .i64 2, .bool false]) ∧ Below w.heap.size w w' := emendatelaw02_at.calls 2 2 false w rfl
theorem at_3 (w : World) : Calls Try.prog 14 #[.int .i64 3] w fun e w' => e = .returned (.agg #[.int .i64 3, .bool false]) ∧ Below w.heap.size w w' := emendatelaw02_at.calls 3 3 false w rfl
theorem at_7 (w : World) : Calls Try.prog 14 #[.int .i64 7] w fun e w' => e = .returned (.agg #[.int .i64 7, .bool false]) ∧ Below w.heap.size w w' := emendatelaw02_at.calls 7 7 false w rfl
theorem at_6 (w : World) : Calls Try.prog 14 #[.int .i64 6] w fun e w' => e = .returned (.agg #[.int .i64 6, .bool false]) ∧ Below w.heap.size w w' := emendatelaw02_at.calls 6 6 false w rfl
theorem right_3 (w : World) : Calls Try.prog 15 #[.int .i64 3] w fun e w' => e = .returned (.agg #[.int .i64 3, .bool true]) ∧ Below w.heap.size w w' := emendatelaw02_right.calls 3 3 true w rfl
theorem right_6 (w : World) : Calls Try.prog 15 #[.int .i64 6] w fun e w' => e = .returned (.agg #[.int .i64 6, .bool true]) ∧ Below w.heap.size w w' := emendatelaw02_right.calls 6 6 true w rfl
theorem right_7 (w : World) : Calls Try.prog 15 #[.int .i64 7] w fun e w' => e = .returned (.agg #[.int .i64 7, .bool true]) ∧ Below w.heap.size w w' := emendatelaw02_right.calls 7 7 true w rfl
theorem right_5 (w : World) : Calls Try.prog 15 #[.int .i64 5] w fun e w' => e = .returned (.agg #[.int .i64 5, .bool true]) ∧ Below w.heap.size w w' := emendatelaw02_right.calls 5 5 true w rfl
def HeldE (W : World) (g : Nat) (w' : World) : Prop :=
  w'.cell? ⟨g, 0, none⟩ = some (.int .i64 3) ∧ w'.cell? ⟨g, 1, none⟩ = some (.int .i64 2) ∧ w'.cell? ⟨g, 2, none⟩ = some (.string ⟨#[97, 98, 99]⟩) ∧ Aside0 (Below W.heap.size W w')
theorem HeldE.of {W w' : World} {g : Nat} (hg : g < W.heap.size) (h0 : W.cell? ⟨g, 0, none⟩ = some (.int .i64 3)) (h1 : W.cell? ⟨g, 1, none⟩ = some (.int .i64 2)) (h2 : W.cell? ⟨g, 2, none⟩ = some (.string ⟨#[97, 98, 99]⟩))
    (hb : Below W.heap.size W w') : HeldE W g w' :=
  ⟨(hb.cell (p := ⟨g, 0, none⟩) hg).trans h0, (hb.cell (p := ⟨g, 1, none⟩) hg).trans h1, (hb.cell (p := ⟨g, 2, none⟩) hg).trans h2, ⟨hb⟩⟩
theorem HeldE.step {W w1 w2 : World} {g : Nat} (hg : g < W.heap.size) (h : HeldE W g w1) (hb : Below w1.heap.size w1 w2) : HeldE W g w2 :=
  have hg1 : g < w1.heap.size := Nat.lt_of_lt_of_le hg h.2.2.2.out.size
  ⟨(hb.cell (p := ⟨g, 0, none⟩) hg1).trans h.1, (hb.cell (p := ⟨g, 1, none⟩) hg1).trans h.2.1, (hb.cell (p := ⟨g, 2, none⟩) hg1).trans h.2.2.1, ⟨below_step h.2.2.2.out hb⟩⟩

theorem cells_of_block {w : World} {b : Nat} {cs : Array Value} {t : Nat} {fz : Nat × Nat} (h : w.heap[b]? = some (.cells cs t fz)) (i : Nat) (u : Value) (hi : cs[i]? = some u) : w.cell? ⟨b, i, none⟩ = some u := by
  simp [World.cell?, h, hi]
theorem C23_two {w : World} {b : Nat} {x0 x1 : Int} {y0 y1 : Bool} (h : w.heap[b]? = some (.cells #[.int .i64 x0, .bool y0, .int .i64 x1, .bool y1] 23 (0, 0))) :
    Kd.C k23 w (some ⟨b, 0, none⟩) 2 [(⟨x0, y0⟩ : S23), ⟨x1, y1⟩] := by
  refine ⟨rfl, by omega, fun _ => ⟨_, rfl, fun j p hj => ?_⟩⟩
  match j, hj with
  | 0, hj =>
    obtain rfl : (⟨x0, y0⟩ : S23) = p := by simpa using hj
    refine ⟨[.int .i64 x0, .bool y0], rfl, k23_mk _ _, fun i u hu => ?_⟩
    match i, hu with
    | 0, hu => exact cells_of_block h 0 u (by simpa using hu)
    | 1, hu => exact cells_of_block h 1 u (by simpa using hu)
  | 1, hj =>
    obtain rfl : (⟨x1, y1⟩ : S23) = p := by simpa using hj
    refine ⟨[.int .i64 x1, .bool y1], rfl, k23_mk _ _, fun i u hu => ?_⟩
    match i, hu with
    | 0, hu => exact cells_of_block h 2 u (by simpa using hu)
    | 1, hu => exact cells_of_block h 3 u (by simpa using hu)
theorem C25_two {w : World} {b : Nat} {x0 x1 y0 y1 : Int} {s0 s1 : ByteArray} (h : w.heap[b]? = some (.cells #[.int .i64 x0, .int .i64 y0, .string s0, .int .i64 x1, .int .i64 y1, .string s1] 25 (0, 0))) :
    Kd.C k25 w (some ⟨b, 0, none⟩) 2 [(⟨x0, y0, s0⟩ : S25), ⟨x1, y1, s1⟩] := by
  refine ⟨rfl, by omega, fun _ => ⟨_, rfl, fun j p hj => ?_⟩⟩
  match j, hj with
  | 0, hj =>
    obtain rfl : (⟨x0, y0, s0⟩ : S25) = p := by simpa using hj
    refine ⟨[.int .i64 x0, .int .i64 y0, .string s0], rfl, k25_mk _ _, fun i u hu => ?_⟩
    match i, hu with
    | 0, hu => exact cells_of_block h 0 u (by simpa using hu)
    | 1, hu => exact cells_of_block h 1 u (by simpa using hu)
    | 2, hu => exact cells_of_block h 2 u (by simpa using hu)
  | 1, hj =>
    obtain rfl : (⟨x1, y1, s1⟩ : S25) = p := by simpa using hj
    refine ⟨[.int .i64 x1, .int .i64 y1, .string s1], rfl, k25_mk _ _, fun i u hu => ?_⟩
    match i, hu with
    | 0, hu => exact cells_of_block h 3 u (by simpa using hu)
    | 1, hu => exact cells_of_block h 4 u (by simpa using hu)
    | 2, hu => exact cells_of_block h 5 u (by simpa using hu)
theorem ma_two : anchor_MoveAll.f 20 [(⟨6, false⟩ : S23), ⟨5, true⟩] [(⟨3, 2, ⟨#[97, 98, 99]⟩⟩ : S25), ⟨0, 1, ⟨#[]⟩⟩] = some [⟨6, false⟩, ⟨5, true⟩] := by kernel_rfl
theorem MA (W : World) (w : World) (hW : Below W.heap.size W w) (b0 b1 : Nat) (h0 : w.heap[b0]? = some (.cells #[.int .i64 6, .bool false, .int .i64 5, .bool true] 23 (0, 0)))
    (h1 : w.heap[b1]? = some (.cells #[.int .i64 3, .int .i64 2, .string ⟨#[97, 98, 99]⟩, .int .i64 0, .int .i64 1, .string ⟨#[]⟩] 25 (0, 0))) :
    Calls Try.prog 13 #[.slice (some ⟨b0, 0, none⟩) 2 2, .slice (some ⟨b1, 0, none⟩) 2 2] w fun e w' => ∃ v0_ : Value, e = .returned (v0_) ∧ Kd.R k23 23 w' W.heap.size (fun _ => True) v0_ [⟨6, false⟩, ⟨5, true⟩] ∧ Below w.heap.size w w' :=
  (anchor_MoveAll.calls 20 (some ⟨b0, 0, none⟩) 2 [(⟨6, false⟩ : S23), ⟨5, true⟩] (some ⟨b1, 0, none⟩) 2 [(⟨3, 2, ⟨#[97, 98, 99]⟩⟩ : S25), ⟨0, 1, ⟨#[]⟩⟩] _ w (C23_two h0) (Nat.le_refl _) (C25_two h1) (Nat.le_refl _) ma_two).mono fun _ _ ⟨v, he, hr, hb⟩ => ⟨v, he, Kd.R_lower hr hW.size, hb⟩

theorem hp_new {w : World} {o : Obj} {b : Nat} (h : b = w.heap.size) : (w.alloc o).heap[b]? = some o := by
  subst h
  show (w.heap.push o)[w.heap.size]? = some o
  simp
theorem hp_old {w : World} {o x : Obj} {b : Nat} (h : w.heap[b]? = some x) : (w.alloc o).heap[b]? = some x := by
  have hb : b < w.heap.size := (Array.getElem?_eq_some_iff.1 h).1
  exact ((below_alloc (Below.refl w.heap.size w) o).block b hb).trans h
theorem hp_below {w w1 : World} {x : Obj} {b : Nat} (hb : Below w.heap.size w w1) (h : w.heap[b]? = some x) : w1.heap[b]? = some x :=
  (hb.block b (Array.getElem?_eq_some_iff.1 h).1).trans h
def Held4 (W : World) (g gg : Nat) (w' : World) : Prop :=
  w'.cell? ⟨g, 0, none⟩ = some (.int .i64 3) ∧ w'.cell? ⟨g, 1, none⟩ = some (.int .i64 2) ∧ w'.cell? ⟨g, 2, none⟩ = some (.string ⟨#[97, 98, 99]⟩) ∧ w'.cell? ⟨gg, 0, none⟩ = some (.int .i64 6) ∧ w'.cell? ⟨gg, 1, none⟩ = some (.bool false) ∧ w'.cell? ⟨gg, 2, none⟩ = some (.int .i64 5) ∧ w'.cell? ⟨gg, 3, none⟩ = some (.bool true) ∧ Aside0 (g < w'.heap.size ∧ gg < w'.heap.size ∧ Below W.heap.size W w')
theorem Held4.of {W w' : World} {g gg : Nat} (hg : g < W.heap.size) (h : HeldE W g w') (hgg : gg < w'.heap.size) (d0 : w'.cell? ⟨gg, 0, none⟩ = some (.int .i64 6)) (d1 : w'.cell? ⟨gg, 1, none⟩ = some (.bool false))
    (d2 : w'.cell? ⟨gg, 2, none⟩ = some (.int .i64 5)) (d3 : w'.cell? ⟨gg, 3, none⟩ = some (.bool true)) : Held4 W g gg w' :=
  ⟨h.1, h.2.1, h.2.2.1, d0, d1, d2, d3, ⟨Nat.lt_of_lt_of_le hg h.2.2.2.out.size, hgg, h.2.2.2.out⟩⟩
theorem Held4.step {W w1 w2 : World} {g gg : Nat} (h : Held4 W g gg w1) (hb : Below w1.heap.size w1 w2) : Held4 W g gg w2 := by
  obtain ⟨a0, a1, a2, d0, d1, d2, d3, ⟨hg, hgg, hB⟩⟩ := h
  exact ⟨(hb.cell (p := ⟨g, 0, none⟩) hg).trans a0, (hb.cell (p := ⟨g, 1, none⟩) hg).trans a1, (hb.cell (p := ⟨g, 2, none⟩) hg).trans a2, (hb.cell (p := ⟨gg, 0, none⟩) hgg).trans d0, (hb.cell (p := ⟨gg, 1, none⟩) hgg).trans d1,
    (hb.cell (p := ⟨gg, 2, none⟩) hgg).trans d2, (hb.cell (p := ⟨gg, 3, none⟩) hgg).trans d3, ⟨Nat.lt_of_lt_of_le hg hb.size, Nat.lt_of_lt_of_le hgg hb.size, below_step hB hb⟩⟩
def Cut2 (W : World) (g : Nat) (s2 : Value) (wx : World) : Prop :=
  HeldE W g wx ∧ Kd.R k23 23 wx W.heap.size (fun _ => True) s2 [⟨6, false⟩, ⟨5, true⟩]
set_option maxHeartbeats 4000000 in
set_option maxRecDepth 100000 in
theorem emendatelaw02_awake.calls (r : Bool) (w : World) (h : emendatelaw02_awake.f = some r) :
    Calls Try.prog 9 #[] w fun e w' => e = .returned (.bool r) ∧ Below w.heap.size w w' := by
  obtain rfl : true = r := Option.some.inj h
  clear h
  have hu25 := Try.underlying25
  have hu23 := Try.underlying23
  go_enter Try.func9, Try.ntmps9
  go_wp2_with fail
  obtain ⟨W, hW⟩ : ∃ W : World, W = w.alloc (Obj.cells #[Value.int IntKind.i64 3, Value.int IntKind.i64 2, Value.string { data := #[97, 98, 99] }] 25) := ⟨_, rfl⟩
  rw [← hW]
  have hB : Below w.heap.size w W := by rw [hW]; exact (Below.refl _ _).alloc (Nat.le_refl _) _
  obtain ⟨g, hg⟩ : ∃ g, g = w.heap.size := ⟨_, rfl⟩
  have hgW : g < W.heap.size := by rw [hW, hg]; simp
  have h0 : W.cell? ⟨g, 0, none⟩ = some (.int .i64 3) := by rw [hW, hg]; simp
  have h1 : W.cell? ⟨g, 1, none⟩ = some (.int .i64 2) := by rw [hW, hg]; simp
  have h2 : W.cell? ⟨g, 2, none⟩ = some (.string ⟨#[97, 98, 99]⟩) := by rw [hW, hg]; simp
  rw [← hg]
  have HB := Aside0.mk hB
  have HS := Aside0.mk (HeldE.of hgW h0 h1 h2 (Below.refl _ _))
  have HG := Aside0.mk hgW
  clear hW hB hg h0 h1 h2 hgW
  go_cut [2] (fun s2 wx => Cut2 W g s2 wx)
  case first =>
    have HS1 := HS.out
    unfold HeldE at HS1
    clear HS
    go_region_held3 (fun w' => w'.cell? ⟨g, 0, none⟩ = some (.int .i64 3) ∧ w'.cell? ⟨g, 1, none⟩ = some (.int .i64 2) ∧ w'.cell? ⟨g, 2, none⟩ = some (.string ⟨#[97, 98, 99]⟩) ∧ Aside0 (Below W.heap.size W w'))
      (first | exact HeldE.step HG.out (by assumption) (below_drew1 (Below.refl _ _)) | exact HeldE.step HG.out (by assumption) (below_alloc (Below.refl _ _) _) | exact HeldE.step HG.out (by assumption) (by assumption))
      ((first | (go_at_call 14; refine (emendatelaw02_at.calls 6 6 false _ rfl).mono ?_; rintro e w' ⟨rfl, hb⟩) | (go_at_call 15; refine (emendatelaw02_right.calls 5 5 true _ rfl).mono ?_; rintro e w' ⟨rfl, hb⟩) | (go_at_call 13; refine (MA W _ ?c2 _ _ ?c0 ?c1).mono ?_; (case c2 => exact (show HeldE W g _ from (by assumption)).2.2.2.out); (case c0 => repeat (first | exact hp_new (by simp) | refine hp_old ?_ | refine hp_below (by assumption) ?_)); (case c1 => repeat (first | exact hp_new (by simp) | refine hp_old ?_ | refine hp_below (by assumption) ?_)); rintro e w' ⟨v, rfl, hR, hb⟩)))
    all_goals go_wp2_with fail
    all_goals
      go_meet
      case rel => exact ⟨by assumption, hR⟩
  case rest =>
    clear HS
    obtain ⟨hS, hR⟩ := hcut
    obtain ⟨gg, cap, rfl, _, hgg, _⟩ := Kd.R_form hR (by decide)
    obtain ⟨_, _, hC⟩ := Kd.R_reads' hR
    obtain ⟨ad, hA, e00, e01⟩ := at_T23 hC 0 (by decide) (by decide)
    obtain ⟨ad', hA', e10, e11⟩ := at_T23 hC 1 (by decide) (by decide)
    obtain rfl : ⟨gg, 0, none⟩ = ad := Option.some.inj hA
    obtain rfl : ⟨gg, 0, none⟩ = ad' := Option.some.inj hA'
    have d0 : wc.cell? ⟨gg, 0, none⟩ = some (.int .i64 6) := e00
    have d1 : wc.cell? ⟨gg, 1, none⟩ = some (.bool false) := e01
    have d2 : wc.cell? ⟨gg, 2, none⟩ = some (.int .i64 5) := e10
    have d3 : wc.cell? ⟨gg, 3, none⟩ = some (.bool true) := e11
    have HS3 := Held4.of HG.out hS hgg d0 d1 d2 d3
    have HG3 := Aside0.mk hgg
    have hBW := Aside0.mk hS.2.2.2.out
    clear hA hC hR e00 e01 e10 e11 hA' hS d0 d1 d2 d3 hgg
    unfold Held4 at HS3
    go_wp2_with fail
    go_region_held3 (fun w' => w'.cell? ⟨g, 0, none⟩ = some (.int .i64 3) ∧ w'.cell? ⟨g, 1, none⟩ = some (.int .i64 2) ∧ w'.cell? ⟨g, 2, none⟩ = some (.string ⟨#[97, 98, 99]⟩) ∧ w'.cell? ⟨gg, 0, none⟩ = some (.int .i64 6) ∧ w'.cell? ⟨gg, 1, none⟩ = some (.bool false) ∧ w'.cell? ⟨gg, 2, none⟩ = some (.int .i64 5) ∧ w'.cell? ⟨gg, 3, none⟩ = some (.bool true) ∧ Aside0 (g < w'.heap.size ∧ gg < w'.heap.size ∧ Below W.heap.size W w'))
      (first | exact Held4.step (by assumption) (below_drew1 (Below.refl _ _)) | exact Held4.step (by assumption) (by assumption))
      ((first | (go_at_call 10; (with_reducible refine (mv_2_false _).mono ?_); rintro e w' ⟨rfl, hb⟩) | (go_at_call 10; (with_reducible refine (mv_3_false _).mono ?_); rintro e w' ⟨rfl, hb⟩) | (go_at_call 10; (with_reducible refine (mv_5_false _).mono ?_); rintro e w' ⟨rfl, hb⟩) | (go_at_call 10; (with_reducible refine (mv_6_false _).mono ?_); rintro e w' ⟨rfl, hb⟩) | (go_at_call 10; (with_reducible refine (mv_3_true _).mono ?_); rintro e w' ⟨rfl, hb⟩) | (go_at_call 10; (with_reducible refine (mv_6_true _).mono ?_); rintro e w' ⟨rfl, hb⟩) | (go_at_call 14; (with_reducible refine (at_5 _).mono ?_); rintro e w' ⟨rfl, hb⟩) | (go_at_call 14; (with_reducible refine (at_2 _).mono ?_); rintro e w' ⟨rfl, hb⟩) | (go_at_call 14; (with_reducible refine (at_3 _).mono ?_); rintro e w' ⟨rfl, hb⟩) | (go_at_call 14; (with_reducible refine (at_7 _).mono ?_); rintro e w' ⟨rfl, hb⟩) | (go_at_call 14; (with_reducible refine (at_6 _).mono ?_); rintro e w' ⟨rfl, hb⟩) | (go_at_call 15; (with_reducible refine (right_3 _).mono ?_); rintro e w' ⟨rfl, hb⟩) | (go_at_call 15; (with_reducible refine (right_6 _).mono ?_); rintro e w' ⟨rfl, hb⟩) | (go_at_call 15; (with_reducible refine (right_7 _).mono ?_); rintro e w' ⟨rfl, hb⟩) | (go_at_call 15; (with_reducible refine (right_5 _).mono ?_); rintro e w' ⟨rfl, hb⟩)))
    all_goals
      go_wp2
      go_ret
      exact ⟨rfl, below_step HB.out (show Held4 W g gg _ from (by assumption)).2.2.2.2.2.2.2.out.2.2⟩
end Go.Proofs.Ytgmgihnagpmfcaa.PA
