import Derived.Test.YtkaedhooccpniaaHandUse
import Derived.Test.YtkaedhooccpniaaPureJoin
import Derived.Test.YtkaedhooccpniaaPAx3
/- awake: the examples of the chapter hold; by hand. -/
namespace Go.Proofs.Ytkaedhooccpniaa.Hand
open Go.RowKit Go.Proofs.YtkaedhooccpniaaW.PrintWords Go.Proofs.YtkaedhooccpniaaW.PrintLast Go.Proofs.YtkaedhooccpniaaW.PrintMore Go.Proofs.Ytkaedhooccpniaa.PA
set_option linter.unusedVariables false
set_option linter.unusedSimpArgs false
def ex0 : List ByteArray := [⟨#[97]⟩, ⟨#[98]⟩]
def ex1 : List ByteArray := [⟨#[83]⟩, ⟨#[65]⟩]
def exR : List S41 := [⟨0, [-2, -1, 1], 0⟩, ⟨0, [-2], 0⟩, ⟨1, [0], 0⟩, ⟨1, [], 0⟩]
theorem ex_gv : GV ex0.length ex1.length 0 exR := by
  refine ⟨by decide, by decide, by decide, by decide, by decide, by decide, ?_, ?_, ?_⟩
  · decide
  · decide
  · decide
theorem ex_null : heads.f false 20 ex0 ex1 0 exR = some [true, true] := by kernel_rfl
theorem ex_prod : heads.f true 20 ex0 ex1 0 exR = some [true, true] := by kernel_rfl
theorem ex_reach : reach.f 20 ex0 ex1 0 exR = some [true, true] := by kernel_rfl
theorem ex_cyc : cycF [true, true] ex1.length exR = [false, false] := by kernel_rfl
def exF : List (List Bool) := [[false, true, true], [false, true, false]]
def exO : List (List Bool) := [[true, false, true], [true, true, true]]
theorem ex_first : run (firstStep (ex0.length + 1) [true, true]) exR 20 (noSets ex1.length (ex0.length + 1)) = some exF := by kernel_rfl
theorem ex_fol : run (folStep (ex0.length + 1) [true, true] exF) exR 20 (folInit ex1.length (ex0.length + 1) 0) = some exO := by kernel_rfl
theorem ex_firstL : listsOf exF ex1.length 0 ex0.length = [[0, 1], [0]] := by kernel_rfl
theorem ex_folL : listsOf exO ex1.length (-1) ex0.length = [[-1, 1], [-1, 0, 1]] := by kernel_rfl
section
variable {A0 : Option Addr} {c0 : Nat} {A1 : Option Addr} {c1 : Nat} {A3 : Option Addr} {c3 : Nat} {W : World}
def exV (A0 : Option Addr) (c0 : Nat) (A1 : Option Addr) (c1 : Nat) (A3 : Option Addr) (c3 : Nat) : Value := .agg #[.slice A0 2 c0, .slice A1 2 c1, .int .i64 0, .slice A3 4 c3]
theorem ex13 (h : GA A0 c0 ex0 A1 c1 ex1 A3 c3 exR W) : Calls Try.prog 13 #[.agg #[.slice A0 2 c0, .slice A1 2 c1, .int .i64 0, .slice A3 4 c3]] W (RetB 2 [true, true] W) := use13 h rfl ⟨20, ex_null⟩
theorem ex15 (h : GA A0 c0 ex0 A1 c1 ex1 A3 c3 exR W) : Calls Try.prog 15 #[.agg #[.slice A0 2 c0, .slice A1 2 c1, .int .i64 0, .slice A3 4 c3]] W (RetB 2 [true, true] W) := use15 h rfl ⟨20, ex_prod⟩
theorem ex17 (h : GA A0 c0 ex0 A1 c1 ex1 A3 c3 exR W) : Calls Try.prog 17 #[.agg #[.slice A0 2 c0, .slice A1 2 c1, .int .i64 0, .slice A3 4 c3]] W (RetB 2 [true, true] W) := use17 h rfl ⟨20, ex_reach⟩
theorem ex19 (h : GA A0 c0 ex0 A1 c1 ex1 A3 c3 exR W) : Calls Try.prog 19 #[.agg #[.slice A0 2 c0, .slice A1 2 c1, .int .i64 0, .slice A3 4 c3]] W (RetB 2 [false, false] W) := by
  have := use19 h (by decide) (gok_of ex_gv.gok).2.2.2 ex_gv.bl rfl ⟨20, ex_null⟩
  rw [ex_cyc] at this
  exact this
theorem ex22 (h : GA A0 c0 ex0 A1 c1 ex1 A3 c3 exR W) : Calls Try.prog 22 #[.agg #[.slice A0 2 c0, .slice A1 2 c1, .int .i64 0, .slice A3 4 c3]] W (RetL 2 [[0, 1], [0]] W) := by
  have := use22 h ex_gv.tok (by decide) ⟨20, ex_null, ex_first⟩
  rw [ex_firstL] at this
  exact this
theorem ex24 (h : GA A0 c0 ex0 A1 c1 ex1 A3 c3 exR W) : Calls Try.prog 24 #[.agg #[.slice A0 2 c0, .slice A1 2 c1, .int .i64 0, .slice A3 4 c3]] W (RetL 2 [[-1, 1], [-1, 0, 1]] W) := by
  have := use24 h ex_gv.tok (by decide) ⟨20, ex_null, ex_first, ex_fol⟩
  rw [ex_folL] at this
  exact this
theorem ex32 (w : World) : Calls Try.prog 32 #[] w fun e w' => ∃ A0 c0 A1 c1 A3 c3, e = .returned (.agg #[.slice A0 2 c0, .slice A1 2 c1, .int .i64 0, .slice A3 4 c3]) ∧ Aside0 (GA A0 c0 ex0 A1 c1 ex1 A3 c3 exR w') ∧ Below w.heap.size w w' := by
  refine (emendatelaw21_example.calls ex0 ex1 0 exR w rfl).mono ?_
  rintro e w' ⟨v0, v1, v3, rfl, hR0, hR1, hN3, hb⟩
  obtain ⟨A0, c0, rfl, h0, C0⟩ := Kd.R_reads hR0
  obtain ⟨A1, c1, rfl, h1, C1⟩ := Kd.R_reads hR1
  obtain ⟨A3, c3, rfl, h3, C3⟩ := Kd.N_reads hN3
  exact ⟨A0, c0, A1, c1, A3, c3, rfl, ⟨⟨C0, h0, C1, h1, C3, h3⟩⟩, hb⟩
theorem Cb2 {b : Nat} {x y : Bool} {t : Nat} (h : W.heap[b]? = some (.cells #[.bool x, .bool y] t (0, 0))) : Kd.C Kd.bool W (some ⟨b, 0, none⟩) 2 [x, y] := C_bools (xs := [x, y]) h (by simp)
end
theorem C_ints {w : World} {b : Nat} {xs : List Int} {t : Nat} (h : w.heap[b]? = some (.cells (xs.map (Value.int .i64)).toArray t (0, 0))) (hm : xs.length ≤ 1000000) : Kd.C (Kd.int .i64) w (some ⟨b, 0, none⟩) xs.length xs := by
  refine ⟨rfl, by omega, fun _ => ⟨_, rfl, fun j p hj => ⟨[.int .i64 p], rfl, rfl, fun i u hu => ?_⟩⟩⟩
  match i, hu with
  | 0, hu =>
    have := cell_of_block h j (.int .i64 p) (by simp [hj])
    obtain rfl : Value.int .i64 p = u := by simpa using hu
    have e : Addr.add ⟨b, 0, none⟩ (j * (Kd.int .i64).sz + 0) = ⟨b, j, none⟩ := by
      simp [Addr.add, Kd.int, Kd.scalar]
      intro h; exact h.symm
    rw [e]
    exact this
theorem CL2 {w : World} {b : Nat} {A0 A1 : Option Addr} {n0 n1 c0 c1 t : Nat} {x0 x1 : List Int} (h : w.heap[b]? = some (.cells #[.slice A0 n0 c0, .slice A1 n1 c1] t (0, 0))) (h0 : Kd.C (Kd.int .i64) w A0 n0 x0) (l0 : n0 ≤ c0) (h1 : Kd.C (Kd.int .i64) w A1 n1 x1) (l1 : n1 ≤ c1) :
    Kd.C (Kd.slice 3 (Kd.int .i64)) w (some ⟨b, 0, none⟩) 2 [x0, x1] := by
  have e0 := h0.1
  have e1 := h1.1
  refine ⟨rfl, by omega, fun _ => ⟨_, rfl, fun j p hj => ?_⟩⟩
  match j, hj with
  | 0, hj =>
    obtain rfl : x0 = p := by simpa using hj
    refine ⟨[.slice A0 n0 c0], rfl, ⟨A0, c0, by rw [e0], by omega, by rw [e0]; exact h0⟩, fun i u hu => ?_⟩
    match i, hu with
    | 0, hu => exact cell_of_block h 0 u (by simpa using hu)
  | 1, hj =>
    obtain rfl : x1 = p := by simpa using hj
    refine ⟨[.slice A1 n1 c1], rfl, ⟨A1, c1, by rw [e1], by omega, by rw [e1]; exact h1⟩, fun i u hu => ?_⟩
    match i, hu with
    | 0, hu => exact cell_of_block h 1 u (by simpa using hu)
set_option maxHeartbeats 4000000 in
set_option maxRecDepth 100000 in
theorem awake_calls (w : World) : Calls Try.prog 10 #[] w fun e w' => e = .returned (.bool true) ∧ Below w.heap.size w w' := by
  have hu25 := Try.underlying25
  have hu29 := Try.underlying29
  have hu32 := Try.underlying32
  have hu39 := Try.underlying39
  have hex := ex32 w
  go_enter Try.func10, Try.ntmps10
  go_wp2_with fail
  (with_reducible refine hex.mono ?_)
  rintro e w1 ⟨A0, c0, A1, c1, A3, c3, rfl, HG, hb1⟩
  have HB1 := Aside0.mk hb1
  clear hex hb1
  dsimp only
  go_wp2_with fail
  obtain ⟨gb, hgb⟩ : ∃ gb, gb = w1.heap.size := ⟨_, rfl⟩
  obtain ⟨wa, hwa⟩ : ∃ wa : World, wa = ((w1.alloc (Obj.cells #[Value.slice A0 2 c0, Value.slice A1 2 c1, Value.int IntKind.i64 0, Value.slice A3 4 c3] 25)).alloc (Obj.cells #[Value.bool true, Value.bool true] 4)).alloc (Obj.cells #[Value.bool false, Value.bool false] 4) := ⟨_, rfl⟩
  rw [← hwa, ← hgb]
  have BG : wa.heap[gb]? = some (Obj.cells #[Value.slice A0 2 c0, Value.slice A1 2 c1, Value.int IntKind.i64 0, Value.slice A3 4 c3] 25 (0, 0)) := by rw [hwa]; exact blk_old (blk_old (blk_new hgb))
  have BY : wa.heap[gb + 1]? = some (Obj.cells #[Value.bool true, Value.bool true] 4 (0, 0)) := by rw [hwa]; exact blk_old (blk_new (by rw [hgb]; simp))
  have BN : wa.heap[gb + 1 + 1]? = some (Obj.cells #[Value.bool false, Value.bool false] 4 (0, 0)) := by rw [hwa]; exact blk_new (by rw [hgb]; simp)
  have HBG := Aside0.mk BG
  have HY := Aside0.mk (Cb2 BY)
  have HN := Aside0.mk (Cb2 BN)
  have hb1a : Below w1.heap.size w1 wa := by rw [hwa]; exact below_alloc (below_alloc (below_alloc (Below.refl _ _) _) _) _
  have HGA := Aside0.mk (HG.out.below hb1a)
  have HBA := Aside0.mk (below_step HB1.out hb1a)
  have HB0 := Aside0.mk (Below.refl wa.heap.size wa)
  clear hwa hgb BG BY BN hb1a HG HB1
  have hc0 := ex13 (HGA.out.below HB0.out)
  (with_reducible refine hc0.mono ?_)
  rintro e u0 ⟨A0_, c0_, rfl, HR0, hb⟩
  have HC0 := Aside0.mk (below_step HB0.out hb)
  clear hc0 hb HB0
  dsimp only
  go_wp2_with fail
  have hd0 := use12 (by decide) HR0.out.1 HR0.out.2 (Kd.C_below HY.out HC0.out) (Nat.le_refl _)
  (with_reducible refine hd0.mono ?_)
  rintro e v0 ⟨rfl, hb⟩
  have HB1 := Aside0.mk (below_step HC0.out hb)
  obtain ⟨g0, g1, g2, g3, -⟩ := GbT.of HBG.out HB1.out
  clear hd0 hb HC0 HR0
  dsimp only
  go_wp2_with fail
  clear g0 g1 g2 g3
  have hc1 := ex15 (HGA.out.below HB1.out)
  (with_reducible refine hc1.mono ?_)
  rintro e u1 ⟨A1_, c1_, rfl, HR1, hb⟩
  have HC1 := Aside0.mk (below_step HB1.out hb)
  clear hc1 hb HB1
  dsimp only
  go_wp2_with fail
  have hd1 := use12 (by decide) HR1.out.1 HR1.out.2 (Kd.C_below HY.out HC1.out) (Nat.le_refl _)
  (with_reducible refine hd1.mono ?_)
  rintro e v1 ⟨rfl, hb⟩
  have HB2 := Aside0.mk (below_step HC1.out hb)
  obtain ⟨g0, g1, g2, g3, -⟩ := GbT.of HBG.out HB2.out
  clear hd1 hb HC1 HR1
  dsimp only
  go_wp2_with fail
  clear g0 g1 g2 g3
  have hc2 := ex17 (HGA.out.below HB2.out)
  (with_reducible refine hc2.mono ?_)
  rintro e u2 ⟨A2_, c2_, rfl, HR2, hb⟩
  have HC2 := Aside0.mk (below_step HB2.out hb)
  clear hc2 hb HB2
  dsimp only
  go_wp2_with fail
  have hd2 := use12 (by decide) HR2.out.1 HR2.out.2 (Kd.C_below HY.out HC2.out) (Nat.le_refl _)
  (with_reducible refine hd2.mono ?_)
  rintro e v2 ⟨rfl, hb⟩
  have HB3 := Aside0.mk (below_step HC2.out hb)
  obtain ⟨g0, g1, g2, g3, -⟩ := GbT.of HBG.out HB3.out
  clear hd2 hb HC2 HR2
  dsimp only
  go_wp2_with fail
  clear g0 g1 g2 g3
  have hc3 := ex19 (HGA.out.below HB3.out)
  (with_reducible refine hc3.mono ?_)
  rintro e u3 ⟨A3_, c3_, rfl, HR3, hb⟩
  have HC3 := Aside0.mk (below_step HB3.out hb)
  clear hc3 hb HB3
  dsimp only
  go_wp2_with fail
  have hd3 := use12 (by decide) HR3.out.1 HR3.out.2 (Kd.C_below HN.out HC3.out) (Nat.le_refl _)
  (with_reducible refine hd3.mono ?_)
  rintro e v3 ⟨rfl, hb⟩
  have HB4 := Aside0.mk (below_step HC3.out hb)
  obtain ⟨g0, g1, g2, g3, -⟩ := GbT.of HBG.out HB4.out
  clear hd3 hb HC3 HR3
  dsimp only
  go_wp2_with fail
  clear g0 g1 g2 g3
  have hc4 := ex22 (HGA.out.below HB4.out)
  (with_reducible refine hc4.mono ?_)
  rintro e u4 ⟨A4_, c4_, rfl, HR4, hb⟩
  have HC4 := Aside0.mk (below_step HB4.out hb)
  clear hc4 hb HB4
  dsimp only
  go_wp2_with fail
  obtain ⟨x4, hx4⟩ : ∃ x, x = u4.heap.size := ⟨_, rfl⟩
  obtain ⟨y4, hy4⟩ : ∃ y : World, y = ((u4.alloc (Obj.cells #[Value.int IntKind.i64 0, Value.int IntKind.i64 1] 3)).alloc (Obj.cells #[Value.int IntKind.i64 0] 3)).alloc (Obj.cells #[Value.slice (some ⟨x4, 0, none⟩) 2 2, Value.slice (some ⟨x4 + 1, 0, none⟩) 1 1] 39) := ⟨_, rfl⟩
  rw [← hx4]
  rw [← hy4]
  have I0 : y4.heap[x4]? = some (Obj.cells #[Value.int IntKind.i64 0, Value.int IntKind.i64 1] 3 (0, 0)) := by rw [hy4]; exact blk_old (blk_old (blk_new hx4))
  have I1 : y4.heap[x4 + 1]? = some (Obj.cells #[Value.int IntKind.i64 0] 3 (0, 0)) := by rw [hy4]; exact blk_old (blk_new (by rw [hx4]; simp))
  have I2 : y4.heap[x4 + 1 + 1]? = some (Obj.cells #[Value.slice (some ⟨x4, 0, none⟩) 2 2, Value.slice (some ⟨x4 + 1, 0, none⟩) 1 1] 39 (0, 0)) := by rw [hy4]; exact blk_new (by rw [hx4]; simp)
  have hby : Below u4.heap.size u4 y4 := by rw [hy4]; exact below_alloc (below_alloc (below_alloc (Below.refl _ _) _) _) _
  have hd4 := use21 (ls := [[0, 1], [0]]) (by decide) (by decide) (Kd.C_below HR4.out.1 hby) HR4.out.2 (CL2 I2 (C_ints (xs := [0, 1]) I0 (by decide)) (Nat.le_refl _) (C_ints (xs := [0]) I1 (by decide)) (Nat.le_refl _)) (Nat.le_refl _)
  have HE4 := Aside0.mk (below_step HC4.out hby)
  clear hx4 hy4 I0 I1 I2 hby HC4
  (with_reducible refine hd4.mono ?_)
  rintro e v4 ⟨rfl, hb⟩
  have HB5 := Aside0.mk (below_step HE4.out hb)
  obtain ⟨g0, g1, g2, g3, -⟩ := GbT.of HBG.out HB5.out
  clear hd4 hb HE4 HR4
  dsimp only
  go_wp2_with fail
  clear g0 g1 g2 g3
  have hc5 := ex24 (HGA.out.below HB5.out)
  (with_reducible refine hc5.mono ?_)
  rintro e u5 ⟨A5_, c5_, rfl, HR5, hb⟩
  have HC5 := Aside0.mk (below_step HB5.out hb)
  clear hc5 hb HB5
  dsimp only
  go_wp2_with fail
  obtain ⟨x5, hx5⟩ : ∃ x, x = u5.heap.size := ⟨_, rfl⟩
  obtain ⟨y5, hy5⟩ : ∃ y : World, y = ((u5.alloc (Obj.cells #[Value.int IntKind.i64 (-1), Value.int IntKind.i64 1] 3)).alloc (Obj.cells #[Value.int IntKind.i64 (-1), Value.int IntKind.i64 0, Value.int IntKind.i64 1] 3)).alloc (Obj.cells #[Value.slice (some ⟨x5, 0, none⟩) 2 2, Value.slice (some ⟨x5 + 1, 0, none⟩) 3 3] 39) := ⟨_, rfl⟩
  rw [← hx5]
  rw [← hy5]
  have I0 : y5.heap[x5]? = some (Obj.cells #[Value.int IntKind.i64 (-1), Value.int IntKind.i64 1] 3 (0, 0)) := by rw [hy5]; exact blk_old (blk_old (blk_new hx5))
  have I1 : y5.heap[x5 + 1]? = some (Obj.cells #[Value.int IntKind.i64 (-1), Value.int IntKind.i64 0, Value.int IntKind.i64 1] 3 (0, 0)) := by rw [hy5]; exact blk_old (blk_new (by rw [hx5]; simp))
  have I2 : y5.heap[x5 + 1 + 1]? = some (Obj.cells #[Value.slice (some ⟨x5, 0, none⟩) 2 2, Value.slice (some ⟨x5 + 1, 0, none⟩) 3 3] 39 (0, 0)) := by rw [hy5]; exact blk_new (by rw [hx5]; simp)
  have hby : Below u5.heap.size u5 y5 := by rw [hy5]; exact below_alloc (below_alloc (below_alloc (Below.refl _ _) _) _) _
  have hd5 := use21 (ls := [[-1, 1], [-1, 0, 1]]) (by decide) (by decide) (Kd.C_below HR5.out.1 hby) HR5.out.2 (CL2 I2 (C_ints (xs := [-1, 1]) I0 (by decide)) (Nat.le_refl _) (C_ints (xs := [-1, 0, 1]) I1 (by decide)) (Nat.le_refl _)) (Nat.le_refl _)
  have HE5 := Aside0.mk (below_step HC5.out hby)
  clear hx5 hy5 I0 I1 I2 hby HC5
  (with_reducible refine hd5.mono ?_)
  rintro e v5 ⟨rfl, hb⟩
  have HB6 := Aside0.mk (below_step HE5.out hb)
  clear hd5 hb HE5 HR5
  dsimp only
  go_wp2_with fail
  go_ret
  exact ⟨rfl, below_step HBA.out HB6.out⟩
end Go.Proofs.Ytkaedhooccpniaa.Hand
