import Derived.Test.YtcigcacjjdpgfaaHandG3
import Derived.Test.YtcigcacjjdpgfaaHandG1
import Derived.Test.YtcigcacjjdpgfaaOpensT
/- awake: the example of the chapter holds; by hand. -/
namespace Go.Proofs.Ytcigcacjjdpgfaa.Hand
open Go.RowKit Go.Proofs.YtcigcacjjdpgfaaW.PrintWords Go.Proofs.YtcigcacjjdpgfaaW.PrintLast Go.Proofs.YtcigcacjjdpgfaaW.PrintMore Go.Proofs.Ytcigcacjjdpgfaa.PA
set_option linter.unusedVariables false
set_option linter.unusedSimpArgs false
def exL : List S51 := [⟨0, [0, 7], 5⟩, ⟨-1, [-1, 9], 8⟩]
theorem ex_of : ofT [0, -1] [[], [⟨1, 9⟩]] [3, 4] [5, 6] [[0, 7], [-1, 0]] 2 8 = (exL, [3, 4], 2, 0) := by rfl
theorem ex_rep : repT exL [3, 4] 2 0 1 0 [] = ([⟨-1, [-1, 9], 8⟩], [3, 4], 2, 0) := by rfl
theorem ex_v2 : validB exL [3, 4] 2 2 = true := by rfl
theorem ex_v3 : validB exL [3, 4] 2 3 = false := by rfl
theorem C_ints {w : World} {b : Nat} {xs : List Int} {t : Nat} (h : w.heap[b]? = some (.cells (xs.map (Value.int .i64)).toArray t (0, 0))) (hm : xs.length ≤ 1000000) : Kd.C (Kd.int .i64) w (some ⟨b, 0, none⟩) xs.length xs := by
  refine ⟨rfl, by omega, fun _ => ⟨_, rfl, fun j p hj => ⟨[.int .i64 p], rfl, rfl, fun i u hu => ?_⟩⟩⟩
  match i, hu with
  | 0, hu =>
    have := cell_of_block h j (.int .i64 p) (by simp [hj])
    obtain rfl : Value.int .i64 p = u := by simpa using hu
    have e : Addr.add ⟨b, 0, none⟩ (j * (Kd.int .i64).sz + 0) = ⟨b, j, none⟩ := by
      simp [Addr.add, Kd.int, Kd.scalar]
      intro h; exact h.symm
    rw [e]
    exact this
theorem C53_one {w : World} {b : Nat} {x y : Int} (h : w.heap[b]? = some (.cells #[.int .i64 x, .int .i64 y] 53 (0, 0))) : Kd.C k53 w (some ⟨b, 0, none⟩) 1 [⟨x, y⟩] := by
  refine ⟨rfl, by omega, fun _ => ⟨_, rfl, fun j p hj => ?_⟩⟩
  match j, hj with
  | 0, hj =>
    obtain rfl : (⟨x, y⟩ : S53) = p := by simpa using hj
    refine ⟨[.int .i64 x, .int .i64 y], rfl, k53_mk _ _, fun i u hu => ?_⟩
    match i, hu with
    | 0, hu => exact cell_of_block h 0 u (by simpa using hu)
    | 1, hu => exact cell_of_block h 1 u (by simpa using hu)
theorem C54_two {w : World} {b : Nat} {A0 A1 : Option Addr} {n0 n1 c0 c1 t : Nat} {x0 x1 : List S53} (h : w.heap[b]? = some (.cells #[.slice A0 n0 c0, .slice A1 n1 c1] t (0, 0))) (h0 : Kd.C k53 w A0 n0 x0) (l0 : n0 ≤ c0) (h1 : Kd.C k53 w A1 n1 x1) (l1 : n1 ≤ c1) :
    Kd.C (Kd.slice 53 k53) w (some ⟨b, 0, none⟩) 2 [x0, x1] := by
  have e0 := h0.1
  have e1 := h1.1
  refine ⟨rfl, by omega, fun _ => ⟨_, rfl, fun j p hj => ?_⟩⟩
  match j, hj with
  | 0, hj =>
    obtain rfl : x0 = p := by simpa using hj
    refine ⟨[.slice A0 n0 c0], rfl, ⟨A0, c0, by rw [e0], by omega, by rw [e0]; exact h0⟩, fun i u hu => ?_⟩
    match i, hu with
    | 0, hu => exact cell_of_block h 0 u (by simpa using hu)
  | 1, hj =>
    obtain rfl : x1 = p := by simpa using hj
    refine ⟨[.slice A1 n1 c1], rfl, ⟨A1, c1, by rw [e1], by omega, by rw [e1]; exact h1⟩, fun i u hu => ?_⟩
    match i, hu with
    | 0, hu => exact cell_of_block h 1 u (by simpa using hu)
theorem blk_old {w : World} {o x : Obj} {b : Nat} (h : w.heap[b]? = some x) : (w.alloc o).heap[b]? = some x := blk_Kp (S := fun _ => False) h (Kp.of_below (below_alloc (Below.refl _ _) _)) (fun h => h)
theorem C51_two {w : World} {b : Nat} {A0 A1 : Option Addr} {n0 n1 c0 c1 : Nat} {k0 k1 d0 d1 : Int} {x0 x1 : List Int} (h : w.heap[b]? = some (.cells #[.int .i64 k0, .slice A0 n0 c0, .int .i64 d0, .int .i64 k1, .slice A1 n1 c1, .int .i64 d1] 51 (0, 0)))
    (h0 : Kd.C (Kd.int .i64) w A0 n0 x0) (l0 : n0 ≤ c0) (h1 : Kd.C (Kd.int .i64) w A1 n1 x1) (l1 : n1 ≤ c1) : Kd.C k51 w (some ⟨b, 0, none⟩) 2 [⟨k0, x0, d0⟩, ⟨k1, x1, d1⟩] := by
  have e0 := h0.1
  have e1 := h1.1
  subst e0 e1
  refine ⟨rfl, by omega, fun _ => ⟨_, rfl, fun j p hj => ?_⟩⟩
  match j, hj with
  | 0, hj =>
    obtain rfl : (⟨k0, x0, d0⟩ : S51) = p := by simpa using hj
    refine ⟨_, rfl, k51_mk w ⟨k0, x0, d0⟩ l0 h0, fun i u hu => ?_⟩
    match i, hu with
    | 0, hu => exact cell_of_block h 0 u (by simpa using hu)
    | 1, hu => exact cell_of_block h 1 u (by simpa using hu)
    | 2, hu => exact cell_of_block h 2 u (by simpa using hu)
  | 1, hj =>
    obtain rfl : (⟨k1, x1, d1⟩ : S51) = p := by simpa using hj
    refine ⟨_, rfl, k51_mk w ⟨k1, x1, d1⟩ l1 h1, fun i u hu => ?_⟩
    match i, hu with
    | 0, hu => exact cell_of_block h 3 u (by simpa using hu)
    | 1, hu => exact cell_of_block h 4 u (by simpa using hu)
    | 2, hu => exact cell_of_block h 5 u (by simpa using hu)
set_option maxHeartbeats 4000000 in
set_option maxRecDepth 100000 in
theorem awake_calls (w : World) : Calls Try.prog 10 #[] w fun e w' => e = .returned (.bool true) ∧ Below w.heap.size w w' := by
  have hu25 := Try.underlying25
  have hu34 := Try.underlying34
  have hu53 := Try.underlying53
  have hu51 := Try.underlying51
  have hu45 := Try.underlying45
  have hu38 := Try.underlying38
  go_enter Try.func10, Try.ntmps10
  go_wp2_with fail
  obtain ⟨b, hb⟩ : ∃ b, b = w.heap.size := ⟨_, rfl⟩
  rw [← hb]
  obtain ⟨w1, hw1⟩ : ∃ w1 : World, w1 = ((w.alloc (Obj.cells #[Value.int IntKind.i64 0, Value.int IntKind.i64 (-1)] 3)).alloc (Obj.cells #[Value.int IntKind.i64 1, Value.int IntKind.i64 9] 53)).alloc (Obj.cells #[Value.slice none 0 0, Value.slice (some { block := b + 1, off := 0 }) 1 1] 54) := ⟨_, rfl⟩
  rw [← hw1]
  have B0 : w1.heap[b]? = some (Obj.cells #[Value.int IntKind.i64 0, Value.int IntKind.i64 (-1)] 3 (0, 0)) := by rw [hw1]; exact blk_Kp (S := fun _ => False) (blk_Kp (S := fun _ => False) (blk_new hb) (Kp.of_below (below_alloc (Below.refl _ _) _)) (fun h => h)) (Kp.of_below (below_alloc (Below.refl _ _) _)) (fun h => h)
  have B1 : w1.heap[b + 1]? = some (Obj.cells #[Value.int IntKind.i64 1, Value.int IntKind.i64 9] 53 (0, 0)) := by rw [hw1]; exact blk_Kp (S := fun _ => False) (blk_new (by rw [hb]; simp)) (Kp.of_below (below_alloc (Below.refl _ _) _)) (fun h => h)
  have B2 : w1.heap[b + 1 + 1]? = some (Obj.cells #[Value.slice none 0 0, Value.slice (some { block := b + 1, off := 0 }) 1 1] 54 (0, 0)) := by rw [hw1]; exact blk_new (by rw [hb]; simp)
  have HB1 := Aside0.mk (show Below w.heap.size w w1 by rw [hw1]; exact below_alloc (below_alloc (below_alloc (Below.refl _ _) _) _) _)
  have hex := emendatelaw35_example.calls [3, 4] [5, 6] [[0, 7], [-1, 0]] 2 8 w1 rfl
  have HK := Aside0.mk (C_ints (xs := [0, -1]) B0 (by decide))
  have HC := Aside0.mk (C54_two B2 (Kd.C_nil k53 w1) (Nat.le_refl _) (C53_one B1) (Nat.le_refl _))
  clear hw1 hb B0 B1 B2
  (with_reducible refine hex.mono ?_)
  rintro e w2 ⟨v0, v1, v2, rfl, hR0, hR1, hN2, hb2⟩
  obtain ⟨A0, c0, e0, l0, C0⟩ := Kd.R_reads hR0
  obtain ⟨A1, c1, e1, l1, C1⟩ := Kd.R_reads hR1
  obtain ⟨A2, c2, e2, l2, C2⟩ := Kd.N_reads hN2
  subst e0 e1 e2
  have hof := of_calls (some ⟨b, 0, none⟩) 2 [0, -1] (some ⟨b + 1 + 1, 0, none⟩) 2 [[], [⟨1, 9⟩]] A0 A1 A2 c0 c1 c2 [3, 4] [5, 6] [[0, 7], [-1, 0]] 2 8 w2 (Kd.C_below HK.out hb2) (by decide) (Kd.C_below HC.out hb2) (by intro l hl; simp at hl; rcases hl with rfl | rfl <;> simp) C0 l0 C1 l1 C2 l2 (by decide)
  rw [ex_of] at hof
  change Calls Try.prog 15 #[.slice (some ⟨b, 0, none⟩) 2 2, .slice (some ⟨b + 1 + 1, 0, none⟩) 2 2, .agg #[.slice A0 2 c0, .slice A1 2 c1, .slice A2 2 c2, .int .i64 2, .int .i64 8]] w2 _ at hof
  have HB2 := Aside0.mk (below_step HB1.out hb2)
  clear hex hR0 hR1 hN2 hb2 C0 C1 C2 l0 l1 l2 HK HC HB1
  dsimp only
  go_wp2_with fail
  (with_reducible refine hof.mono ?_)
  rintro e w3 ⟨u0, u1, rfl, hU0, hU1, hb3⟩
  obtain ⟨A4, c4, e4, l4, C4⟩ := hU0
  obtain ⟨A5, c5, e5, l5, C5⟩ := hU1
  subst e4 e5
  have HB3 := Aside0.mk (below_step HB2.out hb3)
  have H4 := Aside0.mk (And.intro C4 l4)
  have H5 := Aside0.mk (And.intro C5 l5)
  clear hof hb3 C4 l4 C5 l5 HB2
  dsimp only
  go_wp2_with fail
  obtain ⟨g, hg⟩ : ∃ g, g = w3.heap.size := ⟨_, rfl⟩
  rw [← hg]
  obtain ⟨w4, hw4⟩ : ∃ w4 : World, w4 = ((((((w3.alloc (Obj.cells #[Value.slice A4 exL.length c4, Value.slice A5 2 c5, Value.int IntKind.i64 2] 25)).alloc (Obj.cells #[Value.int IntKind.i64 0, Value.int IntKind.i64 7] 3)).alloc (Obj.cells #[Value.int IntKind.i64 (-1), Value.int IntKind.i64 9] 3)).alloc
    (Obj.cells #[Value.int IntKind.i64 0, Value.slice (some { block := g + 1, off := 0 }) 2 2, Value.int IntKind.i64 5, Value.int IntKind.i64 (-1), Value.slice (some { block := g + 1 + 1, off := 0 }) 2 2, Value.int IntKind.i64 8] 51)).alloc (Obj.cells #[Value.int IntKind.i64 3, Value.int IntKind.i64 4] 3)).alloc
    (Obj.cells #[Value.slice (some { block := g + 1 + 1 + 1, off := 0 }) 2 2, Value.slice (some { block := g + 1 + 1 + 1 + 1, off := 0 }) 2 2, Value.int IntKind.i64 2] 25)) := ⟨_, rfl⟩
  rw [← hw4]
  have B1 : w4.heap[g]? = some (Obj.cells #[Value.slice A4 exL.length c4, Value.slice A5 2 c5, Value.int IntKind.i64 2] 25 (0, 0)) := by rw [hw4]; exact blk_old (blk_old (blk_old (blk_old (blk_old (blk_new hg)))))
  have B2 : w4.heap[g + 1]? = some (Obj.cells #[Value.int IntKind.i64 0, Value.int IntKind.i64 7] 3 (0, 0)) := by rw [hw4]; exact blk_old (blk_old (blk_old (blk_old (blk_new (by rw [hg]; simp)))))
  have B3 : w4.heap[g + 1 + 1]? = some (Obj.cells #[Value.int IntKind.i64 (-1), Value.int IntKind.i64 9] 3 (0, 0)) := by rw [hw4]; exact blk_old (blk_old (blk_old (blk_new (by rw [hg]; simp))))
  have B4 : w4.heap[g + 1 + 1 + 1]? = some (Obj.cells #[Value.int IntKind.i64 0, Value.slice (some { block := g + 1, off := 0 }) 2 2, Value.int IntKind.i64 5, Value.int IntKind.i64 (-1), Value.slice (some { block := g + 1 + 1, off := 0 }) 2 2, Value.int IntKind.i64 8] 51 (0, 0)) := by rw [hw4]; exact blk_old (blk_old (blk_new (by rw [hg]; simp)))
  have B5 : w4.heap[g + 1 + 1 + 1 + 1]? = some (Obj.cells #[Value.int IntKind.i64 3, Value.int IntKind.i64 4] 3 (0, 0)) := by rw [hw4]; exact blk_old (blk_new (by rw [hg]; simp))
  have B6 : w4.heap[g + 1 + 1 + 1 + 1 + 1]? = some (Obj.cells #[Value.slice (some { block := g + 1 + 1 + 1, off := 0 }) 2 2, Value.slice (some { block := g + 1 + 1 + 1 + 1, off := 0 }) 2 2, Value.int IntKind.i64 2] 25 (0, 0)) := by rw [hw4]; exact blk_new (by rw [hg]; simp)
  have hb34 : Below w3.heap.size w3 w4 := by rw [hw4]; exact below_alloc (below_alloc (below_alloc (below_alloc (below_alloc (below_alloc (Below.refl _ _) _) _) _) _) _) _
  have HB4 := Aside0.mk (below_step HB3.out hb34)
  have HX := Aside0.mk (show Kd.C k51 w4 (some ⟨g + 1 + 1 + 1, 0, none⟩) 2 exL from C51_two B4 (C_ints (xs := [0, 7]) B2 (by decide)) (Nat.le_refl _) (C_ints (xs := [-1, 9]) B3 (by decide)) (Nat.le_refl _))
  have HI := Aside0.mk (C_ints (xs := [3, 4]) B5 (by decide))
  have hrep := replace_calls (some ⟨g + 1 + 1 + 1, 0, none⟩) 2 exL (some ⟨g + 1 + 1 + 1 + 1, 0, none⟩) 2 [3, 4] 2 0 1 0 none 0 [] w4 HX.out (Nat.le_refl _) HI.out (Nat.le_refl _) (Kd.C_nil _ _) (Nat.le_refl _) (by decide) (by decide)
  rw [ex_rep] at hrep
  change Calls Try.prog 19 #[.agg #[.slice (some ⟨g + 1 + 1 + 1, 0, none⟩) 2 2, .slice (some ⟨g + 1 + 1 + 1 + 1, 0, none⟩) 2 2, .int .i64 2], .agg #[.int .i64 0, .int .i64 1, .int .i64 0], .slice none 0 0] w4 _ at hrep
  have G4 := Aside0.mk (And.intro (Kd.C_below H4.out.1 hb34) H4.out.2)
  have G5 := Aside0.mk (And.intro (Kd.C_below H5.out.1 hb34) H5.out.2)
  have HB1 := Aside0.mk B1
  have HB6 := Aside0.mk B6
  clear hw4 hg B1 B2 B3 B4 B5 B6 hb34 HB3 H4 H5
  (with_reducible refine hrep.mono ?_)
  rintro e w5 ⟨q0, q1, rfl, hQ0, hQ1, hb5⟩
  obtain ⟨A6, c6, e6, l6, C6⟩ := hQ0
  obtain ⟨A7, c7, e7, l7, C7⟩ := hQ1
  subst e6 e7
  have HC6 := Aside0.mk C6
  have HX5 := Aside0.mk (Kd.C_below HX.out hb5)
  have HI5 := Aside0.mk (Kd.C_below HI.out hb5)
  have K4 := Aside0.mk (And.intro (Kd.C_below G4.out.1 hb5) G4.out.2)
  have K5 := Aside0.mk (And.intro (Kd.C_below G5.out.1 hb5) G5.out.2)
  have HD1 := Aside0.mk (blk_Kp (S := fun _ => False) HB1.out (Kp.of_below hb5) (fun h => h))
  have HD6 := Aside0.mk (blk_Kp (S := fun _ => False) HB6.out (Kp.of_below hb5) (fun h => h))
  have HB5 := Aside0.mk (below_step HB4.out hb5)
  clear hrep hb5 C6 C7 l6 l7 HB4 HX HI G4 G5 HB1 HB6
  dsimp only
  go_upto_region 4 with fail
  obtain ⟨h, hh⟩ : ∃ h, h = w5.heap.size := ⟨_, rfl⟩
  obtain ⟨w6, hw6⟩ : ∃ w6 : World, w6 = w5.alloc (Obj.cells #[Value.slice A6 1 c6, Value.slice A7 2 c7, Value.int IntKind.i64 2] 25) := ⟨_, rfl⟩
  rw [← hw6, ← hh]
  have hb56 : Below w5.heap.size w5 w6 := by rw [hw6]; exact below_alloc (Below.refl _ _) _
  have BO : w6.heap[h]? = some (Obj.cells #[Value.slice A6 1 c6, Value.slice A7 2 c7, Value.int IntKind.i64 2] 25 (0, 0)) := by rw [hw6]; exact blk_new hh
  have HC7 := Aside0.mk (Kd.C_below HC6.out hb56)
  have HX6 := Aside0.mk (Kd.C_below HX5.out hb56)
  have HI6 := Aside0.mk (Kd.C_below HI5.out hb56)
  have HB6 := Aside0.mk (below_step HB5.out hb56)
  have D1 := blk_Kp (S := fun _ => False) HD1.out (Kp.of_below hb56) (fun h => h)
  have D6 := blk_Kp (S := fun _ => False) HD6.out (Kp.of_below hb56) (fun h => h)
  have L4 := K4.out.2
  have L5 := K5.out.2
  obtain ⟨k, hk⟩ := sameIn_ex exL [3, 4] 2 exL [3, 4] 2 (by decide) (by intro c hc; simp [exL] at hc; rcases hc with rfl | rfl <;> simp) (by decide)
  have hsame := emendateref35_Same.calls k A4 c4 exL A5 c5 [3, 4] 2 (some ⟨g + 1 + 1 + 1, 0, none⟩) 2 exL (some ⟨g + 1 + 1 + 1 + 1, 0, none⟩) 2 [3, 4] 2 true w6 (Kd.C_below K4.out.1 hb56) L4 (Kd.C_below K5.out.1 hb56) L5 HX6.out (Nat.le_refl _) HI6.out (Nat.le_refl _) hk
  change Calls Try.prog 17 #[.agg #[.slice A4 exL.length c4, .slice A5 2 c5, .int .i64 2], .agg #[.slice (some ⟨g + 1 + 1 + 1, 0, none⟩) 2 2, .slice (some ⟨g + 1 + 1 + 1 + 1, 0, none⟩) 2 2, .int .i64 2]] w6 _ at hsame
  have hv : ∀ (t : Int) (r : Bool), validB exL [3, 4] 2 t = r → ∀ W', Below w6.heap.size w6 W' → Calls Try.prog 11 #[.agg #[.slice (some ⟨g + 1 + 1 + 1, 0, none⟩) 2 2, .slice (some ⟨g + 1 + 1 + 1 + 1, 0, none⟩) 2 2, .int .i64 2], .int .i64 t] W' fun e w' => e = .returned (.bool r) ∧ Below W'.heap.size W' w' :=
    fun t r hr W' hb => columns_Valid.calls (some ⟨g + 1 + 1 + 1, 0, none⟩) 2 exL (some ⟨g + 1 + 1 + 1 + 1, 0, none⟩) 2 [3, 4] 2 t r W' (Kd.C_below HX6.out hb) (Nat.le_refl _) (Kd.C_below HI6.out hb) (Nat.le_refl _) (congrArg some hr)
  have HV := Aside0.mk hv
  have HD6 := Aside0.mk D6
  have HBO := Aside0.mk BO
  have m0 := cell_of_block D1 0 _ rfl
  have m1 := cell_of_block D1 1 _ rfl
  have m2 := cell_of_block D1 2 _ rfl
  have p0 := cell_of_block D6 0 _ rfl
  have p1 := cell_of_block D6 1 _ rfl
  have p2 := cell_of_block D6 2 _ rfl
  clear hw6 hh hb56 BO D1 D6 hv hk L4 L5 HC6 HX5 HI5 HB5 HD1 K4 K5 HX6 HI6
  go_wp2_with fail
  (with_reducible refine hsame.mono ?_)
  rintro e w7 ⟨rfl, hb7⟩
  have hd6 := blk_Kp (S := fun _ => False) HD6.out (Kp.of_below hb7) (fun h => h)
  have p0 := cell_of_block hd6 0 _ rfl
  have p1 := cell_of_block hd6 1 _ rfl
  have p2 := cell_of_block hd6 2 _ rfl
  have HB7 := Aside0.mk hb7
  have hcall := HV.out 2 true ex_v2 w7 hb7
  clear hsame hb7 hd6 m0 m1 m2
  dsimp only
  go_wp2_with fail
  (with_reducible refine hcall.mono ?_)
  rintro e w8 ⟨rfl, hb8⟩
  have hb68 := below_step HB7.out hb8
  have hd6 := blk_Kp (S := fun _ => False) HD6.out (Kp.of_below hb68) (fun h => h)
  have p0 := cell_of_block hd6 0 _ rfl
  have p1 := cell_of_block hd6 1 _ rfl
  have p2 := cell_of_block hd6 2 _ rfl
  have HB8 := Aside0.mk hb68
  have hcall := HV.out 3 false ex_v3 w8 hb68
  clear hb8 hb68 hd6 HB7
  dsimp only
  go_wp2_with fail
  (with_reducible refine hcall.mono ?_)
  rintro e w9 ⟨rfl, hb9⟩
  have hb69 := below_step HB8.out hb9
  have ho := blk_Kp (S := fun _ => False) HBO.out (Kp.of_below hb69) (fun h => h)
  have o0 := cell_of_block ho 0 _ rfl
  obtain ⟨ad, A9, c9, e9, y0, _⟩ := at_T51 (Kd.C_below HC7.out hb69) 0 (by omega) (by decide)
  subst e9
  have y1 : w9.cell? ad = some (.int .i64 (-1)) := by
    have e : ad.add (Int.toNat 0 * 3) = ad := by simp [Addr.add]
    rw [e] at y0
    exact y0
  have HB9 := Aside0.mk (below_step HB6.out hb69)
  clear hcall hb9 hb69 ho y0 HB8 HV HD6 HBO HC7 HB6 p0 p1 p2
  dsimp only
  go_wp2_with fail
  go_ret
  exact ⟨rfl, HB9.out⟩
end Go.Proofs.Ytcigcacjjdpgfaa.Hand
/- The law ColumnsValid returns true: by hand. -/
namespace Go.Proofs.Ytcigcacjjdpgfaa.Hand
open Go.RowKit Go.Proofs.YtcigcacjjdpgfaaW.PrintWords Go.Proofs.YtcigcacjjdpgfaaW.PrintLast Go.Proofs.YtcigcacjjdpgfaaW.PrintMore Go.Proofs.Ytcigcacjjdpgfaa.PA
set_option linter.unusedVariables false
set_option linter.unusedSimpArgs false
def InT (b : Nat) (v0 v1 : Value) (sw : Int) (wa w' : World) : Prop := w'.cell? ⟨b, 0, none⟩ = some v0 ∧ w'.cell? ⟨b, 1, none⟩ = some v1 ∧ w'.cell? ⟨b, 2, none⟩ = some (.int .i64 sw) ∧ Aside0 (Below wa.heap.size wa w')
theorem InT.of {b : Nat} {v0 v1 : Value} {sw : Int} {wa w' : World} {t : Nat} (h : wa.heap[b]? = some (.cells #[v0, v1, .int .i64 sw] t (0, 0))) (hb : Below wa.heap.size wa w') : InT b v0 v1 sw wa w' := by
  have h2 := blk_Kp (S := fun _ => False) h (Kp.of_below hb) (fun h => h)
  exact ⟨cell_of_block h2 0 _ rfl, cell_of_block h2 1 _ rfl, cell_of_block h2 2 _ rfl, ⟨hb⟩⟩
theorem InT.step {b : Nat} {v0 v1 : Value} {sw : Int} {wa w' w2 : World} {t : Nat} (h : wa.heap[b]? = some (.cells #[v0, v1, .int .i64 sw] t (0, 0))) (hi : InT b v0 v1 sw wa w') (hb : Below w'.heap.size w' w2) : InT b v0 v1 sw wa w2 :=
  InT.of h (below_step hi.2.2.2.out hb)
set_option maxHeartbeats 4000000 in
set_option maxRecDepth 100000 in
theorem lawValid_calls (A0 : Option Addr) (c0 : Nat) (xs : List S51) (A1 : Option Addr) (c1 : Nat) (ins : List Int) (sw terms : Int) (w : World) (hx : Kd.C k51 w A0 xs.length xs) (hxc : xs.length ≤ c0) (hi : Kd.C (Kd.int .i64) w A1 ins.length ins) (hic : ins.length ≤ c1) :
    Calls Try.prog 3 #[.agg #[.slice A0 xs.length c0, .slice A1 ins.length c1, .int .i64 sw], .int .i64 terms] w fun e w' => e = .returned (.bool true) ∧ Below w.heap.size w w' := by
  have hu25 := Try.underlying25
  obtain ⟨k, hk⟩ := few_ex xs ins sw 70 20 (by omega)
  obtain ⟨n0, hn0⟩ : ∃ n0, n0 = xs.length := ⟨_, rfl⟩
  obtain ⟨n1, hn1⟩ : ∃ n1, n1 = ins.length := ⟨_, rfl⟩
  obtain ⟨wa, hwa⟩ : ∃ wa : World, wa = w.alloc (Obj.cells #[.slice A0 n0 c0, .slice A1 n1 c1, .int .i64 sw] 25) := ⟨_, rfl⟩
  obtain ⟨b, hbb⟩ : ∃ b, b = w.heap.size := ⟨_, rfl⟩
  have hb : Below w.heap.size w wa := by rw [hwa]; exact below_alloc (Below.refl _ _) _
  have BA : wa.heap[b]? = some (Obj.cells #[.slice A0 n0 c0, .slice A1 n1 c1, .int .i64 sw] 25 (0, 0)) := by rw [hwa]; exact blk_new hbb
  have p0 := cell_of_block BA 0 _ rfl
  have p1 := cell_of_block BA 1 _ rfl
  have p2 := cell_of_block BA 2 _ rfl
  have hcall := emendateref35_Few.calls k A0 c0 xs A1 c1 ins sw 70 20 _ wa (Kd.C_below hx hb) hxc (Kd.C_below hi hb) hic hk
  have HB := Aside0.mk hb
  have HBA := Aside0.mk BA
  have hV : fewB xs ins 70 20 = true → ∀ W', InT b (.slice A0 n0 c0) (.slice A1 n1 c1) sw wa W' → Calls Try.prog 11 #[.agg #[.slice A0 n0 c0, .slice A1 n1 c1, .int .i64 sw], .int .i64 terms] W' fun e w' => e = .returned (.bool (validB xs ins sw terms)) ∧ Below W'.heap.size W' w' := by
    intro _ W' h
    have hbw := below_step hb h.2.2.2.out
    rw [hn0, hn1]
    exact columns_Valid.calls A0 c0 xs A1 c1 ins sw terms _ W' (Kd.C_below hx hbw) hxc (Kd.C_below hi hbw) hic rfl
  have hR : fewB xs ins 70 20 = true → ∀ W', InT b (.slice A0 n0 c0) (.slice A1 n1 c1) sw wa W' → Calls Try.prog 12 #[.agg #[.slice A0 n0 c0, .slice A1 n1 c1, .int .i64 sw], .int .i64 terms] W' fun e w' => e = .returned (.bool (validB xs ins sw terms)) ∧ Below W'.heap.size W' w' := by
    intro hf W' h
    have hbw := below_step hb h.2.2.2.out
    simp only [fewB, Bool.and_eq_true, decide_eq_true_eq, List.all_eq_true] at hf
    obtain ⟨k2, hk2⟩ := rval_ex xs ins sw terms (by omega) (fun c hc => by have := hf.2 c hc; omega) (by omega)
    rw [hn0, hn1]
    exact (emendateref35_Valid.calls k2 A0 c0 xs A1 c1 ins sw terms _ W' (Kd.C_below hx hbw) hxc (Kd.C_below hi hbw) hic hk2).mono fun e w' h => h
  rw [← hn0, ← hn1] at hcall
  rw [← hn0, ← hn1]
  generalize validB xs ins sw terms = vb at hV hR
  generalize fewB xs ins 70 20 = fb at hcall hV hR
  have HV := Aside0.mk hV
  have HR := Aside0.mk hR
  clear hb BA hx hxc hi hic hk hn0 hn1 hV hR
  cases fb
  · go_enter Try.func3, Try.ntmps3
    go_upto_region 1 with fail
    rw [← hwa, ← hbb]
    clear hwa hbb
    go_wp2_with fail
    (with_reducible refine hcall.mono ?_)
    rintro e w2 ⟨rfl, hd⟩
    have HB2 := Aside0.mk (below_step HB.out hd)
    have haw := awake_calls w2
    clear hcall hd p0 p1 p2
    dsimp only
    go_wp2_with fail
    (with_reducible refine haw.mono ?_)
    rintro e w3 ⟨rfl, hb3⟩
    have HB3 := Aside0.mk (below_step HB2.out hb3)
    clear haw hb3
    dsimp only
    go_wp2_with fail
    go_ret
    exact ⟨rfl, HB3.out⟩
  · go_enter Try.func3, Try.ntmps3
    go_upto_region 1 with fail
    rw [← hwa, ← hbb]
    clear hwa hbb
    go_wp2_with fail
    (with_reducible refine hcall.mono ?_)
    rintro e w2 ⟨rfl, hd⟩
    have HS : InT b (.slice A0 n0 c0) (.slice A1 n1 c1) sw wa w2 := InT.of HBA.out hd
    clear hcall hd p0 p1 p2
    dsimp only
    go_upto_region 3 with fail
    have HV1 := Aside0.mk (HV.out trivial)
    have HR1 := Aside0.mk (HR.out trivial)
    clear HV HR
    unfold InT at HS
    go_region_held3 (fun w' => w'.cell? ⟨b, 0, none⟩ = some (.slice A0 n0 c0) ∧ w'.cell? ⟨b, 1, none⟩ = some (.slice A1 n1 c1) ∧ w'.cell? ⟨b, 2, none⟩ = some (.int .i64 sw) ∧ Aside0 (Below wa.heap.size wa w'))
      (first | exact InT.step HBA.out (by assumption) (below_drew1 (Below.refl _ _)) | exact InT.step HBA.out (by assumption) (by assumption))
      ((first | (go_at_call 10; refine (awake_calls _).mono ?_; rintro e w' ⟨rfl, hb⟩) | (go_at_call 11; refine (HV1.out _ ?c1).mono ?_; (case c1 => assumption); rintro e w' ⟨rfl, hb⟩) | (go_at_call 12; refine (HR1.out _ ?c2).mono ?_; (case c2 => assumption); rintro e w' ⟨rfl, hb⟩)))

    all_goals
      go_wp2_with fail
      go_ret
      exact ⟨by simp, below_step HB.out (show InT b (.slice A0 n0 c0) (.slice A1 n1 c1) sw wa _ from (by assumption)).2.2.2.out⟩
end Go.Proofs.Ytcigcacjjdpgfaa.Hand
namespace Go.Proofs.Ytcigcacjjdpgfaa.PA
open Go.RowKit Go.Proofs.YtcigcacjjdpgfaaW.PrintWords Go.Proofs.Ytcigcacjjdpgfaa.Hand
set_option linter.unusedVariables false
def emendatelaw35_ColumnsValid.f (l0_0 : List S51) (l0_1 : List Int) (a0_2 : Int) (a1 : Int) : Option Bool := some true
theorem emendatelaw35_ColumnsValid.calls (A0_0 : Option Addr) (c0_0 : Nat) (l0_0 : List S51) (A0_1 : Option Addr) (c0_1 : Nat) (l0_1 : List Int) (a0_2 : Int) (a1 : Int) (r : Bool) (w : World) (hr0_0 : Kd.C k51 w A0_0 l0_0.length l0_0) (hc0_0 : l0_0.length ≤ c0_0) (hr0_1 : Kd.C (Kd.int .i64) w A0_1 l0_1.length l0_1) (hc0_1 : l0_1.length ≤ c0_1)
    (h : emendatelaw35_ColumnsValid.f l0_0 l0_1 a0_2 a1 = some r) :
    Calls Try.prog 3 #[.agg #[.slice A0_0 l0_0.length c0_0, .slice A0_1 l0_1.length c0_1, .int .i64 a0_2], .int .i64 a1] w fun e w' => e = .returned (.bool r) ∧ Below w.heap.size w w' := by
  obtain rfl : true = r := Option.some.inj h
  exact lawValid_calls A0_0 c0_0 l0_0 A0_1 c0_1 l0_1 a0_2 a1 w hr0_0 hc0_0 hr0_1 hc0_1
end Go.Proofs.Ytcigcacjjdpgfaa.PA
/- The law ColumnsValid: what its contract says is true. -/
namespace Go.Proofs.Ytcigcacjjdpgfaa.Pure
open Go.RowKit Go.Proofs.YtcigcacjjdpgfaaW.PrintWords Go.Proofs.Ytcigcacjjdpgfaa.PA Go.Proofs.Ytcigcacjjdpgfaa.PA
set_option linter.unusedVariables false
theorem ColumnsValid (l0_0 : List (S51)) (l0_1 : List (Int)) (a0_2 : Int) (a1 : Int) (g0_0 : (l0_0.length ≤ maxLen ∧ ∀ x ∈ l0_0, good51 x)) (g0_1 : (l0_1.length ≤ maxLen ∧ ∀ x ∈ l0_1, (Lit.int .i64 x).wf = true)) (g0_2 : (Lit.int .i64 a0_2).wf = true) (g1 : (Lit.int .i64 a1).wf = true) : emendatelaw35_ColumnsValid.f l0_0 l0_1 a0_2 a1 = some true := rfl
end Go.Proofs.Ytcigcacjjdpgfaa.Pure
