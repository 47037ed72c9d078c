import Derived.Test.YtcigcacjjdpgfaaHandG2
import Derived.Test.YtcigcacjjdpgfaaHandG1
/- columns.Replace by hand: its error ways (printed by wip/35/gen_replace.py). -/
namespace Go.Proofs.Ytcigcacjjdpgfaa.Hand
open Go.RowKit Go.Proofs.YtcigcacjjdpgfaaW.PrintWords Go.Proofs.YtcigcacjjdpgfaaW.PrintLast Go.Proofs.YtcigcacjjdpgfaaW.PrintMore Go.Proofs.Ytcigcacjjdpgfaa.PA
set_option linter.unusedVariables false
set_option linter.unusedSimpArgs false
/-- What lies in memory while Replace runs. -/
structure RpI (b : Nat) (v0 v1 : Value) (sw fr old nw : Int) (wa wr : World) : Prop where
  hb : Below (b + 3) wa wr
  sz : wa.heap.size = b + 3
  i0 : wr.cell? ⟨b, 0, none⟩ = some v0
  i1 : wr.cell? ⟨b, 1, none⟩ = some v1
  i2 : wr.cell? ⟨b, 2, none⟩ = some (.int .i64 sw)
  c0 : wr.cell? ⟨b + 1, 0, none⟩ = some (.int .i64 fr)
  c1 : wr.cell? ⟨b + 1, 1, none⟩ = some (.int .i64 old)
  c2 : wr.cell? ⟨b + 1, 2, none⟩ = some (.int .i64 nw)
  B6 : wr.heap[b + 1 + 1]? = some (Obj.cells #[.slice none 0 0, .slice none 0 0, .int .i64 0] 25 (0, 0))
section
variable {b : Nat} {v0 v1 : Value} {sw fr old nw : Int} {wa wr W : World}
theorem RpI.lt (h : RpI b v0 v1 sw fr old nw wa wr) : b + 3 ≤ wr.heap.size := by have := h.hb.size; have := h.sz; omega
theorem RpI.step' (h : RpI b v0 v1 sw fr old nw wa wr) (hb : Below (b + 3) wr W) : RpI b v0 v1 sw fr old nw wa W :=
  ⟨h.hb.trans hb, h.sz, (hb.cell (p := ⟨b, 0, none⟩) (by show b < b + 3; omega)).trans h.i0, (hb.cell (p := ⟨b, 1, none⟩) (by show b < b + 3; omega)).trans h.i1, (hb.cell (p := ⟨b, 2, none⟩) (by show b < b + 3; omega)).trans h.i2,
    (hb.cell (p := ⟨b + 1, 0, none⟩) (by show b + 1 < b + 3; omega)).trans h.c0, (hb.cell (p := ⟨b + 1, 1, none⟩) (by show b + 1 < b + 3; omega)).trans h.c1, (hb.cell (p := ⟨b + 1, 2, none⟩) (by show b + 1 < b + 3; omega)).trans h.c2, (hb.block _ (by omega)).trans h.B6⟩
theorem RpI.step (h : RpI b v0 v1 sw fr old nw wa wr) (hb : Below wr.heap.size wr W) : RpI b v0 v1 sw fr old nw wa W := h.step' (hb.mono h.lt)
end
set_option maxHeartbeats 4000000 in
set_option maxRecDepth 100000 in
theorem rep_a (A0 : Option Addr) (c0 n0 : Nat) (A1 : Option Addr) (c1 n1 : Nat) (sw : Int) (fr old nw : Int) (A2 : Option Addr) (c2 m : Nat) (w : World) (cb : Bool) (hm : m ≤ 1000000) (hn : n0 ≤ 1000000)
    (hV : ∀ W', Below w.heap.size w W' → Calls Try.prog 11 #[.agg #[.slice A0 n0 c0, .slice A1 n1 c1, .int .i64 sw], .int .i64 n1] W' fun e w' => e = .returned (.bool false) ∧ Below W'.heap.size W' w')
    (hC : ∀ W', Below w.heap.size w W' → Calls Try.prog 25 #[.slice A2 m c2, .int .i64 n1] W' fun e w' => e = .returned (.bool cb) ∧ Below W'.heap.size W' w') :
    Calls Try.prog 19 #[.agg #[.slice A0 n0 c0, .slice A1 n1 c1, .int .i64 sw], .agg #[.int .i64 fr, .int .i64 old, .int .i64 nw], .slice A2 m c2] w fun e w' => e = .returned (errV 1) ∧ Below w.heap.size w w' := by
  have hu25 := Try.underlying25
  have hu45 := Try.underlying45
  obtain ⟨wa, hwa⟩ : ∃ wa : World, wa = ((w.alloc (Obj.cells #[.slice A0 n0 c0, .slice A1 n1 c1, .int .i64 sw] 25)).alloc (Obj.cells #[.int .i64 fr, .int .i64 old, .int .i64 nw] 45)).alloc (Obj.cells #[.slice none 0 0, .slice none 0 0, .int .i64 0] 25) := ⟨_, rfl⟩
  obtain ⟨b, hbb⟩ : ∃ b, b = w.heap.size := ⟨_, rfl⟩
  have hb : Below w.heap.size w wa := by rw [hwa]; exact below_alloc (below_alloc (below_alloc (Below.refl _ _) _) _) _
  have B4 : wa.heap[b]? = some (Obj.cells #[.slice A0 n0 c0, .slice A1 n1 c1, .int .i64 sw] 25 (0, 0)) := by rw [hwa]; exact blk_Kp (S := fun _ => False) (blk_Kp (S := fun _ => False) (blk_new hbb) (Kp.of_below (below_alloc (Below.refl _ _) _)) (fun h => h)) (Kp.of_below (below_alloc (Below.refl _ _) _)) (fun h => h)
  have B5 : wa.heap[b + 1]? = some (Obj.cells #[.int .i64 fr, .int .i64 old, .int .i64 nw] 45 (0, 0)) := by rw [hwa]; exact blk_Kp (S := fun _ => False) (blk_new (by rw [hbb]; simp)) (Kp.of_below (below_alloc (Below.refl _ _) _)) (fun h => h)
  have B6 : wa.heap[b + 1 + 1]? = some (Obj.cells #[.slice none 0 0, .slice none 0 0, .int .i64 0] 25 (0, 0)) := by rw [hwa]; exact blk_new (by rw [hbb]; simp)
  have hI : RpI b (.slice A0 n0 c0) (.slice A1 n1 c1) sw fr old nw wa wa := ⟨Below.refl _ _, by rw [hwa, hbb]; simp, cell_of_block B4 0 _ rfl, cell_of_block B4 1 _ rfl, cell_of_block B4 2 _ rfl, cell_of_block B5 0 _ rfl, cell_of_block B5 1 _ rfl, cell_of_block B5 2 _ rfl, B6⟩
  have p0 := hI.i0
  have p1 := hI.i1
  have p2 := hI.i2
  have hcall := hV wa hb
  have HB := Aside0.mk hb
  have HBB := Aside0.mk (show w.heap.size = b from hbb.symm)
  have HI := Aside0.mk hI
  have HC := Aside0.mk hC
  clear hb B4 B5 B6 hI hV hC
  go_enter Try.func19, Try.ntmps19
  go_upto_region 1 with fail
  rw [← hwa, ← hbb]
  clear hwa hbb
  go_wp2_with fail
  (with_reducible refine hcall.mono ?_)
  rintro e w2 ⟨rfl, hb2⟩
  have HI2 := Aside0.mk (HI.out.step hb2)
  clear hcall hb2 p0 p1 p2 HI
  dsimp only
  have p0 := HI2.out.i0
  have p1 := HI2.out.i1
  have p2 := HI2.out.i2
  have q0 := HI2.out.c0
  have q1 := HI2.out.c1
  have q2 := HI2.out.c2
  have r0 := cell_of_block HI2.out.B6 0 _ rfl
  have r1 := cell_of_block HI2.out.B6 1 _ rfl
  have r2 := cell_of_block HI2.out.B6 2 _ rfl
  have f0 := blk_frozen HI2.out.B6 0
  have f1 := blk_frozen HI2.out.B6 1
  have f2 := blk_frozen HI2.out.B6 2
  have HBW := Aside0.mk (show Below w.heap.size w w2 from HB.out.trans ((HI2.out.hb).mono (by rw [HBB.out]; omega)))
  have HS3 := Aside0.mk (set3 (B := b) (wa := wa) (by omega) (by have := HI2.out.lt; omega) HI2.out.B6 (.slice none 0 0) (.slice none 0 0) (.int .i64 0))
  go_wp2_with fail
  exact bodyPost_ret (results_ct rfl _ _ (b + 1 + 1) 25 _ (0, 0) _ rfl HS3.out.1 hu25 rfl (by kernel_rfl)) rfl ⟨rfl, HBW.out.trans (HBB.out ▸ HS3.out.2)⟩
set_option maxHeartbeats 4000000 in
set_option maxRecDepth 100000 in
theorem rep_b (A0 : Option Addr) (c0 n0 : Nat) (A1 : Option Addr) (c1 n1 : Nat) (sw : Int) (fr old nw : Int) (A2 : Option Addr) (c2 m : Nat) (w : World) (hm : m ≤ 1000000) (hn : n0 ≤ 1000000)
    (hV : ∀ W', Below w.heap.size w W' → Calls Try.prog 11 #[.agg #[.slice A0 n0 c0, .slice A1 n1 c1, .int .i64 sw], .int .i64 n1] W' fun e w' => e = .returned (.bool true) ∧ Below W'.heap.size W' w')
    (hC : ∀ W', Below w.heap.size w W' → Calls Try.prog 25 #[.slice A2 m c2, .int .i64 n1] W' fun e w' => e = .returned (.bool false) ∧ Below W'.heap.size W' w') :
    Calls Try.prog 19 #[.agg #[.slice A0 n0 c0, .slice A1 n1 c1, .int .i64 sw], .agg #[.int .i64 fr, .int .i64 old, .int .i64 nw], .slice A2 m c2] w fun e w' => e = .returned (errV 1) ∧ Below w.heap.size w w' := by
  have hu25 := Try.underlying25
  have hu45 := Try.underlying45
  obtain ⟨wa, hwa⟩ : ∃ wa : World, wa = ((w.alloc (Obj.cells #[.slice A0 n0 c0, .slice A1 n1 c1, .int .i64 sw] 25)).alloc (Obj.cells #[.int .i64 fr, .int .i64 old, .int .i64 nw] 45)).alloc (Obj.cells #[.slice none 0 0, .slice none 0 0, .int .i64 0] 25) := ⟨_, rfl⟩
  obtain ⟨b, hbb⟩ : ∃ b, b = w.heap.size := ⟨_, rfl⟩
  have hb : Below w.heap.size w wa := by rw [hwa]; exact below_alloc (below_alloc (below_alloc (Below.refl _ _) _) _) _
  have B4 : wa.heap[b]? = some (Obj.cells #[.slice A0 n0 c0, .slice A1 n1 c1, .int .i64 sw] 25 (0, 0)) := by rw [hwa]; exact blk_Kp (S := fun _ => False) (blk_Kp (S := fun _ => False) (blk_new hbb) (Kp.of_below (below_alloc (Below.refl _ _) _)) (fun h => h)) (Kp.of_below (below_alloc (Below.refl _ _) _)) (fun h => h)
  have B5 : wa.heap[b + 1]? = some (Obj.cells #[.int .i64 fr, .int .i64 old, .int .i64 nw] 45 (0, 0)) := by rw [hwa]; exact blk_Kp (S := fun _ => False) (blk_new (by rw [hbb]; simp)) (Kp.of_below (below_alloc (Below.refl _ _) _)) (fun h => h)
  have B6 : wa.heap[b + 1 + 1]? = some (Obj.cells #[.slice none 0 0, .slice none 0 0, .int .i64 0] 25 (0, 0)) := by rw [hwa]; exact blk_new (by rw [hbb]; simp)
  have hI : RpI b (.slice A0 n0 c0) (.slice A1 n1 c1) sw fr old nw wa wa := ⟨Below.refl _ _, by rw [hwa, hbb]; simp, cell_of_block B4 0 _ rfl, cell_of_block B4 1 _ rfl, cell_of_block B4 2 _ rfl, cell_of_block B5 0 _ rfl, cell_of_block B5 1 _ rfl, cell_of_block B5 2 _ rfl, B6⟩
  have p0 := hI.i0
  have p1 := hI.i1
  have p2 := hI.i2
  have hcall := hV wa hb
  have HB := Aside0.mk hb
  have HBB := Aside0.mk (show w.heap.size = b from hbb.symm)
  have HI := Aside0.mk hI
  have HC := Aside0.mk hC
  clear hb B4 B5 B6 hI hV hC
  go_enter Try.func19, Try.ntmps19
  go_upto_region 1 with fail
  rw [← hwa, ← hbb]
  clear hwa hbb
  go_wp2_with fail
  (with_reducible refine hcall.mono ?_)
  rintro e w2 ⟨rfl, hb2⟩
  have HI2 := Aside0.mk (HI.out.step hb2)
  clear hcall hb2 p0 p1 p2 HI
  dsimp only
  have hcall := HC.out w2 (HB.out.trans ((HI2.out.hb).mono (by rw [HBB.out]; omega)))
  have p1 := HI2.out.i1
  go_wp2_with fail
  (with_reducible refine hcall.mono ?_)
  rintro e w3 ⟨rfl, hb3⟩
  have HI3 := Aside0.mk (HI2.out.step hb3)
  clear hcall hb3 HC HI2 p1
  dsimp only
  have p0 := HI3.out.i0
  have p1 := HI3.out.i1
  have p2 := HI3.out.i2
  have q0 := HI3.out.c0
  have q1 := HI3.out.c1
  have q2 := HI3.out.c2
  have r0 := cell_of_block HI3.out.B6 0 _ rfl
  have r1 := cell_of_block HI3.out.B6 1 _ rfl
  have r2 := cell_of_block HI3.out.B6 2 _ rfl
  have f0 := blk_frozen HI3.out.B6 0
  have f1 := blk_frozen HI3.out.B6 1
  have f2 := blk_frozen HI3.out.B6 2
  have HBW := Aside0.mk (show Below w.heap.size w w3 from HB.out.trans ((HI3.out.hb).mono (by rw [HBB.out]; omega)))
  have HS3 := Aside0.mk (set3 (B := b) (wa := wa) (by omega) (by have := HI3.out.lt; omega) HI3.out.B6 (.slice none 0 0) (.slice none 0 0) (.int .i64 0))
  go_wp2_with fail
  exact bodyPost_ret (results_ct rfl _ _ (b + 1 + 1) 25 _ (0, 0) _ rfl HS3.out.1 hu25 rfl (by kernel_rfl)) rfl ⟨rfl, HBW.out.trans (HBB.out ▸ HS3.out.2)⟩
set_option maxHeartbeats 4000000 in
set_option maxRecDepth 100000 in
theorem rep_c (A0 : Option Addr) (c0 n0 : Nat) (A1 : Option Addr) (c1 n1 : Nat) (sw : Int) (fr old nw : Int) (A2 : Option Addr) (c2 m : Nat) (w : World) (hm : m ≤ 1000000) (hn : n0 ≤ 1000000)
    (hV : ∀ W', Below w.heap.size w W' → Calls Try.prog 11 #[.agg #[.slice A0 n0 c0, .slice A1 n1 c1, .int .i64 sw], .int .i64 n1] W' fun e w' => e = .returned (.bool true) ∧ Below W'.heap.size W' w')
    (hC : ∀ W', Below w.heap.size w W' → Calls Try.prog 25 #[.slice A2 m c2, .int .i64 n1] W' fun e w' => e = .returned (.bool true) ∧ Below W'.heap.size W' w') (hd : (m : Int) ≠ nw) :
    Calls Try.prog 19 #[.agg #[.slice A0 n0 c0, .slice A1 n1 c1, .int .i64 sw], .agg #[.int .i64 fr, .int .i64 old, .int .i64 nw], .slice A2 m c2] w fun e w' => e = .returned (errV 1) ∧ Below w.heap.size w w' := by
  have hu25 := Try.underlying25
  have hu45 := Try.underlying45
  obtain ⟨wa, hwa⟩ : ∃ wa : World, wa = ((w.alloc (Obj.cells #[.slice A0 n0 c0, .slice A1 n1 c1, .int .i64 sw] 25)).alloc (Obj.cells #[.int .i64 fr, .int .i64 old, .int .i64 nw] 45)).alloc (Obj.cells #[.slice none 0 0, .slice none 0 0, .int .i64 0] 25) := ⟨_, rfl⟩
  obtain ⟨b, hbb⟩ : ∃ b, b = w.heap.size := ⟨_, rfl⟩
  have hb : Below w.heap.size w wa := by rw [hwa]; exact below_alloc (below_alloc (below_alloc (Below.refl _ _) _) _) _
  have B4 : wa.heap[b]? = some (Obj.cells #[.slice A0 n0 c0, .slice A1 n1 c1, .int .i64 sw] 25 (0, 0)) := by rw [hwa]; exact blk_Kp (S := fun _ => False) (blk_Kp (S := fun _ => False) (blk_new hbb) (Kp.of_below (below_alloc (Below.refl _ _) _)) (fun h => h)) (Kp.of_below (below_alloc (Below.refl _ _) _)) (fun h => h)
  have B5 : wa.heap[b + 1]? = some (Obj.cells #[.int .i64 fr, .int .i64 old, .int .i64 nw] 45 (0, 0)) := by rw [hwa]; exact blk_Kp (S := fun _ => False) (blk_new (by rw [hbb]; simp)) (Kp.of_below (below_alloc (Below.refl _ _) _)) (fun h => h)
  have B6 : wa.heap[b + 1 + 1]? = some (Obj.cells #[.slice none 0 0, .slice none 0 0, .int .i64 0] 25 (0, 0)) := by rw [hwa]; exact blk_new (by rw [hbb]; simp)
  have hI : RpI b (.slice A0 n0 c0) (.slice A1 n1 c1) sw fr old nw wa wa := ⟨Below.refl _ _, by rw [hwa, hbb]; simp, cell_of_block B4 0 _ rfl, cell_of_block B4 1 _ rfl, cell_of_block B4 2 _ rfl, cell_of_block B5 0 _ rfl, cell_of_block B5 1 _ rfl, cell_of_block B5 2 _ rfl, B6⟩
  have p0 := hI.i0
  have p1 := hI.i1
  have p2 := hI.i2
  have hcall := hV wa hb
  have HB := Aside0.mk hb
  have HBB := Aside0.mk (show w.heap.size = b from hbb.symm)
  have HI := Aside0.mk hI
  have HC := Aside0.mk hC
  have d0 : ((m : Int) != nw) = true := bne_iff_ne.2 hd
  clear hb B4 B5 B6 hI hV hC hd
  go_enter Try.func19, Try.ntmps19
  go_upto_region 1 with fail
  rw [← hwa, ← hbb]
  clear hwa hbb
  go_wp2_with fail
  (with_reducible refine hcall.mono ?_)
  rintro e w2 ⟨rfl, hb2⟩
  have HI2 := Aside0.mk (HI.out.step hb2)
  clear hcall hb2 p0 p1 p2 HI
  dsimp only
  have hcall := HC.out w2 (HB.out.trans ((HI2.out.hb).mono (by rw [HBB.out]; omega)))
  have p1 := HI2.out.i1
  go_wp2_with fail
  (with_reducible refine hcall.mono ?_)
  rintro e w3 ⟨rfl, hb3⟩
  have HI3 := Aside0.mk (HI2.out.step hb3)
  clear hcall hb3 HC HI2 p1
  dsimp only
  have p0 := HI3.out.i0
  have p1 := HI3.out.i1
  have p2 := HI3.out.i2
  have q0 := HI3.out.c0
  have q1 := HI3.out.c1
  have q2 := HI3.out.c2
  have r0 := cell_of_block HI3.out.B6 0 _ rfl
  have r1 := cell_of_block HI3.out.B6 1 _ rfl
  have r2 := cell_of_block HI3.out.B6 2 _ rfl
  have f0 := blk_frozen HI3.out.B6 0
  have f1 := blk_frozen HI3.out.B6 1
  have f2 := blk_frozen HI3.out.B6 2
  have HBW := Aside0.mk (show Below w.heap.size w w3 from HB.out.trans ((HI3.out.hb).mono (by rw [HBB.out]; omega)))
  have HS3 := Aside0.mk (set3 (B := b) (wa := wa) (by omega) (by have := HI3.out.lt; omega) HI3.out.B6 (.slice none 0 0) (.slice none 0 0) (.int .i64 0))
  go_wp2_with fail
  exact bodyPost_ret (results_ct rfl _ _ (b + 1 + 1) 25 _ (0, 0) _ rfl HS3.out.1 hu25 rfl (by kernel_rfl)) rfl ⟨rfl, HBW.out.trans (HBB.out ▸ HS3.out.2)⟩
set_option maxHeartbeats 4000000 in
set_option maxRecDepth 100000 in
theorem rep_d (A0 : Option Addr) (c0 n0 : Nat) (A1 : Option Addr) (c1 n1 : Nat) (sw : Int) (fr old nw : Int) (A2 : Option Addr) (c2 m : Nat) (w : World) (hm : m ≤ 1000000) (hn : n0 ≤ 1000000)
    (hV : ∀ W', Below w.heap.size w W' → Calls Try.prog 11 #[.agg #[.slice A0 n0 c0, .slice A1 n1 c1, .int .i64 sw], .int .i64 n1] W' fun e w' => e = .returned (.bool true) ∧ Below W'.heap.size W' w')
    (hC : ∀ W', Below w.heap.size w W' → Calls Try.prog 25 #[.slice A2 m c2, .int .i64 n1] W' fun e w' => e = .returned (.bool true) ∧ Below W'.heap.size W' w') (hd : (m : Int) = nw) (h1 : fr < 0) :
    Calls Try.prog 19 #[.agg #[.slice A0 n0 c0, .slice A1 n1 c1, .int .i64 sw], .agg #[.int .i64 fr, .int .i64 old, .int .i64 nw], .slice A2 m c2] w fun e w' => e = .returned (errV 2) ∧ Below w.heap.size w w' := by
  have hu25 := Try.underlying25
  have hu45 := Try.underlying45
  obtain ⟨wa, hwa⟩ : ∃ wa : World, wa = ((w.alloc (Obj.cells #[.slice A0 n0 c0, .slice A1 n1 c1, .int .i64 sw] 25)).alloc (Obj.cells #[.int .i64 fr, .int .i64 old, .int .i64 nw] 45)).alloc (Obj.cells #[.slice none 0 0, .slice none 0 0, .int .i64 0] 25) := ⟨_, rfl⟩
  obtain ⟨b, hbb⟩ : ∃ b, b = w.heap.size := ⟨_, rfl⟩
  have hb : Below w.heap.size w wa := by rw [hwa]; exact below_alloc (below_alloc (below_alloc (Below.refl _ _) _) _) _
  have B4 : wa.heap[b]? = some (Obj.cells #[.slice A0 n0 c0, .slice A1 n1 c1, .int .i64 sw] 25 (0, 0)) := by rw [hwa]; exact blk_Kp (S := fun _ => False) (blk_Kp (S := fun _ => False) (blk_new hbb) (Kp.of_below (below_alloc (Below.refl _ _) _)) (fun h => h)) (Kp.of_below (below_alloc (Below.refl _ _) _)) (fun h => h)
  have B5 : wa.heap[b + 1]? = some (Obj.cells #[.int .i64 fr, .int .i64 old, .int .i64 nw] 45 (0, 0)) := by rw [hwa]; exact blk_Kp (S := fun _ => False) (blk_new (by rw [hbb]; simp)) (Kp.of_below (below_alloc (Below.refl _ _) _)) (fun h => h)
  have B6 : wa.heap[b + 1 + 1]? = some (Obj.cells #[.slice none 0 0, .slice none 0 0, .int .i64 0] 25 (0, 0)) := by rw [hwa]; exact blk_new (by rw [hbb]; simp)
  have hI : RpI b (.slice A0 n0 c0) (.slice A1 n1 c1) sw fr old nw wa wa := ⟨Below.refl _ _, by rw [hwa, hbb]; simp, cell_of_block B4 0 _ rfl, cell_of_block B4 1 _ rfl, cell_of_block B4 2 _ rfl, cell_of_block B5 0 _ rfl, cell_of_block B5 1 _ rfl, cell_of_block B5 2 _ rfl, B6⟩
  have p0 := hI.i0
  have p1 := hI.i1
  have p2 := hI.i2
  have hcall := hV wa hb
  have HB := Aside0.mk hb
  have HBB := Aside0.mk (show w.heap.size = b from hbb.symm)
  have HI := Aside0.mk hI
  have HC := Aside0.mk hC
  have d0 : ((m : Int) != nw) = false := bne_eq_false_iff_eq.2 hd
  have t1 : decide (fr < 0) = true := decide_eq_true h1
  clear hb B4 B5 B6 hI hV hC hd h1
  go_enter Try.func19, Try.ntmps19
  go_upto_region 1 with fail
  rw [← hwa, ← hbb]
  clear hwa hbb
  go_wp2_with fail
  (with_reducible refine hcall.mono ?_)
  rintro e w2 ⟨rfl, hb2⟩
  have HI2 := Aside0.mk (HI.out.step hb2)
  clear hcall hb2 p0 p1 p2 HI
  dsimp only
  have hcall := HC.out w2 (HB.out.trans ((HI2.out.hb).mono (by rw [HBB.out]; omega)))
  have p1 := HI2.out.i1
  go_wp2_with fail
  (with_reducible refine hcall.mono ?_)
  rintro e w3 ⟨rfl, hb3⟩
  have HI3 := Aside0.mk (HI2.out.step hb3)
  clear hcall hb3 HC HI2 p1
  dsimp only
  have p0 := HI3.out.i0
  have p1 := HI3.out.i1
  have p2 := HI3.out.i2
  have q0 := HI3.out.c0
  have q1 := HI3.out.c1
  have q2 := HI3.out.c2
  have r0 := cell_of_block HI3.out.B6 0 _ rfl
  have r1 := cell_of_block HI3.out.B6 1 _ rfl
  have r2 := cell_of_block HI3.out.B6 2 _ rfl
  have f0 := blk_frozen HI3.out.B6 0
  have f1 := blk_frozen HI3.out.B6 1
  have f2 := blk_frozen HI3.out.B6 2
  have HBW := Aside0.mk (show Below w.heap.size w w3 from HB.out.trans ((HI3.out.hb).mono (by rw [HBB.out]; omega)))
  have HS3 := Aside0.mk (set3 (B := b) (wa := wa) (by omega) (by have := HI3.out.lt; omega) HI3.out.B6 (.slice none 0 0) (.slice none 0 0) (.int .i64 0))
  go_wp2_with fail
  exact bodyPost_ret (results_ct rfl _ _ (b + 1 + 1) 25 _ (0, 0) _ rfl HS3.out.1 hu25 rfl (by kernel_rfl)) rfl ⟨rfl, HBW.out.trans (HBB.out ▸ HS3.out.2)⟩
set_option maxHeartbeats 4000000 in
set_option maxRecDepth 100000 in
theorem rep_e (A0 : Option Addr) (c0 n0 : Nat) (A1 : Option Addr) (c1 n1 : Nat) (sw : Int) (fr old nw : Int) (A2 : Option Addr) (c2 m : Nat) (w : World) (hm : m ≤ 1000000) (hn : n0 ≤ 1000000)
    (hV : ∀ W', Below w.heap.size w W' → Calls Try.prog 11 #[.agg #[.slice A0 n0 c0, .slice A1 n1 c1, .int .i64 sw], .int .i64 n1] W' fun e w' => e = .returned (.bool true) ∧ Below W'.heap.size W' w')
    (hC : ∀ W', Below w.heap.size w W' → Calls Try.prog 25 #[.slice A2 m c2, .int .i64 n1] W' fun e w' => e = .returned (.bool true) ∧ Below W'.heap.size W' w') (hd : (m : Int) = nw) (h1 : ¬ fr < 0) (h2 : old < 0) :
    Calls Try.prog 19 #[.agg #[.slice A0 n0 c0, .slice A1 n1 c1, .int .i64 sw], .agg #[.int .i64 fr, .int .i64 old, .int .i64 nw], .slice A2 m c2] w fun e w' => e = .returned (errV 2) ∧ Below w.heap.size w w' := by
  have hu25 := Try.underlying25
  have hu45 := Try.underlying45
  obtain ⟨wa, hwa⟩ : ∃ wa : World, wa = ((w.alloc (Obj.cells #[.slice A0 n0 c0, .slice A1 n1 c1, .int .i64 sw] 25)).alloc (Obj.cells #[.int .i64 fr, .int .i64 old, .int .i64 nw] 45)).alloc (Obj.cells #[.slice none 0 0, .slice none 0 0, .int .i64 0] 25) := ⟨_, rfl⟩
  obtain ⟨b, hbb⟩ : ∃ b, b = w.heap.size := ⟨_, rfl⟩
  have hb : Below w.heap.size w wa := by rw [hwa]; exact below_alloc (below_alloc (below_alloc (Below.refl _ _) _) _) _
  have B4 : wa.heap[b]? = some (Obj.cells #[.slice A0 n0 c0, .slice A1 n1 c1, .int .i64 sw] 25 (0, 0)) := by rw [hwa]; exact blk_Kp (S := fun _ => False) (blk_Kp (S := fun _ => False) (blk_new hbb) (Kp.of_below (below_alloc (Below.refl _ _) _)) (fun h => h)) (Kp.of_below (below_alloc (Below.refl _ _) _)) (fun h => h)
  have B5 : wa.heap[b + 1]? = some (Obj.cells #[.int .i64 fr, .int .i64 old, .int .i64 nw] 45 (0, 0)) := by rw [hwa]; exact blk_Kp (S := fun _ => False) (blk_new (by rw [hbb]; simp)) (Kp.of_below (below_alloc (Below.refl _ _) _)) (fun h => h)
  have B6 : wa.heap[b + 1 + 1]? = some (Obj.cells #[.slice none 0 0, .slice none 0 0, .int .i64 0] 25 (0, 0)) := by rw [hwa]; exact blk_new (by rw [hbb]; simp)
  have hI : RpI b (.slice A0 n0 c0) (.slice A1 n1 c1) sw fr old nw wa wa := ⟨Below.refl _ _, by rw [hwa, hbb]; simp, cell_of_block B4 0 _ rfl, cell_of_block B4 1 _ rfl, cell_of_block B4 2 _ rfl, cell_of_block B5 0 _ rfl, cell_of_block B5 1 _ rfl, cell_of_block B5 2 _ rfl, B6⟩
  have p0 := hI.i0
  have p1 := hI.i1
  have p2 := hI.i2
  have hcall := hV wa hb
  have HB := Aside0.mk hb
  have HBB := Aside0.mk (show w.heap.size = b from hbb.symm)
  have HI := Aside0.mk hI
  have HC := Aside0.mk hC
  have d0 : ((m : Int) != nw) = false := bne_eq_false_iff_eq.2 hd
  have t1 : decide (fr < 0) = false := decide_eq_false h1
  have t2 : decide (old < 0) = true := decide_eq_true h2
  clear hb B4 B5 B6 hI hV hC hd h1 h2
  go_enter Try.func19, Try.ntmps19
  go_upto_region 1 with fail
  rw [← hwa, ← hbb]
  clear hwa hbb
  go_wp2_with fail
  (with_reducible refine hcall.mono ?_)
  rintro e w2 ⟨rfl, hb2⟩
  have HI2 := Aside0.mk (HI.out.step hb2)
  clear hcall hb2 p0 p1 p2 HI
  dsimp only
  have hcall := HC.out w2 (HB.out.trans ((HI2.out.hb).mono (by rw [HBB.out]; omega)))
  have p1 := HI2.out.i1
  go_wp2_with fail
  (with_reducible refine hcall.mono ?_)
  rintro e w3 ⟨rfl, hb3⟩
  have HI3 := Aside0.mk (HI2.out.step hb3)
  clear hcall hb3 HC HI2 p1
  dsimp only
  have p0 := HI3.out.i0
  have p1 := HI3.out.i1
  have p2 := HI3.out.i2
  have q0 := HI3.out.c0
  have q1 := HI3.out.c1
  have q2 := HI3.out.c2
  have r0 := cell_of_block HI3.out.B6 0 _ rfl
  have r1 := cell_of_block HI3.out.B6 1 _ rfl
  have r2 := cell_of_block HI3.out.B6 2 _ rfl
  have f0 := blk_frozen HI3.out.B6 0
  have f1 := blk_frozen HI3.out.B6 1
  have f2 := blk_frozen HI3.out.B6 2
  have HBW := Aside0.mk (show Below w.heap.size w w3 from HB.out.trans ((HI3.out.hb).mono (by rw [HBB.out]; omega)))
  have HS3 := Aside0.mk (set3 (B := b) (wa := wa) (by omega) (by have := HI3.out.lt; omega) HI3.out.B6 (.slice none 0 0) (.slice none 0 0) (.int .i64 0))
  go_wp2_with fail
  exact bodyPost_ret (results_ct rfl _ _ (b + 1 + 1) 25 _ (0, 0) _ rfl HS3.out.1 hu25 rfl (by kernel_rfl)) rfl ⟨rfl, HBW.out.trans (HBB.out ▸ HS3.out.2)⟩
set_option maxHeartbeats 4000000 in
set_option maxRecDepth 100000 in
theorem rep_f (A0 : Option Addr) (c0 n0 : Nat) (A1 : Option Addr) (c1 n1 : Nat) (sw : Int) (fr old nw : Int) (A2 : Option Addr) (c2 m : Nat) (w : World) (hm : m ≤ 1000000) (hn : n0 ≤ 1000000)
    (hV : ∀ W', Below w.heap.size w W' → Calls Try.prog 11 #[.agg #[.slice A0 n0 c0, .slice A1 n1 c1, .int .i64 sw], .int .i64 n1] W' fun e w' => e = .returned (.bool true) ∧ Below W'.heap.size W' w')
    (hC : ∀ W', Below w.heap.size w W' → Calls Try.prog 25 #[.slice A2 m c2, .int .i64 n1] W' fun e w' => e = .returned (.bool true) ∧ Below W'.heap.size W' w') (hd : (m : Int) = nw) (h1 : ¬ fr < 0) (h2 : ¬ old < 0) (h3 : fr > n0) :
    Calls Try.prog 19 #[.agg #[.slice A0 n0 c0, .slice A1 n1 c1, .int .i64 sw], .agg #[.int .i64 fr, .int .i64 old, .int .i64 nw], .slice A2 m c2] w fun e w' => e = .returned (errV 2) ∧ Below w.heap.size w w' := by
  have hu25 := Try.underlying25
  have hu45 := Try.underlying45
  obtain ⟨wa, hwa⟩ : ∃ wa : World, wa = ((w.alloc (Obj.cells #[.slice A0 n0 c0, .slice A1 n1 c1, .int .i64 sw] 25)).alloc (Obj.cells #[.int .i64 fr, .int .i64 old, .int .i64 nw] 45)).alloc (Obj.cells #[.slice none 0 0, .slice none 0 0, .int .i64 0] 25) := ⟨_, rfl⟩
  obtain ⟨b, hbb⟩ : ∃ b, b = w.heap.size := ⟨_, rfl⟩
  have hb : Below w.heap.size w wa := by rw [hwa]; exact below_alloc (below_alloc (below_alloc (Below.refl _ _) _) _) _
  have B4 : wa.heap[b]? = some (Obj.cells #[.slice A0 n0 c0, .slice A1 n1 c1, .int .i64 sw] 25 (0, 0)) := by rw [hwa]; exact blk_Kp (S := fun _ => False) (blk_Kp (S := fun _ => False) (blk_new hbb) (Kp.of_below (below_alloc (Below.refl _ _) _)) (fun h => h)) (Kp.of_below (below_alloc (Below.refl _ _) _)) (fun h => h)
  have B5 : wa.heap[b + 1]? = some (Obj.cells #[.int .i64 fr, .int .i64 old, .int .i64 nw] 45 (0, 0)) := by rw [hwa]; exact blk_Kp (S := fun _ => False) (blk_new (by rw [hbb]; simp)) (Kp.of_below (below_alloc (Below.refl _ _) _)) (fun h => h)
  have B6 : wa.heap[b + 1 + 1]? = some (Obj.cells #[.slice none 0 0, .slice none 0 0, .int .i64 0] 25 (0, 0)) := by rw [hwa]; exact blk_new (by rw [hbb]; simp)
  have hI : RpI b (.slice A0 n0 c0) (.slice A1 n1 c1) sw fr old nw wa wa := ⟨Below.refl _ _, by rw [hwa, hbb]; simp, cell_of_block B4 0 _ rfl, cell_of_block B4 1 _ rfl, cell_of_block B4 2 _ rfl, cell_of_block B5 0 _ rfl, cell_of_block B5 1 _ rfl, cell_of_block B5 2 _ rfl, B6⟩
  have p0 := hI.i0
  have p1 := hI.i1
  have p2 := hI.i2
  have hcall := hV wa hb
  have HB := Aside0.mk hb
  have HBB := Aside0.mk (show w.heap.size = b from hbb.symm)
  have HI := Aside0.mk hI
  have HC := Aside0.mk hC
  have d0 : ((m : Int) != nw) = false := bne_eq_false_iff_eq.2 hd
  have t1 : decide (fr < 0) = false := decide_eq_false h1
  have t2 : decide (old < 0) = false := decide_eq_false h2
  have t3 : decide ((n0 : Int) < fr) = true := decide_eq_true h3
  clear hb B4 B5 B6 hI hV hC hd h1 h2 h3
  go_enter Try.func19, Try.ntmps19
  go_upto_region 1 with fail
  rw [← hwa, ← hbb]
  clear hwa hbb
  go_wp2_with fail
  (with_reducible refine hcall.mono ?_)
  rintro e w2 ⟨rfl, hb2⟩
  have HI2 := Aside0.mk (HI.out.step hb2)
  clear hcall hb2 p0 p1 p2 HI
  dsimp only
  have hcall := HC.out w2 (HB.out.trans ((HI2.out.hb).mono (by rw [HBB.out]; omega)))
  have p1 := HI2.out.i1
  go_wp2_with fail
  (with_reducible refine hcall.mono ?_)
  rintro e w3 ⟨rfl, hb3⟩
  have HI3 := Aside0.mk (HI2.out.step hb3)
  clear hcall hb3 HC HI2 p1
  dsimp only
  have p0 := HI3.out.i0
  have p1 := HI3.out.i1
  have p2 := HI3.out.i2
  have q0 := HI3.out.c0
  have q1 := HI3.out.c1
  have q2 := HI3.out.c2
  have r0 := cell_of_block HI3.out.B6 0 _ rfl
  have r1 := cell_of_block HI3.out.B6 1 _ rfl
  have r2 := cell_of_block HI3.out.B6 2 _ rfl
  have f0 := blk_frozen HI3.out.B6 0
  have f1 := blk_frozen HI3.out.B6 1
  have f2 := blk_frozen HI3.out.B6 2
  have HBW := Aside0.mk (show Below w.heap.size w w3 from HB.out.trans ((HI3.out.hb).mono (by rw [HBB.out]; omega)))
  have HS3 := Aside0.mk (set3 (B := b) (wa := wa) (by omega) (by have := HI3.out.lt; omega) HI3.out.B6 (.slice none 0 0) (.slice none 0 0) (.int .i64 0))
  go_wp2_with fail
  exact bodyPost_ret (results_ct rfl _ _ (b + 1 + 1) 25 _ (0, 0) _ rfl HS3.out.1 hu25 rfl (by kernel_rfl)) rfl ⟨rfl, HBW.out.trans (HBB.out ▸ HS3.out.2)⟩
set_option maxHeartbeats 4000000 in
set_option maxRecDepth 100000 in
theorem rep_g (A0 : Option Addr) (c0 n0 : Nat) (A1 : Option Addr) (c1 n1 : Nat) (sw : Int) (fr old nw : Int) (A2 : Option Addr) (c2 m : Nat) (w : World) (hm : m ≤ 1000000) (hn : n0 ≤ 1000000)
    (hV : ∀ W', Below w.heap.size w W' → Calls Try.prog 11 #[.agg #[.slice A0 n0 c0, .slice A1 n1 c1, .int .i64 sw], .int .i64 n1] W' fun e w' => e = .returned (.bool true) ∧ Below W'.heap.size W' w')
    (hC : ∀ W', Below w.heap.size w W' → Calls Try.prog 25 #[.slice A2 m c2, .int .i64 n1] W' fun e w' => e = .returned (.bool true) ∧ Below W'.heap.size W' w') (hd : (m : Int) = nw) (h1 : ¬ fr < 0) (h2 : ¬ old < 0) (h3 : ¬ fr > n0) (h4 : old > n0 - fr) :
    Calls Try.prog 19 #[.agg #[.slice A0 n0 c0, .slice A1 n1 c1, .int .i64 sw], .agg #[.int .i64 fr, .int .i64 old, .int .i64 nw], .slice A2 m c2] w fun e w' => e = .returned (errV 2) ∧ Below w.heap.size w w' := by
  have hu25 := Try.underlying25
  have hu45 := Try.underlying45
  obtain ⟨wa, hwa⟩ : ∃ wa : World, wa = ((w.alloc (Obj.cells #[.slice A0 n0 c0, .slice A1 n1 c1, .int .i64 sw] 25)).alloc (Obj.cells #[.int .i64 fr, .int .i64 old, .int .i64 nw] 45)).alloc (Obj.cells #[.slice none 0 0, .slice none 0 0, .int .i64 0] 25) := ⟨_, rfl⟩
  obtain ⟨b, hbb⟩ : ∃ b, b = w.heap.size := ⟨_, rfl⟩
  have hb : Below w.heap.size w wa := by rw [hwa]; exact below_alloc (below_alloc (below_alloc (Below.refl _ _) _) _) _
  have B4 : wa.heap[b]? = some (Obj.cells #[.slice A0 n0 c0, .slice A1 n1 c1, .int .i64 sw] 25 (0, 0)) := by rw [hwa]; exact blk_Kp (S := fun _ => False) (blk_Kp (S := fun _ => False) (blk_new hbb) (Kp.of_below (below_alloc (Below.refl _ _) _)) (fun h => h)) (Kp.of_below (below_alloc (Below.refl _ _) _)) (fun h => h)
  have B5 : wa.heap[b + 1]? = some (Obj.cells #[.int .i64 fr, .int .i64 old, .int .i64 nw] 45 (0, 0)) := by rw [hwa]; exact blk_Kp (S := fun _ => False) (blk_new (by rw [hbb]; simp)) (Kp.of_below (below_alloc (Below.refl _ _) _)) (fun h => h)
  have B6 : wa.heap[b + 1 + 1]? = some (Obj.cells #[.slice none 0 0, .slice none 0 0, .int .i64 0] 25 (0, 0)) := by rw [hwa]; exact blk_new (by rw [hbb]; simp)
  have hI : RpI b (.slice A0 n0 c0) (.slice A1 n1 c1) sw fr old nw wa wa := ⟨Below.refl _ _, by rw [hwa, hbb]; simp, cell_of_block B4 0 _ rfl, cell_of_block B4 1 _ rfl, cell_of_block B4 2 _ rfl, cell_of_block B5 0 _ rfl, cell_of_block B5 1 _ rfl, cell_of_block B5 2 _ rfl, B6⟩
  have p0 := hI.i0
  have p1 := hI.i1
  have p2 := hI.i2
  have hcall := hV wa hb
  have HB := Aside0.mk hb
  have HBB := Aside0.mk (show w.heap.size = b from hbb.symm)
  have HI := Aside0.mk hI
  have HC := Aside0.mk hC
  have d0 : ((m : Int) != nw) = false := bne_eq_false_iff_eq.2 hd
  have t1 : decide (fr < 0) = false := decide_eq_false h1
  have t2 : decide (old < 0) = false := decide_eq_false h2
  have t3 : decide ((n0 : Int) < fr) = false := decide_eq_false h3
  have z1 : 0 ≤ fr := by omega
  have z2 : fr ≤ n0 := by omega
  have z3 : (n0 : Int) ≤ 1000000 := by omega
  have t4 : decide ((n0 : Int) - fr < old) = true := decide_eq_true h4
  clear hb B4 B5 B6 hI hV hC hd h1 h2 h3 h4
  go_enter Try.func19, Try.ntmps19
  go_upto_region 1 with fail
  rw [← hwa, ← hbb]
  clear hwa hbb
  go_wp2_with fail
  (with_reducible refine hcall.mono ?_)
  rintro e w2 ⟨rfl, hb2⟩
  have HI2 := Aside0.mk (HI.out.step hb2)
  clear hcall hb2 p0 p1 p2 HI
  dsimp only
  have hcall := HC.out w2 (HB.out.trans ((HI2.out.hb).mono (by rw [HBB.out]; omega)))
  have p1 := HI2.out.i1
  go_wp2_with fail
  (with_reducible refine hcall.mono ?_)
  rintro e w3 ⟨rfl, hb3⟩
  have HI3 := Aside0.mk (HI2.out.step hb3)
  clear hcall hb3 HC HI2 p1
  dsimp only
  have p0 := HI3.out.i0
  have p1 := HI3.out.i1
  have p2 := HI3.out.i2
  have q0 := HI3.out.c0
  have q1 := HI3.out.c1
  have q2 := HI3.out.c2
  have r0 := cell_of_block HI3.out.B6 0 _ rfl
  have r1 := cell_of_block HI3.out.B6 1 _ rfl
  have r2 := cell_of_block HI3.out.B6 2 _ rfl
  have f0 := blk_frozen HI3.out.B6 0
  have f1 := blk_frozen HI3.out.B6 1
  have f2 := blk_frozen HI3.out.B6 2
  have HBW := Aside0.mk (show Below w.heap.size w w3 from HB.out.trans ((HI3.out.hb).mono (by rw [HBB.out]; omega)))
  have HS3 := Aside0.mk (set3 (B := b) (wa := wa) (by omega) (by have := HI3.out.lt; omega) HI3.out.B6 (.slice none 0 0) (.slice none 0 0) (.int .i64 0))
  go_wp2_with fail
  exact bodyPost_ret (results_ct rfl _ _ (b + 1 + 1) 25 _ (0, 0) _ rfl HS3.out.1 hu25 rfl (by kernel_rfl)) rfl ⟨rfl, HBW.out.trans (HBB.out ▸ HS3.out.2)⟩
set_option maxHeartbeats 4000000 in
set_option maxRecDepth 100000 in
theorem rep_h (A0 : Option Addr) (c0 n0 : Nat) (A1 : Option Addr) (c1 n1 : Nat) (sw : Int) (fr old nw : Int) (A2 : Option Addr) (c2 m : Nat) (w : World) (hm : m ≤ 1000000) (hn : n0 ≤ 1000000)
    (hV : ∀ W', Below w.heap.size w W' → Calls Try.prog 11 #[.agg #[.slice A0 n0 c0, .slice A1 n1 c1, .int .i64 sw], .int .i64 n1] W' fun e w' => e = .returned (.bool true) ∧ Below W'.heap.size W' w')
    (hC : ∀ W', Below w.heap.size w W' → Calls Try.prog 25 #[.slice A2 m c2, .int .i64 n1] W' fun e w' => e = .returned (.bool true) ∧ Below W'.heap.size W' w') (hd : (m : Int) = nw) (h1 : ¬ fr < 0) (h2 : ¬ old < 0) (h3 : ¬ fr > n0) (h4 : ¬ old > n0 - fr) (h5 : n0 - old + m > 60) :
    Calls Try.prog 19 #[.agg #[.slice A0 n0 c0, .slice A1 n1 c1, .int .i64 sw], .agg #[.int .i64 fr, .int .i64 old, .int .i64 nw], .slice A2 m c2] w fun e w' => e = .returned (errV 11) ∧ Below w.heap.size w w' := by
  have hu25 := Try.underlying25
  have hu45 := Try.underlying45
  obtain ⟨wa, hwa⟩ : ∃ wa : World, wa = ((w.alloc (Obj.cells #[.slice A0 n0 c0, .slice A1 n1 c1, .int .i64 sw] 25)).alloc (Obj.cells #[.int .i64 fr, .int .i64 old, .int .i64 nw] 45)).alloc (Obj.cells #[.slice none 0 0, .slice none 0 0, .int .i64 0] 25) := ⟨_, rfl⟩
  obtain ⟨b, hbb⟩ : ∃ b, b = w.heap.size := ⟨_, rfl⟩
  have hb : Below w.heap.size w wa := by rw [hwa]; exact below_alloc (below_alloc (below_alloc (Below.refl _ _) _) _) _
  have B4 : wa.heap[b]? = some (Obj.cells #[.slice A0 n0 c0, .slice A1 n1 c1, .int .i64 sw] 25 (0, 0)) := by rw [hwa]; exact blk_Kp (S := fun _ => False) (blk_Kp (S := fun _ => False) (blk_new hbb) (Kp.of_below (below_alloc (Below.refl _ _) _)) (fun h => h)) (Kp.of_below (below_alloc (Below.refl _ _) _)) (fun h => h)
  have B5 : wa.heap[b + 1]? = some (Obj.cells #[.int .i64 fr, .int .i64 old, .int .i64 nw] 45 (0, 0)) := by rw [hwa]; exact blk_Kp (S := fun _ => False) (blk_new (by rw [hbb]; simp)) (Kp.of_below (below_alloc (Below.refl _ _) _)) (fun h => h)
  have B6 : wa.heap[b + 1 + 1]? = some (Obj.cells #[.slice none 0 0, .slice none 0 0, .int .i64 0] 25 (0, 0)) := by rw [hwa]; exact blk_new (by rw [hbb]; simp)
  have hI : RpI b (.slice A0 n0 c0) (.slice A1 n1 c1) sw fr old nw wa wa := ⟨Below.refl _ _, by rw [hwa, hbb]; simp, cell_of_block B4 0 _ rfl, cell_of_block B4 1 _ rfl, cell_of_block B4 2 _ rfl, cell_of_block B5 0 _ rfl, cell_of_block B5 1 _ rfl, cell_of_block B5 2 _ rfl, B6⟩
  have p0 := hI.i0
  have p1 := hI.i1
  have p2 := hI.i2
  have hcall := hV wa hb
  have HB := Aside0.mk hb
  have HBB := Aside0.mk (show w.heap.size = b from hbb.symm)
  have HI := Aside0.mk hI
  have HC := Aside0.mk hC
  have d0 : ((m : Int) != nw) = false := bne_eq_false_iff_eq.2 hd
  have t1 : decide (fr < 0) = false := decide_eq_false h1
  have t2 : decide (old < 0) = false := decide_eq_false h2
  have t3 : decide ((n0 : Int) < fr) = false := decide_eq_false h3
  have z1 : 0 ≤ fr := by omega
  have z2 : fr ≤ n0 := by omega
  have z3 : (n0 : Int) ≤ 1000000 := by omega
  have t4 : decide ((n0 : Int) - fr < old) = false := decide_eq_false h4
  have t5 : decide ((60 : Int) < (n0 : Int) - old + (m : Int)) = true := decide_eq_true h5
  have z4 : 0 ≤ old := by omega
  have z5 : old ≤ n0 := by omega
  have z6 : (m : Int) ≤ 1000000 := by omega
  clear hb B4 B5 B6 hI hV hC hd h1 h2 h3 h4 h5
  go_enter Try.func19, Try.ntmps19
  go_upto_region 1 with fail
  rw [← hwa, ← hbb]
  clear hwa hbb
  go_wp2_with fail
  (with_reducible refine hcall.mono ?_)
  rintro e w2 ⟨rfl, hb2⟩
  have HI2 := Aside0.mk (HI.out.step hb2)
  clear hcall hb2 p0 p1 p2 HI
  dsimp only
  have hcall := HC.out w2 (HB.out.trans ((HI2.out.hb).mono (by rw [HBB.out]; omega)))
  have p1 := HI2.out.i1
  go_wp2_with fail
  (with_reducible refine hcall.mono ?_)
  rintro e w3 ⟨rfl, hb3⟩
  have HI3 := Aside0.mk (HI2.out.step hb3)
  clear hcall hb3 HC HI2 p1
  dsimp only
  have p0 := HI3.out.i0
  have p1 := HI3.out.i1
  have p2 := HI3.out.i2
  have q0 := HI3.out.c0
  have q1 := HI3.out.c1
  have q2 := HI3.out.c2
  have r0 := cell_of_block HI3.out.B6 0 _ rfl
  have r1 := cell_of_block HI3.out.B6 1 _ rfl
  have r2 := cell_of_block HI3.out.B6 2 _ rfl
  have f0 := blk_frozen HI3.out.B6 0
  have f1 := blk_frozen HI3.out.B6 1
  have f2 := blk_frozen HI3.out.B6 2
  have HBW := Aside0.mk (show Below w.heap.size w w3 from HB.out.trans ((HI3.out.hb).mono (by rw [HBB.out]; omega)))
  have HS3 := Aside0.mk (set3 (B := b) (wa := wa) (by omega) (by have := HI3.out.lt; omega) HI3.out.B6 (.slice none 0 0) (.slice none 0 0) (.int .i64 0))
  go_wp2_with fail
  exact bodyPost_ret (results_ct rfl _ _ (b + 1 + 1) 25 _ (0, 0) _ rfl HS3.out.1 hu25 rfl (by kernel_rfl)) rfl ⟨rfl, HBW.out.trans (HBB.out ▸ HS3.out.2)⟩
end Go.Proofs.Ytcigcacjjdpgfaa.Hand
/- columns.Replace by hand: the way with a result (printed by wip/35/gen_replace.py). -/
namespace Go.Proofs.Ytcigcacjjdpgfaa.Hand
open Go.RowKit Go.Proofs.YtcigcacjjdpgfaaW.PrintWords Go.Proofs.YtcigcacjjdpgfaaW.PrintLast Go.Proofs.YtcigcacjjdpgfaaW.PrintMore Go.Proofs.Ytcigcacjjdpgfaa.PA
set_option linter.unusedVariables false
set_option linter.unusedSimpArgs false
/-- What is held while the columns are joined. -/
def RpT (b : Nat) (v0 v1 : Value) (sw fr old nw : Int) (wa w' : World) : Prop := w'.cell? ⟨b, 0, none⟩ = some v0 ∧ w'.cell? ⟨b + 1, 0, none⟩ = some (.int .i64 fr) ∧ w'.cell? ⟨b + 1, 1, none⟩ = some (.int .i64 old) ∧ Aside0 (RpI b v0 v1 sw fr old nw wa w')
theorem RpT.of {b : Nat} {v0 v1 : Value} {sw fr old nw : Int} {wa w' : World} (h : RpI b v0 v1 sw fr old nw wa w') : RpT b v0 v1 sw fr old nw wa w' := ⟨h.i0, h.c0, h.c1, ⟨h⟩⟩
theorem RpT.step {b : Nat} {v0 v1 : Value} {sw fr old nw : Int} {wa w' w2 : World} (h : RpT b v0 v1 sw fr old nw wa w') (hb : Below w'.heap.size w' w2) : RpT b v0 v1 sw fr old nw wa w2 := RpT.of (h.2.2.2.out.step hb)
theorem RpT.below {b : Nat} {v0 v1 : Value} {sw fr old nw : Int} {w wa w' : World} (hB : Below w.heap.size w wa) (hb : w.heap.size = b) (h : RpT b v0 v1 sw fr old nw wa w') : Below w.heap.size w w' := hB.trans (h.2.2.2.out.hb.mono (by omega))
set_option maxHeartbeats 4000000 in
set_option maxRecDepth 100000 in
theorem rep_ok (A0 : Option Addr) (c0 n0 : Nat) (A1 : Option Addr) (c1 n1 : Nat) (sw : Int) (fr old nw : Int) (A2 : Option Addr) (c2 m : Nat) (w : World) (hm : m ≤ 1000000) (hn : n0 ≤ 1000000)
    (hV : ∀ W', Below w.heap.size w W' → Calls Try.prog 11 #[.agg #[.slice A0 n0 c0, .slice A1 n1 c1, .int .i64 sw], .int .i64 n1] W' fun e w' => e = .returned (.bool true) ∧ Below W'.heap.size W' w')
    (hC : ∀ W', Below w.heap.size w W' → Calls Try.prog 25 #[.slice A2 m c2, .int .i64 n1] W' fun e w' => e = .returned (.bool true) ∧ Below W'.heap.size W' w') (f o : Nat) (hf : fr = f) (ho : old = o) (hfo : f + o ≤ n0) (hnc : n0 ≤ c0) (hd : (m : Int) = nw) (h5 : ¬ (n0 : Int) - o + m > 60) (res : List S51)
    (hcat : ∀ W' bb, Below w.heap.size w W' → W'.heap[bb]? = some (.cells #[.slice A0 f c0, .slice A2 m c2, .slice (if c0 = f + o then A0 else A0.map (·.add ((f + o) * 3))) (n0 - (f + o)) (c0 - (f + o))] 22 (0, 0)) →
      Calls Try.prog 33 #[.slice (some ⟨bb, 0, none⟩) 3 3] W' fun e w' => ∃ v, e = .returned v ∧ Kd.R (Kd.fixed k51 w) 51 w' W'.heap.size (fun _ => True) v res ∧ Below W'.heap.size W' w') :
    Calls Try.prog 19 #[.agg #[.slice A0 n0 c0, .slice A1 n1 c1, .int .i64 sw], .agg #[.int .i64 fr, .int .i64 old, .int .i64 nw], .slice A2 m c2] w fun e w' => ∃ v, e = .returned (.tuple #[.agg #[v, .slice A1 n1 c1, .int .i64 sw], .int .i64 0]) ∧ Kd.R (Kd.fixed k51 w) 51 w' w.heap.size (fun _ => True) v res ∧ Below w.heap.size w w' := by
  have hu25 := Try.underlying25
  have hu45 := Try.underlying45
  obtain ⟨wa, hwa⟩ : ∃ wa : World, wa = ((w.alloc (Obj.cells #[.slice A0 n0 c0, .slice A1 n1 c1, .int .i64 sw] 25)).alloc (Obj.cells #[.int .i64 f, .int .i64 o, .int .i64 nw] 45)).alloc (Obj.cells #[.slice none 0 0, .slice none 0 0, .int .i64 0] 25) := ⟨_, rfl⟩
  obtain ⟨b, hbb⟩ : ∃ b, b = w.heap.size := ⟨_, rfl⟩
  have hb : Below w.heap.size w wa := by rw [hwa]; exact below_alloc (below_alloc (below_alloc (Below.refl _ _) _) _) _
  have B4 : wa.heap[b]? = some (Obj.cells #[.slice A0 n0 c0, .slice A1 n1 c1, .int .i64 sw] 25 (0, 0)) := by rw [hwa]; exact blk_Kp (S := fun _ => False) (blk_Kp (S := fun _ => False) (blk_new hbb) (Kp.of_below (below_alloc (Below.refl _ _) _)) (fun h => h)) (Kp.of_below (below_alloc (Below.refl _ _) _)) (fun h => h)
  have B5 : wa.heap[b + 1]? = some (Obj.cells #[.int .i64 f, .int .i64 o, .int .i64 nw] 45 (0, 0)) := by rw [hwa]; exact blk_Kp (S := fun _ => False) (blk_new (by rw [hbb]; simp)) (Kp.of_below (below_alloc (Below.refl _ _) _)) (fun h => h)
  have B6 : wa.heap[b + 1 + 1]? = some (Obj.cells #[.slice none 0 0, .slice none 0 0, .int .i64 0] 25 (0, 0)) := by rw [hwa]; exact blk_new (by rw [hbb]; simp)
  have hI : RpI b (.slice A0 n0 c0) (.slice A1 n1 c1) sw f o nw wa wa := ⟨Below.refl _ _, by rw [hwa, hbb]; simp, cell_of_block B4 0 _ rfl, cell_of_block B4 1 _ rfl, cell_of_block B4 2 _ rfl, cell_of_block B5 0 _ rfl, cell_of_block B5 1 _ rfl, cell_of_block B5 2 _ rfl, B6⟩
  have p0 := hI.i0
  have p1 := hI.i1
  have p2 := hI.i2
  have hcall := hV wa hb
  have HB := Aside0.mk hb
  have HBB := Aside0.mk (show w.heap.size = b from hbb.symm)
  have HI := Aside0.mk hI
  have HC := Aside0.mk hC
  have d0 : ((m : Int) != nw) = false := bne_eq_false_iff_eq.2 hd
  have HCAT := Aside0.mk hcat
  subst hf ho
  have t1 : decide ((f : Int) < 0) = false := decide_eq_false (by omega)
  have t2 : decide ((o : Int) < 0) = false := decide_eq_false (by omega)
  have t3 : decide ((n0 : Int) < (f : Int)) = false := decide_eq_false (by omega)
  have t3b : decide (n0 < f) = false := decide_eq_false (by omega)
  have t4 : decide ((n0 : Int) - (f : Int) < (o : Int)) = false := decide_eq_false (by omega)
  have t5 : decide ((60 : Int) < (n0 : Int) - (o : Int) + (m : Int)) = false := decide_eq_false h5
  have z1 : (n0 : Int) ≤ 1000000 := by omega
  have z2 : (m : Int) ≤ 1000000 := by omega
  have z3 : f ≤ n0 := by omega
  have z4 : o ≤ n0 := by omega
  clear hb B4 B5 B6 hI hV hC hd h5 hcat
  go_enter Try.func19, Try.ntmps19
  go_upto_region 1 with fail
  rw [← hwa, ← hbb]
  clear hwa hbb
  go_wp2_with fail
  (with_reducible refine hcall.mono ?_)
  rintro e w2 ⟨rfl, hb2⟩
  have HI2 := Aside0.mk (HI.out.step hb2)
  clear hcall hb2 p0 p1 p2 HI
  dsimp only
  have hcall := HC.out w2 (HB.out.trans ((HI2.out.hb).mono (by rw [HBB.out]; omega)))
  have p1 := HI2.out.i1
  go_wp2_with fail
  (with_reducible refine hcall.mono ?_)
  rintro e w3 ⟨rfl, hb3⟩
  have HI3 := Aside0.mk (HI2.out.step hb3)
  clear hcall hb3 HC HI2 p1
  dsimp only
  have p0 := HI3.out.i0
  have p1 := HI3.out.i1
  have p2 := HI3.out.i2
  have q0 := HI3.out.c0
  have q1 := HI3.out.c1
  have q2 := HI3.out.c2
  have r0 := cell_of_block HI3.out.B6 0 _ rfl
  have r1 := cell_of_block HI3.out.B6 1 _ rfl
  have r2 := cell_of_block HI3.out.B6 2 _ rfl
  have f0 := blk_frozen HI3.out.B6 0
  have f1 := blk_frozen HI3.out.B6 1
  have f2 := blk_frozen HI3.out.B6 2
  have HBW := Aside0.mk (show Below w.heap.size w w3 from HB.out.trans ((HI3.out.hb).mono (by rw [HBB.out]; omega)))
  go_upto_region 8 with fail
  obtain ⟨i22, hi22, hz0, hz1, hz2⟩ := info_parts info51
  have hcut1 := cut_to (P := Try.prog) 22 51 .i64 Try.underlying22 hi22 A0 n0 c0 (f : Int) (by omega) (by omega) hnc
  have hcut2 := cut_from (P := Try.prog) 22 51 .i64 Try.underlying22 hi22 3 hz1 A0 n0 c0 ((f : Int) + (o : Int)) (by omega) (by omega)
  have e0 : ((f : Int) + (o : Int)).toNat = f + o := by omega
  rw [e0] at hcut2
  rw [Int.toNat_natCast] at hcut1
  have e1 : IntKind.i64.wrap ((f : Int) + (o : Int)) = (f : Int) + o := IntWalk.i64_in _ (by omega)
  generalize (if c0 = f + o then A0 else A0.map (·.add ((f + o) * 3))) = A9 at hcut2 HCAT
  clear r0 r1 r2 f0 f1 f2 q2 p1 p2 hi22 hz0 hz1 hz2 e0 t1 t2 t3 t3b t4 t5 d0
  have HCAT2 := Aside0.mk (show ∀ W' bb, RpT b (.slice A0 n0 c0) (.slice A1 n1 c1) sw f o nw wa W' → W'.heap[bb]? = some (.cells #[.slice A0 f c0, .slice A2 m c2, .slice A9 (n0 - (f + o)) (c0 - (f + o))] 22 (0, 0)) →
      Calls Try.prog 33 #[.slice (some ⟨bb, 0, none⟩) 3 3] W' fun e w' => ∃ v, e = .returned v ∧ Kd.R (Kd.fixed k51 w) 51 w' (b + 3) (fun _ => True) v res ∧ Below W'.heap.size W' w' from
    fun W' bb h h2 => (HCAT.out W' bb (RpT.below HB.out HBB.out h) h2).mono fun e w' ⟨v, he, hR, hb⟩ => ⟨v, he, Kd.R_lower hR h.2.2.2.out.lt, hb⟩)
  clear HCAT
  have HS : RpT b (.slice A0 n0 c0) (.slice A1 n1 c1) sw f o nw wa w3 := RpT.of HI3.out
  unfold RpT at HS
  go_region_held3 (fun w' => w'.cell? ⟨b, 0, none⟩ = some (.slice A0 n0 c0) ∧ w'.cell? ⟨b + 1, 0, none⟩ = some (.int .i64 f) ∧ w'.cell? ⟨b + 1, 1, none⟩ = some (.int .i64 o) ∧ Aside0 (RpI b (.slice A0 n0 c0) (.slice A1 n1 c1) sw f o nw wa w'))
    (first | exact RpT.step (by assumption) (below_drew1 (Below.refl _ _)) | exact RpT.step (by assumption) (by assumption) | exact RpT.step (by assumption) (below_alloc (Below.refl _ _) _))
    ((first | (go_at_call 33; refine (HCAT2.out _ _ ?h1 ?h2).mono ?_; (case h1 => assumption); (case h2 => repeat (first | exact blk_new (by simp) | refine blk_Kp (S := fun _ => False) ?_ (Kp.of_below (below_drew1 (Below.refl _ _))) (fun h => h))); rintro e w' ⟨v, rfl, hR, hb⟩)))
  clear q0 q1 p0 HBW
  have HIF : RpT b (.slice A0 n0 c0) (.slice A1 n1 c1) sw f o nw wa w' := by assumption
  have HI4 := Aside0.mk (HIF.2.2.2.out)
  obtain ⟨A6, c6, e6, hl6, hC6⟩ := Kd.R_reads hR
  subst e6
  have HR := Aside0.mk hR
  obtain ⟨n6, hn6⟩ : ∃ n6, n6 = res.length := ⟨_, rfl⟩
  rw [← hn6]
  clear hR hb HIF hl6 hC6 HCAT2 hcut1 hcut2 e1 HI3
  have p0 := HI4.out.i0
  have p1 := HI4.out.i1
  have p2 := HI4.out.i2
  have q0 := HI4.out.c0
  have q1 := HI4.out.c1
  have q2 := HI4.out.c2
  have r0 := cell_of_block HI4.out.B6 0 _ rfl
  have r1 := cell_of_block HI4.out.B6 1 _ rfl
  have r2 := cell_of_block HI4.out.B6 2 _ rfl
  have f0 := blk_frozen HI4.out.B6 0
  have f1 := blk_frozen HI4.out.B6 1
  have f2 := blk_frozen HI4.out.B6 2
  have HBW := Aside0.mk (show Below w.heap.size w w' from HB.out.trans ((HI4.out.hb).mono (by rw [HBB.out]; omega)))
  have HS4 := Aside0.mk (set3 (B := b) (wa := wa) (by omega) (by have := HI4.out.lt; omega) HI4.out.B6 (.slice A6 n6 c6) (.slice A1 n1 c1) (.int .i64 sw))
  have HRF := Aside0.mk (Kd.R_far (Kd.R_far (Kd.R_far (Kd.R_bound HR.out) (p := ⟨b + 1 + 1, 0, none⟩) (fun k hk => by have := hk.2.1; show k ≠ b + 1 + 1; omega) (.slice A6 n6 c6)) (p := ⟨b + 1 + 1, 1, none⟩) (fun k hk => by have := hk.2.1; show k ≠ b + 1 + 1; omega) (.slice A1 n1 c1)) (p := ⟨b + 1 + 1, 2, none⟩) (fun k hk => by have := hk.2.1; show k ≠ b + 1 + 1; omega) (.int .i64 sw))
  have HN6 := Aside0.mk hn6
  clear hn6
  go_wp2_with fail
  exact bodyPost_ret (results_ct rfl _ _ (b + 1 + 1) 25 _ (0, 0) _ rfl HS4.out.1 hu25 rfl (by kernel_rfl)) rfl ⟨_, rfl, by rw [HN6.out]; exact Kd.R_mono (Kd.R_lower (HN6.out ▸ HRF.out) (by have := HBB.out; omega)) (fun _ _ => trivial), HBW.out.trans (HBB.out ▸ HS4.out.2)⟩
end Go.Proofs.Ytcigcacjjdpgfaa.Hand
/- columns.Replace: its contract, by the plain answer repT. -/
namespace Go.Proofs.Ytcigcacjjdpgfaa.Hand
open Go.RowKit Go.Proofs.YtcigcacjjdpgfaaW.PrintWords Go.Proofs.YtcigcacjjdpgfaaW.PrintLast Go.Proofs.YtcigcacjjdpgfaaW.PrintMore Go.Proofs.Ytcigcacjjdpgfaa.PA
set_option linter.unusedVariables false
set_option linter.unusedSimpArgs false

def repT (xs : List S51) (ins : List Int) (sw fr old nw : Int) (ls : List S51) : List S51 × List Int × Int × Int :=
  if validB xs ins sw ins.length = true ∧ ls.all (vcB ins.length) = true ∧ (ls.length : Int) = nw then
    if fr < 0 ∨ old < 0 ∨ fr > xs.length ∨ old > xs.length - fr then ([], [], 0, 2)
    else if (xs.length : Int) - old + ls.length > 60 then ([], [], 0, 11) else ((xs.take fr.toNat ++ ls) ++ xs.drop (fr.toNat + old.toNat), ins, sw, 0)
  else ([], [], 0, 1)
theorem three_C {W0 W : World} {bb : Nat} {A0 A1 A2 : Option Addr} {c0 c1 c2 n0 n1 n2 : Nat} {x0 x1 x2 : List S51} (h : W.heap[bb]? = some (.cells #[.slice A0 n0 c0, .slice A1 n1 c1, .slice A2 n2 c2] 22 (0, 0)))
    (h0 : (Kd.fixed k51 W0).C W A0 n0 x0) (l0 : n0 ≤ c0) (h1 : (Kd.fixed k51 W0).C W A1 n1 x1) (l1 : n1 ≤ c1) (h2 : (Kd.fixed k51 W0).C W A2 n2 x2) (l2 : n2 ≤ c2) :
    Kd.C (Kd.slice 51 (Kd.fixed k51 W0)) W (some ⟨bb, 0, none⟩) 3 [x0, x1, x2] := by
  have e0 := h0.1
  have e1 := h1.1
  have e2 := h2.1
  refine ⟨rfl, by omega, fun _ => ⟨_, rfl, fun j p hj => ?_⟩⟩
  match j, hj with
  | 0, hj =>
    obtain rfl : x0 = p := by simpa using hj
    refine ⟨[.slice A0 n0 c0], rfl, ⟨A0, c0, by rw [e0], by omega, by rw [e0]; exact h0⟩, fun i u hu => ?_⟩
    match i, hu with
    | 0, hu => exact cell_of_block h 0 u (by simpa using hu)
  | 1, hj =>
    obtain rfl : x1 = p := by simpa using hj
    refine ⟨[.slice A1 n1 c1], rfl, ⟨A1, c1, by rw [e1], by omega, by rw [e1]; exact h1⟩, fun i u hu => ?_⟩
    match i, hu with
    | 0, hu => exact cell_of_block h 1 u (by simpa using hu)
  | 2, hj =>
    obtain rfl : x2 = p := by simpa using hj
    refine ⟨[.slice A2 n2 c2], rfl, ⟨A2, c2, by rw [e2], by omega, by rw [e2]; exact h2⟩, fun i u hu => ?_⟩
    match i, hu with
    | 0, hu => exact cell_of_block h 2 u (by simpa using hu)
theorem Rd_of_fixed {W W' : World} {base : Nat} {ok : Nat → Prop} {v : Value} {xs : List S51} (h : Kd.R (Kd.fixed k51 W) 51 W' base ok v xs) (hb : Below W.heap.size W W') : Rd k51 W' v xs := by
  obtain ⟨A, c, e, hl, hC⟩ := Kd.R_reads h
  refine ⟨A, c, e, hl, hC.1, hC.2.1, fun hp => ?_⟩
  obtain ⟨ad, e2, h3⟩ := hC.2.2 hp
  exact ⟨ad, e2, fun j p hj => by
    obtain ⟨cs, h4, h5, h6⟩ := h3 j p hj
    exact ⟨cs, h4, k51.K_below hb h5, h6⟩⟩
theorem replace_calls (A0 : Option Addr) (c0 : Nat) (xs : List S51) (A1 : Option Addr) (c1 : Nat) (ins : List Int) (sw fr old nw : Int) (A2 : Option Addr) (c2 : Nat) (ls : List S51) (w : World)
    (hx : Kd.C k51 w A0 xs.length xs) (hxc : xs.length ≤ c0) (hi : Kd.C (Kd.int .i64) w A1 ins.length ins) (hic : ins.length ≤ c1) (hl : Kd.C k51 w A2 ls.length ls) (hlc : ls.length ≤ c2) (hm : ls.length ≤ 500) (hn : xs.length ≤ 500) :
    Calls Try.prog 19 #[.agg #[.slice A0 xs.length c0, .slice A1 ins.length c1, .int .i64 sw], .agg #[.int .i64 fr, .int .i64 old, .int .i64 nw], .slice A2 ls.length c2] w fun e w' =>
      ∃ v0 v1, e = .returned (.tuple #[.agg #[v0, v1, .int .i64 (repT xs ins sw fr old nw ls).2.2.1], .int .i64 (repT xs ins sw fr old nw ls).2.2.2]) ∧ Rd k51 w' v0 (repT xs ins sw fr old nw ls).1 ∧ Rd (Kd.int .i64) w' v1 (repT xs ins sw fr old nw ls).2.1 ∧ Below w.heap.size w w' := by
  have hV : ∀ W', Below w.heap.size w W' → Calls Try.prog 11 #[.agg #[.slice A0 xs.length c0, .slice A1 ins.length c1, .int .i64 sw], .int .i64 ins.length] W' fun e w' => e = .returned (.bool (validB xs ins sw ins.length)) ∧ Below W'.heap.size W' w' :=
    fun W' hb => columns_Valid.calls A0 c0 xs A1 c1 ins sw ins.length _ W' (Kd.C_below hx hb) hxc (Kd.C_below hi hb) hic rfl
  have hC : ∀ W', Below w.heap.size w W' → Calls Try.prog 25 #[.slice A2 ls.length c2, .int .i64 ins.length] W' fun e w' => e = .returned (.bool (ls.all (vcB ins.length))) ∧ Below W'.heap.size W' w' :=
    fun W' hb => vcs_calls A2 c2 ls ins.length W' (Kd.C_below hl hb) hlc
  have fin : ∀ (k : Int) (w' : World) (e : Ending), e = .returned (errV k) ∧ Below w.heap.size w w' → repT xs ins sw fr old nw ls = ([], [], 0, k) →
      ∃ v0 v1, e = .returned (.tuple #[.agg #[v0, v1, .int .i64 (repT xs ins sw fr old nw ls).2.2.1], .int .i64 (repT xs ins sw fr old nw ls).2.2.2]) ∧ Rd k51 w' v0 (repT xs ins sw fr old nw ls).1 ∧ Rd (Kd.int .i64) w' v1 (repT xs ins sw fr old nw ls).2.1 ∧ Below w.heap.size w w' := by
    rintro k w' e ⟨he, hb⟩ h
    rw [h]
    exact ⟨_, _, he, Rd.nil _ _, Rd.nil _ _, hb⟩
  have hm' : ls.length ≤ 1000000 := by omega
  have hn' : xs.length ≤ 1000000 := by omega
  cases h1 : validB xs ins sw ins.length
  · rw [h1] at hV
    exact (rep_a A0 c0 xs.length A1 c1 ins.length sw fr old nw A2 c2 ls.length w _ hm' hn' hV hC).mono fun e w' h => fin 1 w' e h (by unfold repT; rw [if_neg (by rw [h1]; simp)])
  · rw [h1] at hV
    cases h2 : ls.all (vcB ins.length)
    · rw [h2] at hC
      exact (rep_b A0 c0 xs.length A1 c1 ins.length sw fr old nw A2 c2 ls.length w hm' hn' hV hC).mono fun e w' h => fin 1 w' e h (by unfold repT; rw [if_neg (by rw [h2]; simp)])
    · rw [h2] at hC
      by_cases h3 : (ls.length : Int) = nw
      · have hr : repT xs ins sw fr old nw ls = if fr < 0 ∨ old < 0 ∨ fr > xs.length ∨ old > xs.length - fr then ([], [], 0, 2)
            else if (xs.length : Int) - old + ls.length > 60 then ([], [], 0, 11) else ((xs.take fr.toNat ++ ls) ++ xs.drop (fr.toNat + old.toNat), ins, sw, 0) := by
          unfold repT
          rw [if_pos ⟨h1, h2, h3⟩]
        by_cases k1 : fr < 0
        · exact (rep_d A0 c0 xs.length A1 c1 ins.length sw fr old nw A2 c2 ls.length w hm' hn' hV hC h3 k1).mono fun e w' h => fin 2 w' e h (by rw [hr, if_pos (.inl k1)])
        · by_cases k2 : old < 0
          · exact (rep_e A0 c0 xs.length A1 c1 ins.length sw fr old nw A2 c2 ls.length w hm' hn' hV hC h3 k1 k2).mono fun e w' h => fin 2 w' e h (by rw [hr, if_pos (.inr (.inl k2))])
          · by_cases k3 : fr > xs.length
            · exact (rep_f A0 c0 xs.length A1 c1 ins.length sw fr old nw A2 c2 ls.length w hm' hn' hV hC h3 k1 k2 k3).mono fun e w' h => fin 2 w' e h (by rw [hr, if_pos (.inr (.inr (.inl k3)))])
            · by_cases k4 : old > xs.length - fr
              · exact (rep_g A0 c0 xs.length A1 c1 ins.length sw fr old nw A2 c2 ls.length w hm' hn' hV hC h3 k1 k2 k3 k4).mono fun e w' h => fin 2 w' e h (by rw [hr, if_pos (.inr (.inr (.inr k4)))])
              · have hr2 : repT xs ins sw fr old nw ls = if (xs.length : Int) - old + ls.length > 60 then ([], [], 0, 11) else ((xs.take fr.toNat ++ ls) ++ xs.drop (fr.toNat + old.toNat), ins, sw, 0) := by
                  rw [hr, if_neg (by omega)]
                by_cases k5 : (xs.length : Int) - old + ls.length > 60
                · exact (rep_h A0 c0 xs.length A1 c1 ins.length sw fr old nw A2 c2 ls.length w hm' hn' hV hC h3 k1 k2 k3 k4 k5).mono fun e w' h => fin 11 w' e h (by rw [hr2, if_pos k5])
                · rw [hr2, if_neg k5]
                  have hfo : fr.toNat + old.toNat ≤ xs.length := by omega
                  have hcat : ∀ W' bb, Below w.heap.size w W' → W'.heap[bb]? = some (.cells #[.slice A0 fr.toNat c0, .slice A2 ls.length c2, .slice (if c0 = fr.toNat + old.toNat then A0 else A0.map (·.add ((fr.toNat + old.toNat) * 3))) (xs.length - (fr.toNat + old.toNat)) (c0 - (fr.toNat + old.toNat))] 22 (0, 0)) →
                      Calls Try.prog 33 #[.slice (some ⟨bb, 0, none⟩) 3 3] W' fun e w' => ∃ v, e = .returned v ∧ Kd.R (Kd.fixed k51 w) 51 w' W'.heap.size (fun _ => True) v ((xs.take fr.toNat ++ ls) ++ xs.drop (fr.toNat + old.toNat)) ∧ Below W'.heap.size W' w' := by
                    intro W' bb hb hB
                    have hx0 : (Kd.fixed k51 w).C w A0 xs.length xs := hx
                    have t1 := Kd.C_take hx0 (m := fr.toNat) (by omega)
                    rw [List.length_take, Nat.min_eq_left (by omega)] at t1
                    have t2 := Kd.C_drop (c := c0) hx0 (m := fr.toNat + old.toNat) hfo hxc
                    rw [List.length_drop] at t2
                    have h3C := three_C hB (Kd.C_below t1 hb) (by omega) (Kd.C_below (show (Kd.fixed k51 w).C w A2 ls.length ls from hl) hb) hlc (Kd.C_below t2 hb) (by omega)
                    have := concat_calls w (some ⟨bb, 0, none⟩) 3 [xs.take fr.toNat, ls, xs.drop (fr.toNat + old.toNat)] W' h3C (by simp; omega)
                    have e : [xs.take fr.toNat, ls, xs.drop (fr.toNat + old.toNat)].flatten = (xs.take fr.toNat ++ ls) ++ xs.drop (fr.toNat + old.toNat) := by simp
                    rw [e] at this
                    exact this
                  refine (rep_ok A0 c0 xs.length A1 c1 ins.length sw fr old nw A2 c2 ls.length w hm' hn' hV hC fr.toNat old.toNat (by omega) (by omega) hfo hxc h3 (by omega) _ hcat).mono ?_
                  rintro e w' ⟨v, he, hR, hb⟩
                  exact ⟨_, _, he, Rd_of_fixed hR hb, ⟨A1, c1, rfl, hic, Kd.C_below hi hb⟩, hb⟩
      · exact (rep_c A0 c0 xs.length A1 c1 ins.length sw fr old nw A2 c2 ls.length w hm' hn' hV hC h3).mono fun e w' h => fin 1 w' e h (by unfold repT; rw [if_neg (fun h => h3 h.2.2)])
end Go.Proofs.Ytcigcacjjdpgfaa.Hand
