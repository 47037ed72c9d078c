import Derived.Test.YtcigcacjjdpgfaaHandG3
/- the reference's Replace by hand: its error ways (printed by wip/35/gen_replace.py). -/
namespace Go.Proofs.Ytcigcacjjdpgfaa.Hand
open Go.RowKit Go.Proofs.YtcigcacjjdpgfaaW.PrintWords Go.Proofs.YtcigcacjjdpgfaaW.PrintLast Go.Proofs.YtcigcacjjdpgfaaW.PrintMore Go.Proofs.Ytcigcacjjdpgfaa.PA
set_option linter.unusedVariables false
set_option linter.unusedSimpArgs false
set_option maxHeartbeats 4000000 in
set_option maxRecDepth 100000 in
theorem rrep_a (A0 : Option Addr) (c0 n0 : Nat) (A1 : Option Addr) (c1 n1 : Nat) (sw : Int) (fr old nw : Int) (A2 : Option Addr) (c2 m : Nat) (w : World) (cb : Bool) (hm : m ≤ 1000000) (hn : n0 ≤ 1000000)
    (hV : ∀ W', Below w.heap.size w W' → Calls Try.prog 12 #[.agg #[.slice A0 n0 c0, .slice A1 n1 c1, .int .i64 sw], .int .i64 n1] W' fun e w' => e = .returned (.bool false) ∧ Below W'.heap.size W' w')
    (hC : ∀ W', Below w.heap.size w W' → Calls Try.prog 26 #[.slice A2 m c2, .int .i64 n1] W' fun e w' => e = .returned (.bool cb) ∧ Below W'.heap.size W' w') :
    Calls Try.prog 20 #[.agg #[.slice A0 n0 c0, .slice A1 n1 c1, .int .i64 sw], .agg #[.int .i64 fr, .int .i64 old, .int .i64 nw], .slice A2 m c2] w fun e w' => e = .returned (errV 1) ∧ Below w.heap.size w w' := by
  have hu25 := Try.underlying25
  have hu45 := Try.underlying45
  obtain ⟨wa, hwa⟩ : ∃ wa : World, wa = ((w.alloc (Obj.cells #[.slice A0 n0 c0, .slice A1 n1 c1, .int .i64 sw] 25)).alloc (Obj.cells #[.int .i64 fr, .int .i64 old, .int .i64 nw] 45)).alloc (Obj.cells #[.slice none 0 0, .slice none 0 0, .int .i64 0] 25) := ⟨_, rfl⟩
  obtain ⟨b, hbb⟩ : ∃ b, b = w.heap.size := ⟨_, rfl⟩
  have hb : Below w.heap.size w wa := by rw [hwa]; exact below_alloc (below_alloc (below_alloc (Below.refl _ _) _) _) _
  have B4 : wa.heap[b]? = some (Obj.cells #[.slice A0 n0 c0, .slice A1 n1 c1, .int .i64 sw] 25 (0, 0)) := by rw [hwa]; exact blk_Kp (S := fun _ => False) (blk_Kp (S := fun _ => False) (blk_new hbb) (Kp.of_below (below_alloc (Below.refl _ _) _)) (fun h => h)) (Kp.of_below (below_alloc (Below.refl _ _) _)) (fun h => h)
  have B5 : wa.heap[b + 1]? = some (Obj.cells #[.int .i64 fr, .int .i64 old, .int .i64 nw] 45 (0, 0)) := by rw [hwa]; exact blk_Kp (S := fun _ => False) (blk_new (by rw [hbb]; simp)) (Kp.of_below (below_alloc (Below.refl _ _) _)) (fun h => h)
  have B6 : wa.heap[b + 1 + 1]? = some (Obj.cells #[.slice none 0 0, .slice none 0 0, .int .i64 0] 25 (0, 0)) := by rw [hwa]; exact blk_new (by rw [hbb]; simp)
  have hI : RpI b (.slice A0 n0 c0) (.slice A1 n1 c1) sw fr old nw wa wa := ⟨Below.refl _ _, by rw [hwa, hbb]; simp, cell_of_block B4 0 _ rfl, cell_of_block B4 1 _ rfl, cell_of_block B4 2 _ rfl, cell_of_block B5 0 _ rfl, cell_of_block B5 1 _ rfl, cell_of_block B5 2 _ rfl, B6⟩
  have p0 := hI.i0
  have p1 := hI.i1
  have p2 := hI.i2
  have hcall := hV wa hb
  have HB := Aside0.mk hb
  have HBB := Aside0.mk (show w.heap.size = b from hbb.symm)
  have HI := Aside0.mk hI
  have HC := Aside0.mk hC
  clear hb B4 B5 B6 hI hV hC
  go_enter Try.func20, Try.ntmps20
  go_upto_region 1 with fail
  rw [← hwa, ← hbb]
  clear hwa hbb
  go_wp2_with fail
  (with_reducible refine hcall.mono ?_)
  rintro e w2 ⟨rfl, hb2⟩
  have HI2 := Aside0.mk (HI.out.step hb2)
  clear hcall hb2 p0 p1 p2 HI
  dsimp only
  have p0 := HI2.out.i0
  have p1 := HI2.out.i1
  have p2 := HI2.out.i2
  have q0 := HI2.out.c0
  have q1 := HI2.out.c1
  have q2 := HI2.out.c2
  have r0 := cell_of_block HI2.out.B6 0 _ rfl
  have r1 := cell_of_block HI2.out.B6 1 _ rfl
  have r2 := cell_of_block HI2.out.B6 2 _ rfl
  have f0 := blk_frozen HI2.out.B6 0
  have f1 := blk_frozen HI2.out.B6 1
  have f2 := blk_frozen HI2.out.B6 2
  have HBW := Aside0.mk (show Below w.heap.size w w2 from HB.out.trans ((HI2.out.hb).mono (by rw [HBB.out]; omega)))
  have HS3 := Aside0.mk (set3 (B := b) (wa := wa) (by omega) (by have := HI2.out.lt; omega) HI2.out.B6 (.slice none 0 0) (.slice none 0 0) (.int .i64 0))
  go_wp2_with fail
  exact bodyPost_ret (results_ct rfl _ _ (b + 1 + 1) 25 _ (0, 0) _ rfl HS3.out.1 hu25 rfl (by kernel_rfl)) rfl ⟨rfl, HBW.out.trans (HBB.out ▸ HS3.out.2)⟩
set_option maxHeartbeats 4000000 in
set_option maxRecDepth 100000 in
theorem rrep_b (A0 : Option Addr) (c0 n0 : Nat) (A1 : Option Addr) (c1 n1 : Nat) (sw : Int) (fr old nw : Int) (A2 : Option Addr) (c2 m : Nat) (w : World) (hm : m ≤ 1000000) (hn : n0 ≤ 1000000)
    (hV : ∀ W', Below w.heap.size w W' → Calls Try.prog 12 #[.agg #[.slice A0 n0 c0, .slice A1 n1 c1, .int .i64 sw], .int .i64 n1] W' fun e w' => e = .returned (.bool true) ∧ Below W'.heap.size W' w')
    (hC : ∀ W', Below w.heap.size w W' → Calls Try.prog 26 #[.slice A2 m c2, .int .i64 n1] W' fun e w' => e = .returned (.bool false) ∧ Below W'.heap.size W' w') :
    Calls Try.prog 20 #[.agg #[.slice A0 n0 c0, .slice A1 n1 c1, .int .i64 sw], .agg #[.int .i64 fr, .int .i64 old, .int .i64 nw], .slice A2 m c2] w fun e w' => e = .returned (errV 1) ∧ Below w.heap.size w w' := by
  have hu25 := Try.underlying25
  have hu45 := Try.underlying45
  obtain ⟨wa, hwa⟩ : ∃ wa : World, wa = ((w.alloc (Obj.cells #[.slice A0 n0 c0, .slice A1 n1 c1, .int .i64 sw] 25)).alloc (Obj.cells #[.int .i64 fr, .int .i64 old, .int .i64 nw] 45)).alloc (Obj.cells #[.slice none 0 0, .slice none 0 0, .int .i64 0] 25) := ⟨_, rfl⟩
  obtain ⟨b, hbb⟩ : ∃ b, b = w.heap.size := ⟨_, rfl⟩
  have hb : Below w.heap.size w wa := by rw [hwa]; exact below_alloc (below_alloc (below_alloc (Below.refl _ _) _) _) _
  have B4 : wa.heap[b]? = some (Obj.cells #[.slice A0 n0 c0, .slice A1 n1 c1, .int .i64 sw] 25 (0, 0)) := by rw [hwa]; exact blk_Kp (S := fun _ => False) (blk_Kp (S := fun _ => False) (blk_new hbb) (Kp.of_below (below_alloc (Below.refl _ _) _)) (fun h => h)) (Kp.of_below (below_alloc (Below.refl _ _) _)) (fun h => h)
  have B5 : wa.heap[b + 1]? = some (Obj.cells #[.int .i64 fr, .int .i64 old, .int .i64 nw] 45 (0, 0)) := by rw [hwa]; exact blk_Kp (S := fun _ => False) (blk_new (by rw [hbb]; simp)) (Kp.of_below (below_alloc (Below.refl _ _) _)) (fun h => h)
  have B6 : wa.heap[b + 1 + 1]? = some (Obj.cells #[.slice none 0 0, .slice none 0 0, .int .i64 0] 25 (0, 0)) := by rw [hwa]; exact blk_new (by rw [hbb]; simp)
  have hI : RpI b (.slice A0 n0 c0) (.slice A1 n1 c1) sw fr old nw wa wa := ⟨Below.refl _ _, by rw [hwa, hbb]; simp, cell_of_block B4 0 _ rfl, cell_of_block B4 1 _ rfl, cell_of_block B4 2 _ rfl, cell_of_block B5 0 _ rfl, cell_of_block B5 1 _ rfl, cell_of_block B5 2 _ rfl, B6⟩
  have p0 := hI.i0
  have p1 := hI.i1
  have p2 := hI.i2
  have hcall := hV wa hb
  have HB := Aside0.mk hb
  have HBB := Aside0.mk (show w.heap.size = b from hbb.symm)
  have HI := Aside0.mk hI
  have HC := Aside0.mk hC
  clear hb B4 B5 B6 hI hV hC
  go_enter Try.func20, Try.ntmps20
  go_upto_region 1 with fail
  rw [← hwa, ← hbb]
  clear hwa hbb
  go_wp2_with fail
  (with_reducible refine hcall.mono ?_)
  rintro e w2 ⟨rfl, hb2⟩
  have HI2 := Aside0.mk (HI.out.step hb2)
  clear hcall hb2 p0 p1 p2 HI
  dsimp only
  have hcall := HC.out w2 (HB.out.trans ((HI2.out.hb).mono (by rw [HBB.out]; omega)))
  have p1 := HI2.out.i1
  go_wp2_with fail
  (with_reducible refine hcall.mono ?_)
  rintro e w3 ⟨rfl, hb3⟩
  have HI3 := Aside0.mk (HI2.out.step hb3)
  clear hcall hb3 HC HI2 p1
  dsimp only
  have p0 := HI3.out.i0
  have p1 := HI3.out.i1
  have p2 := HI3.out.i2
  have q0 := HI3.out.c0
  have q1 := HI3.out.c1
  have q2 := HI3.out.c2
  have r0 := cell_of_block HI3.out.B6 0 _ rfl
  have r1 := cell_of_block HI3.out.B6 1 _ rfl
  have r2 := cell_of_block HI3.out.B6 2 _ rfl
  have f0 := blk_frozen HI3.out.B6 0
  have f1 := blk_frozen HI3.out.B6 1
  have f2 := blk_frozen HI3.out.B6 2
  have HBW := Aside0.mk (show Below w.heap.size w w3 from HB.out.trans ((HI3.out.hb).mono (by rw [HBB.out]; omega)))
  have HS3 := Aside0.mk (set3 (B := b) (wa := wa) (by omega) (by have := HI3.out.lt; omega) HI3.out.B6 (.slice none 0 0) (.slice none 0 0) (.int .i64 0))
  go_wp2_with fail
  exact bodyPost_ret (results_ct rfl _ _ (b + 1 + 1) 25 _ (0, 0) _ rfl HS3.out.1 hu25 rfl (by kernel_rfl)) rfl ⟨rfl, HBW.out.trans (HBB.out ▸ HS3.out.2)⟩
set_option maxHeartbeats 4000000 in
set_option maxRecDepth 100000 in
theorem rrep_c (A0 : Option Addr) (c0 n0 : Nat) (A1 : Option Addr) (c1 n1 : Nat) (sw : Int) (fr old nw : Int) (A2 : Option Addr) (c2 m : Nat) (w : World) (hm : m ≤ 1000000) (hn : n0 ≤ 1000000)
    (hV : ∀ W', Below w.heap.size w W' → Calls Try.prog 12 #[.agg #[.slice A0 n0 c0, .slice A1 n1 c1, .int .i64 sw], .int .i64 n1] W' fun e w' => e = .returned (.bool true) ∧ Below W'.heap.size W' w')
    (hC : ∀ W', Below w.heap.size w W' → Calls Try.prog 26 #[.slice A2 m c2, .int .i64 n1] W' fun e w' => e = .returned (.bool true) ∧ Below W'.heap.size W' w') (hd : (m : Int) ≠ nw) :
    Calls Try.prog 20 #[.agg #[.slice A0 n0 c0, .slice A1 n1 c1, .int .i64 sw], .agg #[.int .i64 fr, .int .i64 old, .int .i64 nw], .slice A2 m c2] w fun e w' => e = .returned (errV 1) ∧ Below w.heap.size w w' := by
  have hu25 := Try.underlying25
  have hu45 := Try.underlying45
  obtain ⟨wa, hwa⟩ : ∃ wa : World, wa = ((w.alloc (Obj.cells #[.slice A0 n0 c0, .slice A1 n1 c1, .int .i64 sw] 25)).alloc (Obj.cells #[.int .i64 fr, .int .i64 old, .int .i64 nw] 45)).alloc (Obj.cells #[.slice none 0 0, .slice none 0 0, .int .i64 0] 25) := ⟨_, rfl⟩
  obtain ⟨b, hbb⟩ : ∃ b, b = w.heap.size := ⟨_, rfl⟩
  have hb : Below w.heap.size w wa := by rw [hwa]; exact below_alloc (below_alloc (below_alloc (Below.refl _ _) _) _) _
  have B4 : wa.heap[b]? = some (Obj.cells #[.slice A0 n0 c0, .slice A1 n1 c1, .int .i64 sw] 25 (0, 0)) := by rw [hwa]; exact blk_Kp (S := fun _ => False) (blk_Kp (S := fun _ => False) (blk_new hbb) (Kp.of_below (below_alloc (Below.refl _ _) _)) (fun h => h)) (Kp.of_below (below_alloc (Below.refl _ _) _)) (fun h => h)
  have B5 : wa.heap[b + 1]? = some (Obj.cells #[.int .i64 fr, .int .i64 old, .int .i64 nw] 45 (0, 0)) := by rw [hwa]; exact blk_Kp (S := fun _ => False) (blk_new (by rw [hbb]; simp)) (Kp.of_below (below_alloc (Below.refl _ _) _)) (fun h => h)
  have B6 : wa.heap[b + 1 + 1]? = some (Obj.cells #[.slice none 0 0, .slice none 0 0, .int .i64 0] 25 (0, 0)) := by rw [hwa]; exact blk_new (by rw [hbb]; simp)
  have hI : RpI b (.slice A0 n0 c0) (.slice A1 n1 c1) sw fr old nw wa wa := ⟨Below.refl _ _, by rw [hwa, hbb]; simp, cell_of_block B4 0 _ rfl, cell_of_block B4 1 _ rfl, cell_of_block B4 2 _ rfl, cell_of_block B5 0 _ rfl, cell_of_block B5 1 _ rfl, cell_of_block B5 2 _ rfl, B6⟩
  have p0 := hI.i0
  have p1 := hI.i1
  have p2 := hI.i2
  have hcall := hV wa hb
  have HB := Aside0.mk hb
  have HBB := Aside0.mk (show w.heap.size = b from hbb.symm)
  have HI := Aside0.mk hI
  have HC := Aside0.mk hC
  have d0 : ((m : Int) != nw) = true := bne_iff_ne.2 hd
  clear hb B4 B5 B6 hI hV hC hd
  go_enter Try.func20, Try.ntmps20
  go_upto_region 1 with fail
  rw [← hwa, ← hbb]
  clear hwa hbb
  go_wp2_with fail
  (with_reducible refine hcall.mono ?_)
  rintro e w2 ⟨rfl, hb2⟩
  have HI2 := Aside0.mk (HI.out.step hb2)
  clear hcall hb2 p0 p1 p2 HI
  dsimp only
  have hcall := HC.out w2 (HB.out.trans ((HI2.out.hb).mono (by rw [HBB.out]; omega)))
  have p1 := HI2.out.i1
  go_wp2_with fail
  (with_reducible refine hcall.mono ?_)
  rintro e w3 ⟨rfl, hb3⟩
  have HI3 := Aside0.mk (HI2.out.step hb3)
  clear hcall hb3 HC HI2 p1
  dsimp only
  have p0 := HI3.out.i0
  have p1 := HI3.out.i1
  have p2 := HI3.out.i2
  have q0 := HI3.out.c0
  have q1 := HI3.out.c1
  have q2 := HI3.out.c2
  have r0 := cell_of_block HI3.out.B6 0 _ rfl
  have r1 := cell_of_block HI3.out.B6 1 _ rfl
  have r2 := cell_of_block HI3.out.B6 2 _ rfl
  have f0 := blk_frozen HI3.out.B6 0
  have f1 := blk_frozen HI3.out.B6 1
  have f2 := blk_frozen HI3.out.B6 2
  have HBW := Aside0.mk (show Below w.heap.size w w3 from HB.out.trans ((HI3.out.hb).mono (by rw [HBB.out]; omega)))
  have HS3 := Aside0.mk (set3 (B := b) (wa := wa) (by omega) (by have := HI3.out.lt; omega) HI3.out.B6 (.slice none 0 0) (.slice none 0 0) (.int .i64 0))
  go_wp2_with fail
  exact bodyPost_ret (results_ct rfl _ _ (b + 1 + 1) 25 _ (0, 0) _ rfl HS3.out.1 hu25 rfl (by kernel_rfl)) rfl ⟨rfl, HBW.out.trans (HBB.out ▸ HS3.out.2)⟩
set_option maxHeartbeats 4000000 in
set_option maxRecDepth 100000 in
theorem rrep_d (A0 : Option Addr) (c0 n0 : Nat) (A1 : Option Addr) (c1 n1 : Nat) (sw : Int) (fr old nw : Int) (A2 : Option Addr) (c2 m : Nat) (w : World) (hm : m ≤ 1000000) (hn : n0 ≤ 1000000)
    (hV : ∀ W', Below w.heap.size w W' → Calls Try.prog 12 #[.agg #[.slice A0 n0 c0, .slice A1 n1 c1, .int .i64 sw], .int .i64 n1] W' fun e w' => e = .returned (.bool true) ∧ Below W'.heap.size W' w')
    (hC : ∀ W', Below w.heap.size w W' → Calls Try.prog 26 #[.slice A2 m c2, .int .i64 n1] W' fun e w' => e = .returned (.bool true) ∧ Below W'.heap.size W' w') (hd : (m : Int) = nw) (h1 : fr < 0) :
    Calls Try.prog 20 #[.agg #[.slice A0 n0 c0, .slice A1 n1 c1, .int .i64 sw], .agg #[.int .i64 fr, .int .i64 old, .int .i64 nw], .slice A2 m c2] w fun e w' => e = .returned (errV 2) ∧ Below w.heap.size w w' := by
  have hu25 := Try.underlying25
  have hu45 := Try.underlying45
  obtain ⟨wa, hwa⟩ : ∃ wa : World, wa = ((w.alloc (Obj.cells #[.slice A0 n0 c0, .slice A1 n1 c1, .int .i64 sw] 25)).alloc (Obj.cells #[.int .i64 fr, .int .i64 old, .int .i64 nw] 45)).alloc (Obj.cells #[.slice none 0 0, .slice none 0 0, .int .i64 0] 25) := ⟨_, rfl⟩
  obtain ⟨b, hbb⟩ : ∃ b, b = w.heap.size := ⟨_, rfl⟩
  have hb : Below w.heap.size w wa := by rw [hwa]; exact below_alloc (below_alloc (below_alloc (Below.refl _ _) _) _) _
  have B4 : wa.heap[b]? = some (Obj.cells #[.slice A0 n0 c0, .slice A1 n1 c1, .int .i64 sw] 25 (0, 0)) := by rw [hwa]; exact blk_Kp (S := fun _ => False) (blk_Kp (S := fun _ => False) (blk_new hbb) (Kp.of_below (below_alloc (Below.refl _ _) _)) (fun h => h)) (Kp.of_below (below_alloc (Below.refl _ _) _)) (fun h => h)
  have B5 : wa.heap[b + 1]? = some (Obj.cells #[.int .i64 fr, .int .i64 old, .int .i64 nw] 45 (0, 0)) := by rw [hwa]; exact blk_Kp (S := fun _ => False) (blk_new (by rw [hbb]; simp)) (Kp.of_below (below_alloc (Below.refl _ _) _)) (fun h => h)
  have B6 : wa.heap[b + 1 + 1]? = some (Obj.cells #[.slice none 0 0, .slice none 0 0, .int .i64 0] 25 (0, 0)) := by rw [hwa]; exact blk_new (by rw [hbb]; simp)
  have hI : RpI b (.slice A0 n0 c0) (.slice A1 n1 c1) sw fr old nw wa wa := ⟨Below.refl _ _, by rw [hwa, hbb]; simp, cell_of_block B4 0 _ rfl, cell_of_block B4 1 _ rfl, cell_of_block B4 2 _ rfl, cell_of_block B5 0 _ rfl, cell_of_block B5 1 _ rfl, cell_of_block B5 2 _ rfl, B6⟩
  have p0 := hI.i0
  have p1 := hI.i1
  have p2 := hI.i2
  have hcall := hV wa hb
  have HB := Aside0.mk hb
  have HBB := Aside0.mk (show w.heap.size = b from hbb.symm)
  have HI := Aside0.mk hI
  have HC := Aside0.mk hC
  have d0 : ((m : Int) != nw) = false := bne_eq_false_iff_eq.2 hd
  have t1 : decide (fr < 0) = true := decide_eq_true h1
  clear hb B4 B5 B6 hI hV hC hd h1
  go_enter Try.func20, Try.ntmps20
  go_upto_region 1 with fail
  rw [← hwa, ← hbb]
  clear hwa hbb
  go_wp2_with fail
  (with_reducible refine hcall.mono ?_)
  rintro e w2 ⟨rfl, hb2⟩
  have HI2 := Aside0.mk (HI.out.step hb2)
  clear hcall hb2 p0 p1 p2 HI
  dsimp only
  have hcall := HC.out w2 (HB.out.trans ((HI2.out.hb).mono (by rw [HBB.out]; omega)))
  have p1 := HI2.out.i1
  go_wp2_with fail
  (with_reducible refine hcall.mono ?_)
  rintro e w3 ⟨rfl, hb3⟩
  have HI3 := Aside0.mk (HI2.out.step hb3)
  clear hcall hb3 HC HI2 p1
  dsimp only
  have p0 := HI3.out.i0
  have p1 := HI3.out.i1
  have p2 := HI3.out.i2
  have q0 := HI3.out.c0
  have q1 := HI3.out.c1
  have q2 := HI3.out.c2
  have r0 := cell_of_block HI3.out.B6 0 _ rfl
  have r1 := cell_of_block HI3.out.B6 1 _ rfl
  have r2 := cell_of_block HI3.out.B6 2 _ rfl
  have f0 := blk_frozen HI3.out.B6 0
  have f1 := blk_frozen HI3.out.B6 1
  have f2 := blk_frozen HI3.out.B6 2
  have HBW := Aside0.mk (show Below w.heap.size w w3 from HB.out.trans ((HI3.out.hb).mono (by rw [HBB.out]; omega)))
  have HS3 := Aside0.mk (set3 (B := b) (wa := wa) (by omega) (by have := HI3.out.lt; omega) HI3.out.B6 (.slice none 0 0) (.slice none 0 0) (.int .i64 0))
  go_wp2_with fail
  exact bodyPost_ret (results_ct rfl _ _ (b + 1 + 1) 25 _ (0, 0) _ rfl HS3.out.1 hu25 rfl (by kernel_rfl)) rfl ⟨rfl, HBW.out.trans (HBB.out ▸ HS3.out.2)⟩
set_option maxHeartbeats 4000000 in
set_option maxRecDepth 100000 in
theorem rrep_e (A0 : Option Addr) (c0 n0 : Nat) (A1 : Option Addr) (c1 n1 : Nat) (sw : Int) (fr old nw : Int) (A2 : Option Addr) (c2 m : Nat) (w : World) (hm : m ≤ 1000000) (hn : n0 ≤ 1000000)
    (hV : ∀ W', Below w.heap.size w W' → Calls Try.prog 12 #[.agg #[.slice A0 n0 c0, .slice A1 n1 c1, .int .i64 sw], .int .i64 n1] W' fun e w' => e = .returned (.bool true) ∧ Below W'.heap.size W' w')
    (hC : ∀ W', Below w.heap.size w W' → Calls Try.prog 26 #[.slice A2 m c2, .int .i64 n1] W' fun e w' => e = .returned (.bool true) ∧ Below W'.heap.size W' w') (hd : (m : Int) = nw) (h1 : ¬ fr < 0) (h2 : old < 0) :
    Calls Try.prog 20 #[.agg #[.slice A0 n0 c0, .slice A1 n1 c1, .int .i64 sw], .agg #[.int .i64 fr, .int .i64 old, .int .i64 nw], .slice A2 m c2] w fun e w' => e = .returned (errV 2) ∧ Below w.heap.size w w' := by
  have hu25 := Try.underlying25
  have hu45 := Try.underlying45
  obtain ⟨wa, hwa⟩ : ∃ wa : World, wa = ((w.alloc (Obj.cells #[.slice A0 n0 c0, .slice A1 n1 c1, .int .i64 sw] 25)).alloc (Obj.cells #[.int .i64 fr, .int .i64 old, .int .i64 nw] 45)).alloc (Obj.cells #[.slice none 0 0, .slice none 0 0, .int .i64 0] 25) := ⟨_, rfl⟩
  obtain ⟨b, hbb⟩ : ∃ b, b = w.heap.size := ⟨_, rfl⟩
  have hb : Below w.heap.size w wa := by rw [hwa]; exact below_alloc (below_alloc (below_alloc (Below.refl _ _) _) _) _
  have B4 : wa.heap[b]? = some (Obj.cells #[.slice A0 n0 c0, .slice A1 n1 c1, .int .i64 sw] 25 (0, 0)) := by rw [hwa]; exact blk_Kp (S := fun _ => False) (blk_Kp (S := fun _ => False) (blk_new hbb) (Kp.of_below (below_alloc (Below.refl _ _) _)) (fun h => h)) (Kp.of_below (below_alloc (Below.refl _ _) _)) (fun h => h)
  have B5 : wa.heap[b + 1]? = some (Obj.cells #[.int .i64 fr, .int .i64 old, .int .i64 nw] 45 (0, 0)) := by rw [hwa]; exact blk_Kp (S := fun _ => False) (blk_new (by rw [hbb]; simp)) (Kp.of_below (below_alloc (Below.refl _ _) _)) (fun h => h)
  have B6 : wa.heap[b + 1 + 1]? = some (Obj.cells #[.slice none 0 0, .slice none 0 0, .int .i64 0] 25 (0, 0)) := by rw [hwa]; exact blk_new (by rw [hbb]; simp)
  have hI : RpI b (.slice A0 n0 c0) (.slice A1 n1 c1) sw fr old nw wa wa := ⟨Below.refl _ _, by rw [hwa, hbb]; simp, cell_of_block B4 0 _ rfl, cell_of_block B4 1 _ rfl, cell_of_block B4 2 _ rfl, cell_of_block B5 0 _ rfl, cell_of_block B5 1 _ rfl, cell_of_block B5 2 _ rfl, B6⟩
  have p0 := hI.i0
  have p1 := hI.i1
  have p2 := hI.i2
  have hcall := hV wa hb
  have HB := Aside0.mk hb
  have HBB := Aside0.mk (show w.heap.size = b from hbb.symm)
  have HI := Aside0.mk hI
  have HC := Aside0.mk hC
  have d0 : ((m : Int) != nw) = false := bne_eq_false_iff_eq.2 hd
  have t1 : decide (fr < 0) = false := decide_eq_false h1
  have t2 : decide (old < 0) = true := decide_eq_true h2
  clear hb B4 B5 B6 hI hV hC hd h1 h2
  go_enter Try.func20, Try.ntmps20
  go_upto_region 1 with fail
  rw [← hwa, ← hbb]
  clear hwa hbb
  go_wp2_with fail
  (with_reducible refine hcall.mono ?_)
  rintro e w2 ⟨rfl, hb2⟩
  have HI2 := Aside0.mk (HI.out.step hb2)
  clear hcall hb2 p0 p1 p2 HI
  dsimp only
  have hcall := HC.out w2 (HB.out.trans ((HI2.out.hb).mono (by rw [HBB.out]; omega)))
  have p1 := HI2.out.i1
  go_wp2_with fail
  (with_reducible refine hcall.mono ?_)
  rintro e w3 ⟨rfl, hb3⟩
  have HI3 := Aside0.mk (HI2.out.step hb3)
  clear hcall hb3 HC HI2 p1
  dsimp only
  have p0 := HI3.out.i0
  have p1 := HI3.out.i1
  have p2 := HI3.out.i2
  have q0 := HI3.out.c0
  have q1 := HI3.out.c1
  have q2 := HI3.out.c2
  have r0 := cell_of_block HI3.out.B6 0 _ rfl
  have r1 := cell_of_block HI3.out.B6 1 _ rfl
  have r2 := cell_of_block HI3.out.B6 2 _ rfl
  have f0 := blk_frozen HI3.out.B6 0
  have f1 := blk_frozen HI3.out.B6 1
  have f2 := blk_frozen HI3.out.B6 2
  have HBW := Aside0.mk (show Below w.heap.size w w3 from HB.out.trans ((HI3.out.hb).mono (by rw [HBB.out]; omega)))
  have HS3 := Aside0.mk (set3 (B := b) (wa := wa) (by omega) (by have := HI3.out.lt; omega) HI3.out.B6 (.slice none 0 0) (.slice none 0 0) (.int .i64 0))
  go_wp2_with fail
  exact bodyPost_ret (results_ct rfl _ _ (b + 1 + 1) 25 _ (0, 0) _ rfl HS3.out.1 hu25 rfl (by kernel_rfl)) rfl ⟨rfl, HBW.out.trans (HBB.out ▸ HS3.out.2)⟩
set_option maxHeartbeats 4000000 in
set_option maxRecDepth 100000 in
theorem rrep_f (A0 : Option Addr) (c0 n0 : Nat) (A1 : Option Addr) (c1 n1 : Nat) (sw : Int) (fr old nw : Int) (A2 : Option Addr) (c2 m : Nat) (w : World) (hm : m ≤ 1000000) (hn : n0 ≤ 1000000)
    (hV : ∀ W', Below w.heap.size w W' → Calls Try.prog 12 #[.agg #[.slice A0 n0 c0, .slice A1 n1 c1, .int .i64 sw], .int .i64 n1] W' fun e w' => e = .returned (.bool true) ∧ Below W'.heap.size W' w')
    (hC : ∀ W', Below w.heap.size w W' → Calls Try.prog 26 #[.slice A2 m c2, .int .i64 n1] W' fun e w' => e = .returned (.bool true) ∧ Below W'.heap.size W' w') (hd : (m : Int) = nw) (h1 : ¬ fr < 0) (h2 : ¬ old < 0) (h3 : fr > n0) :
    Calls Try.prog 20 #[.agg #[.slice A0 n0 c0, .slice A1 n1 c1, .int .i64 sw], .agg #[.int .i64 fr, .int .i64 old, .int .i64 nw], .slice A2 m c2] w fun e w' => e = .returned (errV 2) ∧ Below w.heap.size w w' := by
  have hu25 := Try.underlying25
  have hu45 := Try.underlying45
  obtain ⟨wa, hwa⟩ : ∃ wa : World, wa = ((w.alloc (Obj.cells #[.slice A0 n0 c0, .slice A1 n1 c1, .int .i64 sw] 25)).alloc (Obj.cells #[.int .i64 fr, .int .i64 old, .int .i64 nw] 45)).alloc (Obj.cells #[.slice none 0 0, .slice none 0 0, .int .i64 0] 25) := ⟨_, rfl⟩
  obtain ⟨b, hbb⟩ : ∃ b, b = w.heap.size := ⟨_, rfl⟩
  have hb : Below w.heap.size w wa := by rw [hwa]; exact below_alloc (below_alloc (below_alloc (Below.refl _ _) _) _) _
  have B4 : wa.heap[b]? = some (Obj.cells #[.slice A0 n0 c0, .slice A1 n1 c1, .int .i64 sw] 25 (0, 0)) := by rw [hwa]; exact blk_Kp (S := fun _ => False) (blk_Kp (S := fun _ => False) (blk_new hbb) (Kp.of_below (below_alloc (Below.refl _ _) _)) (fun h => h)) (Kp.of_below (below_alloc (Below.refl _ _) _)) (fun h => h)
  have B5 : wa.heap[b + 1]? = some (Obj.cells #[.int .i64 fr, .int .i64 old, .int .i64 nw] 45 (0, 0)) := by rw [hwa]; exact blk_Kp (S := fun _ => False) (blk_new (by rw [hbb]; simp)) (Kp.of_below (below_alloc (Below.refl _ _) _)) (fun h => h)
  have B6 : wa.heap[b + 1 + 1]? = some (Obj.cells #[.slice none 0 0, .slice none 0 0, .int .i64 0] 25 (0, 0)) := by rw [hwa]; exact blk_new (by rw [hbb]; simp)
  have hI : RpI b (.slice A0 n0 c0) (.slice A1 n1 c1) sw fr old nw wa wa := ⟨Below.refl _ _, by rw [hwa, hbb]; simp, cell_of_block B4 0 _ rfl, cell_of_block B4 1 _ rfl, cell_of_block B4 2 _ rfl, cell_of_block B5 0 _ rfl, cell_of_block B5 1 _ rfl, cell_of_block B5 2 _ rfl, B6⟩
  have p0 := hI.i0
  have p1 := hI.i1
  have p2 := hI.i2
  have hcall := hV wa hb
  have HB := Aside0.mk hb
  have HBB := Aside0.mk (show w.heap.size = b from hbb.symm)
  have HI := Aside0.mk hI
  have HC := Aside0.mk hC
  have d0 : ((m : Int) != nw) = false := bne_eq_false_iff_eq.2 hd
  have t1 : decide (fr < 0) = false := decide_eq_false h1
  have t2 : decide (old < 0) = false := decide_eq_false h2
  have t3 : decide ((n0 : Int) < fr) = true := decide_eq_true h3
  clear hb B4 B5 B6 hI hV hC hd h1 h2 h3
  go_enter Try.func20, Try.ntmps20
  go_upto_region 1 with fail
  rw [← hwa, ← hbb]
  clear hwa hbb
  go_wp2_with fail
  (with_reducible refine hcall.mono ?_)
  rintro e w2 ⟨rfl, hb2⟩
  have HI2 := Aside0.mk (HI.out.step hb2)
  clear hcall hb2 p0 p1 p2 HI
  dsimp only
  have hcall := HC.out w2 (HB.out.trans ((HI2.out.hb).mono (by rw [HBB.out]; omega)))
  have p1 := HI2.out.i1
  go_wp2_with fail
  (with_reducible refine hcall.mono ?_)
  rintro e w3 ⟨rfl, hb3⟩
  have HI3 := Aside0.mk (HI2.out.step hb3)
  clear hcall hb3 HC HI2 p1
  dsimp only
  have p0 := HI3.out.i0
  have p1 := HI3.out.i1
  have p2 := HI3.out.i2
  have q0 := HI3.out.c0
  have q1 := HI3.out.c1
  have q2 := HI3.out.c2
  have r0 := cell_of_block HI3.out.B6 0 _ rfl
  have r1 := cell_of_block HI3.out.B6 1 _ rfl
  have r2 := cell_of_block HI3.out.B6 2 _ rfl
  have f0 := blk_frozen HI3.out.B6 0
  have f1 := blk_frozen HI3.out.B6 1
  have f2 := blk_frozen HI3.out.B6 2
  have HBW := Aside0.mk (show Below w.heap.size w w3 from HB.out.trans ((HI3.out.hb).mono (by rw [HBB.out]; omega)))
  have HS3 := Aside0.mk (set3 (B := b) (wa := wa) (by omega) (by have := HI3.out.lt; omega) HI3.out.B6 (.slice none 0 0) (.slice none 0 0) (.int .i64 0))
  go_wp2_with fail
  exact bodyPost_ret (results_ct rfl _ _ (b + 1 + 1) 25 _ (0, 0) _ rfl HS3.out.1 hu25 rfl (by kernel_rfl)) rfl ⟨rfl, HBW.out.trans (HBB.out ▸ HS3.out.2)⟩
set_option maxHeartbeats 4000000 in
set_option maxRecDepth 100000 in
theorem rrep_g (A0 : Option Addr) (c0 n0 : Nat) (A1 : Option Addr) (c1 n1 : Nat) (sw : Int) (fr old nw : Int) (A2 : Option Addr) (c2 m : Nat) (w : World) (hm : m ≤ 1000000) (hn : n0 ≤ 1000000)
    (hV : ∀ W', Below w.heap.size w W' → Calls Try.prog 12 #[.agg #[.slice A0 n0 c0, .slice A1 n1 c1, .int .i64 sw], .int .i64 n1] W' fun e w' => e = .returned (.bool true) ∧ Below W'.heap.size W' w')
    (hC : ∀ W', Below w.heap.size w W' → Calls Try.prog 26 #[.slice A2 m c2, .int .i64 n1] W' fun e w' => e = .returned (.bool true) ∧ Below W'.heap.size W' w') (hd : (m : Int) = nw) (h1 : ¬ fr < 0) (h2 : ¬ old < 0) (h3 : ¬ fr > n0) (h4 : old > n0 - fr) :
    Calls Try.prog 20 #[.agg #[.slice A0 n0 c0, .slice A1 n1 c1, .int .i64 sw], .agg #[.int .i64 fr, .int .i64 old, .int .i64 nw], .slice A2 m c2] w fun e w' => e = .returned (errV 2) ∧ Below w.heap.size w w' := by
  have hu25 := Try.underlying25
  have hu45 := Try.underlying45
  obtain ⟨wa, hwa⟩ : ∃ wa : World, wa = ((w.alloc (Obj.cells #[.slice A0 n0 c0, .slice A1 n1 c1, .int .i64 sw] 25)).alloc (Obj.cells #[.int .i64 fr, .int .i64 old, .int .i64 nw] 45)).alloc (Obj.cells #[.slice none 0 0, .slice none 0 0, .int .i64 0] 25) := ⟨_, rfl⟩
  obtain ⟨b, hbb⟩ : ∃ b, b = w.heap.size := ⟨_, rfl⟩
  have hb : Below w.heap.size w wa := by rw [hwa]; exact below_alloc (below_alloc (below_alloc (Below.refl _ _) _) _) _
  have B4 : wa.heap[b]? = some (Obj.cells #[.slice A0 n0 c0, .slice A1 n1 c1, .int .i64 sw] 25 (0, 0)) := by rw [hwa]; exact blk_Kp (S := fun _ => False) (blk_Kp (S := fun _ => False) (blk_new hbb) (Kp.of_below (below_alloc (Below.refl _ _) _)) (fun h => h)) (Kp.of_below (below_alloc (Below.refl _ _) _)) (fun h => h)
  have B5 : wa.heap[b + 1]? = some (Obj.cells #[.int .i64 fr, .int .i64 old, .int .i64 nw] 45 (0, 0)) := by rw [hwa]; exact blk_Kp (S := fun _ => False) (blk_new (by rw [hbb]; simp)) (Kp.of_below (below_alloc (Below.refl _ _) _)) (fun h => h)
  have B6 : wa.heap[b + 1 + 1]? = some (Obj.cells #[.slice none 0 0, .slice none 0 0, .int .i64 0] 25 (0, 0)) := by rw [hwa]; exact blk_new (by rw [hbb]; simp)
  have hI : RpI b (.slice A0 n0 c0) (.slice A1 n1 c1) sw fr old nw wa wa := ⟨Below.refl _ _, by rw [hwa, hbb]; simp, cell_of_block B4 0 _ rfl, cell_of_block B4 1 _ rfl, cell_of_block B4 2 _ rfl, cell_of_block B5 0 _ rfl, cell_of_block B5 1 _ rfl, cell_of_block B5 2 _ rfl, B6⟩
  have p0 := hI.i0
  have p1 := hI.i1
  have p2 := hI.i2
  have hcall := hV wa hb
  have HB := Aside0.mk hb
  have HBB := Aside0.mk (show w.heap.size = b from hbb.symm)
  have HI := Aside0.mk hI
  have HC := Aside0.mk hC
  have d0 : ((m : Int) != nw) = false := bne_eq_false_iff_eq.2 hd
  have t1 : decide (fr < 0) = false := decide_eq_false h1
  have t2 : decide (old < 0) = false := decide_eq_false h2
  have t3 : decide ((n0 : Int) < fr) = false := decide_eq_false h3
  have z1 : 0 ≤ fr := by omega
  have z2 : fr ≤ n0 := by omega
  have z3 : (n0 : Int) ≤ 1000000 := by omega
  have t4 : decide ((n0 : Int) - fr < old) = true := decide_eq_true h4
  clear hb B4 B5 B6 hI hV hC hd h1 h2 h3 h4
  go_enter Try.func20, Try.ntmps20
  go_upto_region 1 with fail
  rw [← hwa, ← hbb]
  clear hwa hbb
  go_wp2_with fail
  (with_reducible refine hcall.mono ?_)
  rintro e w2 ⟨rfl, hb2⟩
  have HI2 := Aside0.mk (HI.out.step hb2)
  clear hcall hb2 p0 p1 p2 HI
  dsimp only
  have hcall := HC.out w2 (HB.out.trans ((HI2.out.hb).mono (by rw [HBB.out]; omega)))
  have p1 := HI2.out.i1
  go_wp2_with fail
  (with_reducible refine hcall.mono ?_)
  rintro e w3 ⟨rfl, hb3⟩
  have HI3 := Aside0.mk (HI2.out.step hb3)
  clear hcall hb3 HC HI2 p1
  dsimp only
  have p0 := HI3.out.i0
  have p1 := HI3.out.i1
  have p2 := HI3.out.i2
  have q0 := HI3.out.c0
  have q1 := HI3.out.c1
  have q2 := HI3.out.c2
  have r0 := cell_of_block HI3.out.B6 0 _ rfl
  have r1 := cell_of_block HI3.out.B6 1 _ rfl
  have r2 := cell_of_block HI3.out.B6 2 _ rfl
  have f0 := blk_frozen HI3.out.B6 0
  have f1 := blk_frozen HI3.out.B6 1
  have f2 := blk_frozen HI3.out.B6 2
  have HBW := Aside0.mk (show Below w.heap.size w w3 from HB.out.trans ((HI3.out.hb).mono (by rw [HBB.out]; omega)))
  have HS3 := Aside0.mk (set3 (B := b) (wa := wa) (by omega) (by have := HI3.out.lt; omega) HI3.out.B6 (.slice none 0 0) (.slice none 0 0) (.int .i64 0))
  go_wp2_with fail
  exact bodyPost_ret (results_ct rfl _ _ (b + 1 + 1) 25 _ (0, 0) _ rfl HS3.out.1 hu25 rfl (by kernel_rfl)) rfl ⟨rfl, HBW.out.trans (HBB.out ▸ HS3.out.2)⟩
set_option maxHeartbeats 4000000 in
set_option maxRecDepth 100000 in
theorem rrep_h (A0 : Option Addr) (c0 n0 : Nat) (A1 : Option Addr) (c1 n1 : Nat) (sw : Int) (fr old nw : Int) (A2 : Option Addr) (c2 m : Nat) (w : World) (hm : m ≤ 1000000) (hn : n0 ≤ 1000000)
    (hV : ∀ W', Below w.heap.size w W' → Calls Try.prog 12 #[.agg #[.slice A0 n0 c0, .slice A1 n1 c1, .int .i64 sw], .int .i64 n1] W' fun e w' => e = .returned (.bool true) ∧ Below W'.heap.size W' w')
    (hC : ∀ W', Below w.heap.size w W' → Calls Try.prog 26 #[.slice A2 m c2, .int .i64 n1] W' fun e w' => e = .returned (.bool true) ∧ Below W'.heap.size W' w') (hd : (m : Int) = nw) (h1 : ¬ fr < 0) (h2 : ¬ old < 0) (h3 : ¬ fr > n0) (h4 : ¬ old > n0 - fr) (h5 : n0 - old + m > 60) :
    Calls Try.prog 20 #[.agg #[.slice A0 n0 c0, .slice A1 n1 c1, .int .i64 sw], .agg #[.int .i64 fr, .int .i64 old, .int .i64 nw], .slice A2 m c2] w fun e w' => e = .returned (errV 11) ∧ Below w.heap.size w w' := by
  have hu25 := Try.underlying25
  have hu45 := Try.underlying45
  obtain ⟨wa, hwa⟩ : ∃ wa : World, wa = ((w.alloc (Obj.cells #[.slice A0 n0 c0, .slice A1 n1 c1, .int .i64 sw] 25)).alloc (Obj.cells #[.int .i64 fr, .int .i64 old, .int .i64 nw] 45)).alloc (Obj.cells #[.slice none 0 0, .slice none 0 0, .int .i64 0] 25) := ⟨_, rfl⟩
  obtain ⟨b, hbb⟩ : ∃ b, b = w.heap.size := ⟨_, rfl⟩
  have hb : Below w.heap.size w wa := by rw [hwa]; exact below_alloc (below_alloc (below_alloc (Below.refl _ _) _) _) _
  have B4 : wa.heap[b]? = some (Obj.cells #[.slice A0 n0 c0, .slice A1 n1 c1, .int .i64 sw] 25 (0, 0)) := by rw [hwa]; exact blk_Kp (S := fun _ => False) (blk_Kp (S := fun _ => False) (blk_new hbb) (Kp.of_below (below_alloc (Below.refl _ _) _)) (fun h => h)) (Kp.of_below (below_alloc (Below.refl _ _) _)) (fun h => h)
  have B5 : wa.heap[b + 1]? = some (Obj.cells #[.int .i64 fr, .int .i64 old, .int .i64 nw] 45 (0, 0)) := by rw [hwa]; exact blk_Kp (S := fun _ => False) (blk_new (by rw [hbb]; simp)) (Kp.of_below (below_alloc (Below.refl _ _) _)) (fun h => h)
  have B6 : wa.heap[b + 1 + 1]? = some (Obj.cells #[.slice none 0 0, .slice none 0 0, .int .i64 0] 25 (0, 0)) := by rw [hwa]; exact blk_new (by rw [hbb]; simp)
  have hI : RpI b (.slice A0 n0 c0) (.slice A1 n1 c1) sw fr old nw wa wa := ⟨Below.refl _ _, by rw [hwa, hbb]; simp, cell_of_block B4 0 _ rfl, cell_of_block B4 1 _ rfl, cell_of_block B4 2 _ rfl, cell_of_block B5 0 _ rfl, cell_of_block B5 1 _ rfl, cell_of_block B5 2 _ rfl, B6⟩
  have p0 := hI.i0
  have p1 := hI.i1
  have p2 := hI.i2
  have hcall := hV wa hb
  have HB := Aside0.mk hb
  have HBB := Aside0.mk (show w.heap.size = b from hbb.symm)
  have HI := Aside0.mk hI
  have HC := Aside0.mk hC
  have d0 : ((m : Int) != nw) = false := bne_eq_false_iff_eq.2 hd
  have t1 : decide (fr < 0) = false := decide_eq_false h1
  have t2 : decide (old < 0) = false := decide_eq_false h2
  have t3 : decide ((n0 : Int) < fr) = false := decide_eq_false h3
  have z1 : 0 ≤ fr := by omega
  have z2 : fr ≤ n0 := by omega
  have z3 : (n0 : Int) ≤ 1000000 := by omega
  have t4 : decide ((n0 : Int) - fr < old) = false := decide_eq_false h4
  have t5 : decide ((60 : Int) < (n0 : Int) - old + (m : Int)) = true := decide_eq_true h5
  have z4 : 0 ≤ old := by omega
  have z5 : old ≤ n0 := by omega
  have z6 : (m : Int) ≤ 1000000 := by omega
  clear hb B4 B5 B6 hI hV hC hd h1 h2 h3 h4 h5
  go_enter Try.func20, Try.ntmps20
  go_upto_region 1 with fail
  rw [← hwa, ← hbb]
  clear hwa hbb
  go_wp2_with fail
  (with_reducible refine hcall.mono ?_)
  rintro e w2 ⟨rfl, hb2⟩
  have HI2 := Aside0.mk (HI.out.step hb2)
  clear hcall hb2 p0 p1 p2 HI
  dsimp only
  have hcall := HC.out w2 (HB.out.trans ((HI2.out.hb).mono (by rw [HBB.out]; omega)))
  have p1 := HI2.out.i1
  go_wp2_with fail
  (with_reducible refine hcall.mono ?_)
  rintro e w3 ⟨rfl, hb3⟩
  have HI3 := Aside0.mk (HI2.out.step hb3)
  clear hcall hb3 HC HI2 p1
  dsimp only
  have p0 := HI3.out.i0
  have p1 := HI3.out.i1
  have p2 := HI3.out.i2
  have q0 := HI3.out.c0
  have q1 := HI3.out.c1
  have q2 := HI3.out.c2
  have r0 := cell_of_block HI3.out.B6 0 _ rfl
  have r1 := cell_of_block HI3.out.B6 1 _ rfl
  have r2 := cell_of_block HI3.out.B6 2 _ rfl
  have f0 := blk_frozen HI3.out.B6 0
  have f1 := blk_frozen HI3.out.B6 1
  have f2 := blk_frozen HI3.out.B6 2
  have HBW := Aside0.mk (show Below w.heap.size w w3 from HB.out.trans ((HI3.out.hb).mono (by rw [HBB.out]; omega)))
  have HS3 := Aside0.mk (set3 (B := b) (wa := wa) (by omega) (by have := HI3.out.lt; omega) HI3.out.B6 (.slice none 0 0) (.slice none 0 0) (.int .i64 0))
  go_wp2_with fail
  exact bodyPost_ret (results_ct rfl _ _ (b + 1 + 1) 25 _ (0, 0) _ rfl HS3.out.1 hu25 rfl (by kernel_rfl)) rfl ⟨rfl, HBW.out.trans (HBB.out ▸ HS3.out.2)⟩
end Go.Proofs.Ytcigcacjjdpgfaa.Hand
/- the reference's Replace by hand: the way with a result (printed by wip/35/gen_replace.py). -/
namespace Go.Proofs.Ytcigcacjjdpgfaa.Hand
open Go.RowKit Go.Proofs.YtcigcacjjdpgfaaW.PrintWords Go.Proofs.YtcigcacjjdpgfaaW.PrintLast Go.Proofs.YtcigcacjjdpgfaaW.PrintMore Go.Proofs.Ytcigcacjjdpgfaa.PA
set_option linter.unusedVariables false
set_option linter.unusedSimpArgs false
/-- The value of a cell that is there. -/
def cell0 (w : World) (p : Addr) : Value := (w.cell? p).getD undef
/-- What is held while the columns are joined. -/
def RqT (b b9 : Nat) (v0 x1 x2 : Value) (fr old : Int) (w4 w' : World) : Prop := w'.cell? ⟨b, 0, none⟩ = some v0 ∧ w'.cell? ⟨b + 1, 0, none⟩ = some (.int .i64 fr) ∧ w'.cell? ⟨b + 1, 1, none⟩ = some (.int .i64 old) ∧ w'.cell? ⟨b9, 0, none⟩ = some (cell0 w' ⟨b9, 0, none⟩) ∧ w'.frozen? ⟨b9, 0, none⟩ = false ∧
  Aside0 (Kp (fun k => k = b9) w4 w' ∧ ∃ y, w'.heap[b9]? = some (.cells #[y, x1, x2] 25 (0, 0)))
section
variable {b b9 : Nat} {v0 v1 : Value} {sw fr old nw : Int} {wa w4 w' w2 : World} {x1 x2 : Value}
theorem RqT.of (hI : RpI b v0 v1 sw fr old nw wa w4) (h9 : b + 3 ≤ b9) (hb : Kp (fun k => k = b9) w4 w') (hy : ∃ y, w'.heap[b9]? = some (.cells #[y, x1, x2] 25 (0, 0))) : RqT b b9 v0 x1 x2 fr old w4 w' := by
  obtain ⟨y, hy⟩ := hy
  have hl := hI.lt
  have hc := cell_of_block hy 0 y rfl
  exact ⟨(hb.cell (by omega) (by omega)).trans hI.i0, (hb.cell (by omega) (by omega)).trans hI.c0, (hb.cell (by omega) (by omega)).trans hI.c1, by rw [cell0, hc]; rfl, blk_frozen hy 0, ⟨hb, y, hy⟩⟩
theorem RqT.step (hI : RpI b v0 v1 sw fr old nw wa w4) (h9 : b + 3 ≤ b9) (h : RqT b b9 v0 x1 x2 fr old w4 w') (hb : Below w'.heap.size w' w2) : RqT b b9 v0 x1 x2 fr old w4 w2 := by
  obtain ⟨hk, y, hy⟩ := h.2.2.2.2.2.out
  exact RqT.of hI h9 (hk.step hb) ⟨y, blk_Kp (S := fun _ => False) hy (Kp.of_below hb) (fun h => h)⟩
theorem RqT.store (hI : RpI b v0 v1 sw fr old nw wa w4) (h9 : b + 3 ≤ b9) (h : RqT b b9 v0 x1 x2 fr old w4 w') (u : Value) : RqT b b9 v0 x1 x2 fr old w4 (w'.setCell ⟨b9, 0, none⟩ u) := by
  obtain ⟨hk, y, hy⟩ := h.2.2.2.2.2.out
  exact RqT.of hI h9 (hk.trans (Kp.set (S := fun k => k = b9) rfl u)) ⟨u, blk_set hy 0 u⟩
theorem R_new {W0 W w : World} (h : w = W.alloc (.cells #[] 51)) : Kd.R (Kd.fixed k51 W0) 51 w W.heap.size (fun _ => True) (.slice (some ⟨W.heap.size, 0, none⟩) 0 0) [] := by
  subst h
  refine ⟨fun _ _ => trivial, [], ⟨by simp, .inr ⟨W.heap.size, 0, #[], rfl, Nat.le_refl _, blk_new rfl, Nat.le_refl _, by simp [maxLen], by simp, by simp⟩⟩, by simp, fun j p hj => by simp at hj⟩
theorem app_rows {W0 w W : World} {ops : Array Oper} {oo : Oper} {a : Act} {Q : Exit → Act → World → Prop} {Kc : Act → World → Prop} (hI : RpI b v0 v1 sw fr old nw wa w4) (h9 : b + 3 ≤ b9) (h9' : b9 < w4.heap.size) (hwb : w.heap.size = b) (hw4 : Below w.heap.size w w4)
    (hw : Region.wanted oo (yielded ops a.tmps) = true) (s x : Operand) (ho : oo.op = .call { callee := .builtin .append, args := #[s, x], argTypes := #[22, 22] }) (v : Value) (xs ys : List S51) (A : Option Addr) (m c : Nat) (hs : a.eval s = v) (hx : a.eval x = .slice A m c)
    (HO : Kd.R (Kd.fixed k51 W0) 51 W w4.heap.size (fun _ => True) v xs) (HR : (Kd.fixed k51 W0).C w A m ys) (hS : RqT b b9 v0 x1 x2 fr old w4 W) (hl : xs.length + m ≤ 1000)
    (h : ∀ v1 w1, Kd.R (Kd.fixed k51 W0) 51 w1 w4.heap.size (fun _ => True) v1 (xs ++ ys) → RqT b b9 v0 x1 x2 fr old w4 w1 → Kc (a.put oo.dst v1) w1) :
    if Region.wanted oo (yielded ops a.tmps) = true then Oper.wp Try.prog oo a W Kc Q else Kc (a.put oo.dst undef) W := by
  obtain ⟨hk, y, hy⟩ := hS.2.2.2.2.2.out
  have hbW : Below w.heap.size w W := hw4.trans (hk.below hw4.size (fun k hk => by omega))
  refine Kd.R_append_rows_step (Kd.fixed k51 W0) (Rr := k51.K W0) (w0 := W) w4.heap.size hw s x 22 51 (.agg #[.int .i64 0, .slice none 0 0, .int .i64 0]) 40 ho Try.underlying22 info51 rfl (show 0 < k51.sz by decide) (by omega) v xs ys A m c (fun _ => True) (fun _ => False) hs hx HO (Kd.C_below HR hbW) (fun _ _ h => h) (fun _ h => h.elim) (fun _ _ => trivial) (Below.refl _ _) hk.size (by omega) ?_
  intro v1 w1 h1 h2 _ _
  exact h v1 w1 h1 (RqT.of hI h9 ⟨h2.os.trans hk.os, h2.tape.trans hk.tape, h2.output.trans hk.output, Nat.le_trans hk.size h2.size, fun k hlt hne => (h2.block k hlt).trans (hk.block k hlt hne)⟩ ⟨y, (h2.block b9 h9').trans hy⟩)
end
set_option maxHeartbeats 4000000 in
set_option maxRecDepth 100000 in
theorem rrep_ok (A0 : Option Addr) (c0 n0 : Nat) (A1 : Option Addr) (c1 n1 : Nat) (sw : Int) (fr old nw : Int) (A2 : Option Addr) (c2 m : Nat) (w : World) (hm : m ≤ 1000000) (hn : n0 ≤ 1000000)
    (hV : ∀ W', Below w.heap.size w W' → Calls Try.prog 12 #[.agg #[.slice A0 n0 c0, .slice A1 n1 c1, .int .i64 sw], .int .i64 n1] W' fun e w' => e = .returned (.bool true) ∧ Below W'.heap.size W' w')
    (hC : ∀ W', Below w.heap.size w W' → Calls Try.prog 26 #[.slice A2 m c2, .int .i64 n1] W' fun e w' => e = .returned (.bool true) ∧ Below W'.heap.size W' w') (f o : Nat) (hf : fr = f) (ho : old = o) (hfo : f + o ≤ n0) (hnc : n0 ≤ c0) (hd : (m : Int) = nw) (h5 : ¬ (n0 : Int) - o + m > 60) (xs ls : List S51)
    (hx0 : Kd.C k51 w A0 n0 xs) (hx2 : Kd.C k51 w A2 m ls) (hmc : m ≤ c2) :
    Calls Try.prog 20 #[.agg #[.slice A0 n0 c0, .slice A1 n1 c1, .int .i64 sw], .agg #[.int .i64 fr, .int .i64 old, .int .i64 nw], .slice A2 m c2] w fun e w' => ∃ v, e = .returned (.tuple #[.agg #[v, .slice A1 n1 c1, .int .i64 sw], .int .i64 0]) ∧ Kd.R (Kd.fixed k51 w) 51 w' w.heap.size (fun _ => True) v ((xs.take f ++ ls) ++ xs.drop (f + o)) ∧ Below w.heap.size w w' := by
  have hu25 := Try.underlying25
  have hu45 := Try.underlying45
  obtain ⟨wa, hwa⟩ : ∃ wa : World, wa = ((w.alloc (Obj.cells #[.slice A0 n0 c0, .slice A1 n1 c1, .int .i64 sw] 25)).alloc (Obj.cells #[.int .i64 f, .int .i64 o, .int .i64 nw] 45)).alloc (Obj.cells #[.slice none 0 0, .slice none 0 0, .int .i64 0] 25) := ⟨_, rfl⟩
  obtain ⟨b, hbb⟩ : ∃ b, b = w.heap.size := ⟨_, rfl⟩
  have hb : Below w.heap.size w wa := by rw [hwa]; exact below_alloc (below_alloc (below_alloc (Below.refl _ _) _) _) _
  have B4 : wa.heap[b]? = some (Obj.cells #[.slice A0 n0 c0, .slice A1 n1 c1, .int .i64 sw] 25 (0, 0)) := by rw [hwa]; exact blk_Kp (S := fun _ => False) (blk_Kp (S := fun _ => False) (blk_new hbb) (Kp.of_below (below_alloc (Below.refl _ _) _)) (fun h => h)) (Kp.of_below (below_alloc (Below.refl _ _) _)) (fun h => h)
  have B5 : wa.heap[b + 1]? = some (Obj.cells #[.int .i64 f, .int .i64 o, .int .i64 nw] 45 (0, 0)) := by rw [hwa]; exact blk_Kp (S := fun _ => False) (blk_new (by rw [hbb]; simp)) (Kp.of_below (below_alloc (Below.refl _ _) _)) (fun h => h)
  have B6 : wa.heap[b + 1 + 1]? = some (Obj.cells #[.slice none 0 0, .slice none 0 0, .int .i64 0] 25 (0, 0)) := by rw [hwa]; exact blk_new (by rw [hbb]; simp)
  have hI : RpI b (.slice A0 n0 c0) (.slice A1 n1 c1) sw f o nw wa wa := ⟨Below.refl _ _, by rw [hwa, hbb]; simp, cell_of_block B4 0 _ rfl, cell_of_block B4 1 _ rfl, cell_of_block B4 2 _ rfl, cell_of_block B5 0 _ rfl, cell_of_block B5 1 _ rfl, cell_of_block B5 2 _ rfl, B6⟩
  have p0 := hI.i0
  have p1 := hI.i1
  have p2 := hI.i2
  have hcall := hV wa hb
  have HB := Aside0.mk hb
  have HBB := Aside0.mk (show w.heap.size = b from hbb.symm)
  have HI := Aside0.mk hI
  have HC := Aside0.mk hC
  have d0 : ((m : Int) != nw) = false := bne_eq_false_iff_eq.2 hd
  have HX0 := Aside0.mk hx0
  have HX2 := Aside0.mk hx2
  have HM6 := Aside0.mk (show n0 ≤ 60 + o ∧ (n0 - o) + m ≤ 60 by subst ho; omega)
  subst hf ho
  have t1 : decide ((f : Int) < 0) = false := decide_eq_false (by omega)
  have t2 : decide ((o : Int) < 0) = false := decide_eq_false (by omega)
  have t3 : decide ((n0 : Int) < (f : Int)) = false := decide_eq_false (by omega)
  have t3b : decide (n0 < f) = false := decide_eq_false (by omega)
  have t4 : decide ((n0 : Int) - (f : Int) < (o : Int)) = false := decide_eq_false (by omega)
  have t5 : decide ((60 : Int) < (n0 : Int) - (o : Int) + (m : Int)) = false := decide_eq_false h5
  have z1 : (n0 : Int) ≤ 1000000 := by omega
  have z2 : (m : Int) ≤ 1000000 := by omega
  have z3 : f ≤ n0 := by omega
  have z4 : o ≤ n0 := by omega
  clear hb B4 B5 B6 hI hV hC hd h5 hx0 hx2
  go_enter Try.func20, Try.ntmps20
  go_upto_region 1 with fail
  rw [← hwa, ← hbb]
  clear hwa hbb
  go_wp2_with fail
  (with_reducible refine hcall.mono ?_)
  rintro e w2 ⟨rfl, hb2⟩
  have HI2 := Aside0.mk (HI.out.step hb2)
  clear hcall hb2 p0 p1 p2 HI
  dsimp only
  have hcall := HC.out w2 (HB.out.trans ((HI2.out.hb).mono (by rw [HBB.out]; omega)))
  have p1 := HI2.out.i1
  go_wp2_with fail
  (with_reducible refine hcall.mono ?_)
  rintro e w3 ⟨rfl, hb3⟩
  have HI3 := Aside0.mk (HI2.out.step hb3)
  clear hcall hb3 HC HI2 p1
  dsimp only
  have p0 := HI3.out.i0
  have p1 := HI3.out.i1
  have p2 := HI3.out.i2
  have q0 := HI3.out.c0
  have q1 := HI3.out.c1
  have q2 := HI3.out.c2
  have r0 := cell_of_block HI3.out.B6 0 _ rfl
  have r1 := cell_of_block HI3.out.B6 1 _ rfl
  have r2 := cell_of_block HI3.out.B6 2 _ rfl
  have f0 := blk_frozen HI3.out.B6 0
  have f1 := blk_frozen HI3.out.B6 1
  have f2 := blk_frozen HI3.out.B6 2
  have HBW := Aside0.mk (show Below w.heap.size w w3 from HB.out.trans ((HI3.out.hb).mono (by rw [HBB.out]; omega)))
  go_upto_region 9 with fail
  obtain ⟨w4, hw4⟩ : ∃ w4 : World, w4 = w3.alloc (Obj.cells #[.slice A0 n0 c0, .slice A1 n1 c1, .int .i64 sw] 25) := ⟨_, rfl⟩
  obtain ⟨b9, hb9⟩ : ∃ b9, b9 = w3.heap.size := ⟨_, rfl⟩
  rw [← hw4, ← hb9]
  have B9 : w4.heap[b9]? = some (Obj.cells #[.slice A0 n0 c0, .slice A1 n1 c1, .int .i64 sw] 25 (0, 0)) := by rw [hw4]; exact blk_new hb9
  have hb34 : Below w3.heap.size w3 w4 := by rw [hw4]; exact below_alloc (Below.refl _ _) _
  have hI4 := HI3.out.step hb34
  have HBW4 := Aside0.mk (below_step HBW.out hb34)
  obtain ⟨i22, hi22, hz0, hz1, hz2⟩ := info_parts info51
  have hcut1 := cut_to (P := Try.prog) 22 51 .i64 Try.underlying22 hi22 A0 n0 c0 (f : Int) (by omega) (by omega) hnc
  have hcut2 := cut_from (P := Try.prog) 22 51 .i64 Try.underlying22 hi22 3 hz1 A0 n0 c0 ((f : Int) + (o : Int)) (by omega) (by omega)
  have e0 : ((f : Int) + (o : Int)).toNat = f + o := by omega
  rw [e0] at hcut2
  rw [Int.toNat_natCast] at hcut1
  have e1 : IntKind.i64.wrap ((f : Int) + (o : Int)) = (f : Int) + o := IntWalk.i64_in _ (by omega)
  have hlx : xs.length = n0 := HX0.out.1
  have hx0 : (Kd.fixed k51 w).C w A0 xs.length xs := by rw [hlx]; exact HX0.out
  have HT := Aside0.mk (show (Kd.fixed k51 w).C w A0 f (xs.take f) by
    have := Kd.C_take hx0 (m := f) (by omega)
    rwa [List.length_take, Nat.min_eq_left (by omega)] at this)
  have HD := Aside0.mk (show (Kd.fixed k51 w).C w (if c0 = f + o then A0 else A0.map (·.add ((f + o) * 3))) (n0 - (f + o)) (xs.drop (f + o)) by
    have := Kd.C_drop (c := c0) hx0 (m := f + o) (by omega) (by omega)
    rw [List.length_drop, hlx] at this
    exact this)
  have HLT := Aside0.mk (show (xs.take f).length = f by rw [List.length_take]; omega)
  have HLL := Aside0.mk (show ls.length = m from HX2.out.1)
  generalize (if c0 = f + o then A0 else A0.map (·.add ((f + o) * 3))) = A9 at hcut2 HD
  have HG9 := Aside0.mk (show b + 3 ≤ b9 by rw [hb9]; exact HI3.out.lt)
  have HG9' := Aside0.mk (show b9 < w4.heap.size from (Array.getElem?_eq_some_iff.1 B9).1)
  have HS : RqT b b9 (.slice A0 n0 c0) (.slice A1 n1 c1) (.int .i64 sw) f o w4 w4 := RqT.of hI4 HG9.out (Kp.refl _ _) ⟨_, B9⟩
  have HI4 := Aside0.mk hI4
  have HB9 := Aside0.mk B9
  clear r0 r1 r2 f0 f1 f2 q0 q1 q2 p0 p1 p2 hi22 hz0 hz1 hz2 e0 t1 t2 t3 t3b t4 t5 d0 hw4 hb9 B9 hb34 hI4 hx0 hlx
  unfold RqT at HS
  go_region_held3 (fun w' => w'.cell? ⟨b, 0, none⟩ = some (.slice A0 n0 c0) ∧ w'.cell? ⟨b + 1, 0, none⟩ = some (.int .i64 f) ∧ w'.cell? ⟨b + 1, 1, none⟩ = some (.int .i64 o) ∧ w'.cell? ⟨b9, 0, none⟩ = some (cell0 w' ⟨b9, 0, none⟩) ∧ w'.frozen? ⟨b9, 0, none⟩ = false ∧ Aside0 (Kp (fun k => k = b9) w4 w' ∧ ∃ y, w'.heap[b9]? = some (.cells #[y, .slice A1 n1 c1, .int .i64 sw] 25 (0, 0))))
    (first | assumption | exact RqT.step HI4.out HG9.out (by assumption) (below_drew1 (Below.refl _ _)) | exact RqT.step HI4.out HG9.out (by assumption) (below_alloc (Below.refl _ _) _) | exact RqT.store HI4.out HG9.out (by assumption) _)
    ((first | (refine app_rows (x1 := .slice A1 n1 c1) (x2 := .int .i64 sw) (b9 := b9) (W0 := w) (w := w) (w4 := w4) HI4.out HG9.out HG9'.out HBB.out HBW4.out (by rfl) (.tmp 69) (.tmp 74) rfl (.slice (some ⟨w4.heap.size, 0, none⟩) 0 0) [] (xs.take f) A0 f c0 (by rfl) (by rfl) ?hR1 HT.out ?hS1 (by have := HM6.out; simp; omega) ?_; (case hR1 => repeat (first | exact R_new rfl | refine Kd.R_below ?_ (below_drew1 (Below.refl _ _)))); (case hS1 => assumption); intro v1 w1 hR1 hS1) | (refine app_rows (x1 := .slice A1 n1 c1) (x2 := .int .i64 sw) (b9 := b9) (W0 := w) (w := w) (w4 := w4) HI4.out HG9.out HG9'.out HBB.out HBW4.out (by rfl) (.tmp 75) (.tmp 76) rfl v1 ([] ++ xs.take f) ls A2 m c2 (by rfl) (by rfl) ?hR2 HX2.out ?hS2 (by have := HM6.out; have := HLT.out; simp; omega) ?_; (case hR2 => repeat (first | exact hR1 | refine Kd.R_below ?_ (below_drew1 (Below.refl _ _)))); (case hS2 => assumption); intro v2 w2' hR2 hS2) | (refine app_rows (x1 := .slice A1 n1 c1) (x2 := .int .i64 sw) (b9 := b9) (W0 := w) (w := w) (w4 := w4) HI4.out HG9.out HG9'.out HBB.out HBW4.out (by rfl) (.tmp 77) (.tmp 85) rfl v2 ([] ++ xs.take f ++ ls) (xs.drop (f + o)) A9 (n0 - (f + o)) (c0 - (f + o)) (by rfl) (by rfl) ?hR3 HD.out ?hS3 (by have := HM6.out; have := HLT.out; have := HLL.out; simp; omega) ?_; (case hR3 => repeat (first | exact hR2 | refine Kd.R_below ?_ (below_drew1 (Below.refl _ _)))); (case hS3 => assumption); intro v3 w3' hR3 hS3; (obtain ⟨A6, c6, e6, hl6, hC6⟩ := Kd.R_reads hR3); subst e6)))
  clear hcut1 hcut2 e1 HT HD HX0 HX2
  obtain ⟨N6, hN6⟩ : ∃ N6, N6 = (([] ++ xs.take f ++ ls) ++ xs.drop (f + o)).length := ⟨_, rfl⟩
  have hN7 : min f xs.length + (ls.length + (xs.length - (f + o))) = N6 := by rw [hN6]; simp
  rw [hN7]
  obtain ⟨hk, y, hy⟩ := hS3.2.2.2.2.2.out
  obtain ⟨w5, hw5⟩ : ∃ w5 : World, w5 = w3'.setCell ⟨b9, 0, none⟩ (.slice A6 N6 c6) := ⟨_, rfl⟩
  rw [← hw5]
  have hk5 : Kp (fun k => k = b9) w4 w5 := by rw [hw5]; exact hk.trans (Kp.set (S := fun k => k = b9) rfl _)
  have hB9 : w5.heap[b9]? = some (.cells #[.slice A6 N6 c6, .slice A1 n1 c1, .int .i64 sw] 25 (0, 0)) := by rw [hw5]; exact blk_set hy 0 _
  have hR5 : Kd.R (Kd.fixed k51 w) 51 w5 w4.heap.size (fun _ => True) (.slice A6 N6 c6) (([] ++ xs.take f ++ ls) ++ xs.drop (f + o)) := by
    rw [hw5]
    have hR3' := hR3
    rw [← hN6] at hR3'
    exact Kd.R_mono (Kd.R_far (Kd.R_bound hR3') (p := ⟨b9, 0, none⟩) (fun k hk => by have := hk.2.1; have := HG9'.out; show k ≠ b9; omega) _) (fun _ _ => trivial)
  have hB6 : w5.heap[b + 1 + 1]? = some (Obj.cells #[.slice none 0 0, .slice none 0 0, .int .i64 0] 25 (0, 0)) := by
    have h9 := HG9.out
    exact (hk5.block (b + 1 + 1) (by have := HI4.out.lt; omega) (by omega)).trans HI4.out.B6
  have HBW5 := Aside0.mk (show Below w.heap.size w w5 from HBW4.out.trans (hk5.below HBW4.out.size (fun k hk => by have := HG9.out; have := HBB.out; omega)))
  have s0 := cell_of_block hB9 0 _ rfl
  have s1 := cell_of_block hB9 1 _ rfl
  have s2 := cell_of_block hB9 2 _ rfl
  have r0 := cell_of_block hB6 0 _ rfl
  have r1 := cell_of_block hB6 1 _ rfl
  have r2 := cell_of_block hB6 2 _ rfl
  have f0 := blk_frozen hB6 0
  have f1 := blk_frozen hB6 1
  have f2 := blk_frozen hB6 2
  have hs5 : b ≤ w5.heap.size := by have := hk5.size; have := HI4.out.lt; omega
  have hs6 : b + 3 ≤ w4.heap.size := HI4.out.lt
  have HS4 := Aside0.mk (set3 (B := b) (wa := wa) (by omega) hs5 hB6 (.slice A6 N6 c6) (.slice A1 n1 c1) (.int .i64 sw))
  have HRF := Aside0.mk (Kd.R_far (Kd.R_far (Kd.R_far (Kd.R_bound hR5) (p := ⟨b + 1 + 1, 0, none⟩) (fun k hk => by have := hk.2.1; show k ≠ b + 1 + 1; omega) (.slice A6 N6 c6)) (p := ⟨b + 1 + 1, 1, none⟩) (fun k hk => by have := hk.2.1; show k ≠ b + 1 + 1; omega) (.slice A1 n1 c1)) (p := ⟨b + 1 + 1, 2, none⟩) (fun k hk => by have := hk.2.1; show k ≠ b + 1 + 1; omega) (.int .i64 sw))
  have HSZ := Aside0.mk hs6
  clear hN6 hN7 hk hy hw5 hk5 hB9 hR5 hB6 hs5 hs6 hR1 hS1 hR2 hS2 hR3 hS3 hl6 hC6 HI3 HI4
  go_wp2_with fail
  exact bodyPost_ret (results_ct rfl _ _ (b + 1 + 1) 25 _ (0, 0) _ rfl HS4.out.1 hu25 rfl (by kernel_rfl)) rfl ⟨_, rfl, Kd.R_mono (Kd.R_lower HRF.out (by have := HBB.out; have := HSZ.out; omega)) (fun _ _ => trivial), HBW5.out.trans (HBB.out ▸ HS4.out.2)⟩
end Go.Proofs.Ytcigcacjjdpgfaa.Hand
/- The reference's Replace: its contract, by the plain answer repT. -/
namespace Go.Proofs.Ytcigcacjjdpgfaa.Hand
open Go.RowKit Go.Proofs.YtcigcacjjdpgfaaW.PrintWords Go.Proofs.YtcigcacjjdpgfaaW.PrintLast Go.Proofs.YtcigcacjjdpgfaaW.PrintMore Go.Proofs.Ytcigcacjjdpgfaa.PA
set_option linter.unusedVariables false
set_option linter.unusedSimpArgs false

theorem rreplace_calls (A0 : Option Addr) (c0 : Nat) (xs : List S51) (A1 : Option Addr) (c1 : Nat) (ins : List Int) (sw fr old nw : Int) (A2 : Option Addr) (c2 : Nat) (ls : List S51) (w : World)
    (hx : Kd.C k51 w A0 xs.length xs) (hxc : xs.length ≤ c0) (hi : Kd.C (Kd.int .i64) w A1 ins.length ins) (hic : ins.length ≤ c1) (hl : Kd.C k51 w A2 ls.length ls) (hlc : ls.length ≤ c2) (hm : ls.length ≤ 500) (hn : xs.length ≤ 500) (hxl : ∀ c ∈ xs, c.f1.length ≤ 1000000) (hll : ∀ c ∈ ls, c.f1.length ≤ 1000000) (hil : ins.length ≤ 1000000) :
    Calls Try.prog 20 #[.agg #[.slice A0 xs.length c0, .slice A1 ins.length c1, .int .i64 sw], .agg #[.int .i64 fr, .int .i64 old, .int .i64 nw], .slice A2 ls.length c2] w fun e w' =>
      ∃ v0 v1, e = .returned (.tuple #[.agg #[v0, v1, .int .i64 (repT xs ins sw fr old nw ls).2.2.1], .int .i64 (repT xs ins sw fr old nw ls).2.2.2]) ∧ Rd k51 w' v0 (repT xs ins sw fr old nw ls).1 ∧ Rd (Kd.int .i64) w' v1 (repT xs ins sw fr old nw ls).2.1 ∧ Below w.heap.size w w' := by
  have hV : ∀ W', Below w.heap.size w W' → Calls Try.prog 12 #[.agg #[.slice A0 xs.length c0, .slice A1 ins.length c1, .int .i64 sw], .int .i64 ins.length] W' fun e w' => e = .returned (.bool (validB xs ins sw ins.length)) ∧ Below W'.heap.size W' w' :=
    fun W' hb => by
      obtain ⟨k, hk⟩ := rval_ex xs ins sw ins.length (by omega) hxl hil
      exact (emendateref35_Valid.calls k A0 c0 xs A1 c1 ins sw ins.length _ W' (Kd.C_below hx hb) hxc (Kd.C_below hi hb) hic hk).mono fun e w' h => h
  have hC : ∀ W', Below w.heap.size w W' → Calls Try.prog 26 #[.slice A2 ls.length c2, .int .i64 ins.length] W' fun e w' => e = .returned (.bool (ls.all (vcB ins.length))) ∧ Below W'.heap.size W' w' :=
    fun W' hb => by
      obtain ⟨k, hk⟩ := rcols_ex ls (by omega) hll ins.length
      exact (emendateref35_columns.calls k A2 c2 ls ins.length _ W' (Kd.C_below hl hb) hlc hk).mono fun e w' h => h
  have fin : ∀ (k : Int) (w' : World) (e : Ending), e = .returned (errV k) ∧ Below w.heap.size w w' → repT xs ins sw fr old nw ls = ([], [], 0, k) →
      ∃ v0 v1, e = .returned (.tuple #[.agg #[v0, v1, .int .i64 (repT xs ins sw fr old nw ls).2.2.1], .int .i64 (repT xs ins sw fr old nw ls).2.2.2]) ∧ Rd k51 w' v0 (repT xs ins sw fr old nw ls).1 ∧ Rd (Kd.int .i64) w' v1 (repT xs ins sw fr old nw ls).2.1 ∧ Below w.heap.size w w' := by
    rintro k w' e ⟨he, hb⟩ h
    rw [h]
    exact ⟨_, _, he, Rd.nil _ _, Rd.nil _ _, hb⟩
  have hm' : ls.length ≤ 1000000 := by omega
  have hn' : xs.length ≤ 1000000 := by omega
  cases h1 : validB xs ins sw ins.length
  · rw [h1] at hV
    exact (rrep_a A0 c0 xs.length A1 c1 ins.length sw fr old nw A2 c2 ls.length w _ hm' hn' hV hC).mono fun e w' h => fin 1 w' e h (by unfold repT; rw [if_neg (by rw [h1]; simp)])
  · rw [h1] at hV
    cases h2 : ls.all (vcB ins.length)
    · rw [h2] at hC
      exact (rrep_b A0 c0 xs.length A1 c1 ins.length sw fr old nw A2 c2 ls.length w hm' hn' hV hC).mono fun e w' h => fin 1 w' e h (by unfold repT; rw [if_neg (by rw [h2]; simp)])
    · rw [h2] at hC
      by_cases h3 : (ls.length : Int) = nw
      · have hr : repT xs ins sw fr old nw ls = if fr < 0 ∨ old < 0 ∨ fr > xs.length ∨ old > xs.length - fr then ([], [], 0, 2)
            else if (xs.length : Int) - old + ls.length > 60 then ([], [], 0, 11) else ((xs.take fr.toNat ++ ls) ++ xs.drop (fr.toNat + old.toNat), ins, sw, 0) := by
          unfold repT
          rw [if_pos ⟨h1, h2, h3⟩]
        by_cases k1 : fr < 0
        · exact (rrep_d A0 c0 xs.length A1 c1 ins.length sw fr old nw A2 c2 ls.length w hm' hn' hV hC h3 k1).mono fun e w' h => fin 2 w' e h (by rw [hr, if_pos (.inl k1)])
        · by_cases k2 : old < 0
          · exact (rrep_e A0 c0 xs.length A1 c1 ins.length sw fr old nw A2 c2 ls.length w hm' hn' hV hC h3 k1 k2).mono fun e w' h => fin 2 w' e h (by rw [hr, if_pos (.inr (.inl k2))])
          · by_cases k3 : fr > xs.length
            · exact (rrep_f A0 c0 xs.length A1 c1 ins.length sw fr old nw A2 c2 ls.length w hm' hn' hV hC h3 k1 k2 k3).mono fun e w' h => fin 2 w' e h (by rw [hr, if_pos (.inr (.inr (.inl k3)))])
            · by_cases k4 : old > xs.length - fr
              · exact (rrep_g A0 c0 xs.length A1 c1 ins.length sw fr old nw A2 c2 ls.length w hm' hn' hV hC h3 k1 k2 k3 k4).mono fun e w' h => fin 2 w' e h (by rw [hr, if_pos (.inr (.inr (.inr k4)))])
              · have hr2 : repT xs ins sw fr old nw ls = if (xs.length : Int) - old + ls.length > 60 then ([], [], 0, 11) else ((xs.take fr.toNat ++ ls) ++ xs.drop (fr.toNat + old.toNat), ins, sw, 0) := by
                  rw [hr, if_neg (by omega)]
                by_cases k5 : (xs.length : Int) - old + ls.length > 60
                · exact (rrep_h A0 c0 xs.length A1 c1 ins.length sw fr old nw A2 c2 ls.length w hm' hn' hV hC h3 k1 k2 k3 k4 k5).mono fun e w' h => fin 11 w' e h (by rw [hr2, if_pos k5])
                · rw [hr2, if_neg k5]
                  have hfo : fr.toNat + old.toNat ≤ xs.length := by omega
                  refine (rrep_ok A0 c0 xs.length A1 c1 ins.length sw fr old nw A2 c2 ls.length w hm' hn' hV hC fr.toNat old.toNat (by omega) (by omega) hfo hxc h3 (by omega) xs ls hx hl hlc).mono ?_
                  rintro e w' ⟨v, he, hR, hb⟩
                  exact ⟨_, _, he, Rd_of_fixed hR hb, ⟨A1, c1, rfl, hic, Kd.C_below hi hb⟩, hb⟩
      · exact (rrep_c A0 c0 xs.length A1 c1 ins.length sw fr old nw A2 c2 ls.length w hm' hn' hV hC h3).mono fun e w' h => fin 1 w' e h (by unfold repT; rw [if_neg (fun h => h3 h.2.2)])
end Go.Proofs.Ytcigcacjjdpgfaa.Hand
