import Derived.Test.YtcigcacjjdpgfaaHandG1
/- columns.Of by hand: its closure, and what it answers. -/
namespace Go.Proofs.Ytcigcacjjdpgfaa.Hand
open Go.RowKit Go.Proofs.YtcigcacjjdpgfaaW.PrintWords Go.Proofs.YtcigcacjjdpgfaaW.PrintLast Go.Proofs.YtcigcacjjdpgfaaW.PrintMore Go.Proofs.Ytcigcacjjdpgfaa.PA
set_option linter.unusedVariables false
set_option linter.unusedSimpArgs false

def confAt (conf : List (List S53)) (i : Nat) : List S53 := if conf.length = 0 then [] else conf.getD i []
def badC (terms k : Int) (x : S53) : Bool := decide (x.f0 < 0) || decide (x.f0 ≥ terms) || decide (x.f0 = k) || !largeB x.f1
def badTok (terms k : Int) (l : List S53) : Bool := decide (k < -1) || decide (k ≥ terms) || l.any (badC terms k)
def badFrom (terms : Int) (conf : List (List S53)) : List Int → Nat → Bool
  | [], _ => false
  | k :: ks, i => badTok terms k (confAt conf i) || badFrom terms conf ks (i + 1)
def colsFrom (conf : List (List S53)) (ins del : List Int) (rep : List (List Int)) (unk : Int) : List Int → Nat → List S51
  | [], _ => []
  | k :: ks, i => colT k (confAt conf i) ins del rep unk :: colsFrom conf ins del rep unk ks (i + 1)
/-- A slice value that reads as xs. -/
def Rd {α : Type} (d : Kd α) (w : World) (v : Value) (xs : List α) : Prop := ∃ A c, v = .slice A xs.length c ∧ xs.length ≤ c ∧ Kd.C d w A xs.length xs
theorem Rd.below {α : Type} {d : Kd α} {w w' : World} {v : Value} {xs : List α} (h : Rd d w v xs) (hb : Below w.heap.size w w') : Rd d w' v xs := by
  obtain ⟨A, c, e, hl, hc⟩ := h
  exact ⟨A, c, e, hl, Kd.C_below hc hb⟩
theorem Rd.nil {α : Type} (d : Kd α) (w : World) : Rd d w (.slice none 0 0) [] := ⟨none, 0, rfl, Nat.le_refl _, Kd.C_nil d w⟩

set_option maxHeartbeats 1000000 in
theorem of28_nil (tb : Nat) (A1 : Option Addr) (c1 : Nat) (i : Nat) (w : World) (ht : w.cell? ⟨tb, 0, none⟩ = some (.slice A1 0 c1)) :
    Calls Try.prog 28 #[.int .i64 i, .pointer (some ⟨tb, 0, none⟩)] w fun e w' => e = .returned (.slice none 0 0) ∧ Below w.heap.size w w' := by
  have HB := Aside0.mk (Below.refl w.heap.size w)
  go_enter Try.func28, Try.ntmps28
  go_wp2_with fail
  go_ret
  exact ⟨rfl, HB.out⟩
set_option maxHeartbeats 1000000 in
theorem of28_some (tb : Nat) (ad : Addr) (n c1 : Nat) (hn : 0 < n) (i : Nat) (v : Value) (hi : i < n) (hm : n ≤ 9223372036854775807) (w : World) (ht : w.cell? ⟨tb, 0, none⟩ = some (.slice (some ad) n c1)) (hx : w.cell? (ad.add i) = some v) :
    Calls Try.prog 28 #[.int .i64 i, .pointer (some ⟨tb, 0, none⟩)] w fun e w' => e = .returned v ∧ Below w.heap.size w w' := by
  have HB := Aside0.mk (Below.refl w.heap.size w)
  have q1 : ((n : Int) == 0) = false := beq_eq_false_iff_ne.2 (by omega)
  have q2 : (i : Int) < n := by omega
  have q3 : 0 ≤ (i : Int) := by omega
  go_enter Try.func28, Try.ntmps28
  go_wp2_with fail
  go_ret
  exact ⟨rfl, HB.out⟩
theorem of28 (tb : Nat) (A1 : Option Addr) (c1 : Nat) (conf : List (List S53)) (i : Nat) (w : World) (ht : w.cell? ⟨tb, 0, none⟩ = some (.slice A1 conf.length c1)) (hC : Kd.C (Kd.slice 53 k53) w A1 conf.length conf) (hi : conf.length ≠ 0 → i < conf.length) :
    Calls Try.prog 28 #[.int .i64 i, .pointer (some ⟨tb, 0, none⟩)] w fun e w' => ∃ A c, e = .returned (.slice A (confAt conf i).length c) ∧ (confAt conf i).length ≤ c ∧ Kd.C k53 w A (confAt conf i).length (confAt conf i) ∧ Below w.heap.size w w' := by
  by_cases h0 : conf.length = 0
  · have e : confAt conf i = [] := by unfold confAt; rw [if_pos h0]
    rw [e]
    rw [h0] at ht
    exact (of28_nil tb A1 c1 i w ht).mono fun e w' ⟨he, hb⟩ => ⟨none, 0, he, Nat.le_refl _, Kd.C_nil _ _, hb⟩
  · have e : confAt conf i = conf.getD i [] := by unfold confAt; rw [if_neg h0]
    obtain ⟨ad, A0, c0, rfl, hx, hl, hc⟩ := at_L5 hC (i : Int) (by omega) (by have := hi h0; omega)
    rw [Int.toNat_natCast] at hx
    have e2 : rd_L5 conf (i : Int) = conf.getD i [] := by simp [rd_L5]
    rw [e2] at hx hl hc
    rw [e]
    exact (of28_some tb ad conf.length c1 (by omega) i _ (hi h0) hC.2.1 w ht hx).mono fun e w' ⟨he, hb⟩ => ⟨A0, c0, he, hl, hc, hb⟩
end Go.Proofs.Ytcigcacjjdpgfaa.Hand
/- columns.Of by hand: the walk. -/
namespace Go.Proofs.Ytcigcacjjdpgfaa.Hand
open Go.RowKit Go.Proofs.YtcigcacjjdpgfaaW.PrintWords Go.Proofs.YtcigcacjjdpgfaaW.PrintLast Go.Proofs.YtcigcacjjdpgfaaW.PrintMore Go.Proofs.Ytcigcacjjdpgfaa.PA
set_option linter.unusedVariables false
set_option linter.unusedSimpArgs false

set_option maxHeartbeats 4000000 in
set_option maxRecDepth 100000 in
theorem of_err1 (A0 : Option Addr) (c0 n0 : Nat) (A1 : Option Addr) (c1 n1 : Nat) (A2 A3 A4 : Option Addr) (c2 c3 c4 n2 n3 n4 : Nat) (sw unk : Int) (w : World)
    (hpv : ∀ W', Below w.heap.size w W' → Calls Try.prog 27 #[.agg #[.slice A2 n2 c2, .slice A3 n3 c3, .slice A4 n4 c4, .int .i64 sw, .int .i64 unk], .int .i64 n2] W' fun e w' => e = .returned (.bool false) ∧ Below W'.heap.size W' w') :
    Calls Try.prog 15 #[.slice A0 n0 c0, .slice A1 n1 c1, .agg #[.slice A2 n2 c2, .slice A3 n3 c3, .slice A4 n4 c4, .int .i64 sw, .int .i64 unk]] w fun e w' =>
      e = .returned (.tuple #[.agg #[.slice none 0 0, .slice none 0 0, .int .i64 0], .int .i64 1]) ∧ Below w.heap.size w w' := by
  have hu34 := Try.underlying34
  have hu25 := Try.underlying25
  obtain ⟨wa, hwa⟩ : ∃ wa : World, wa = ((w.alloc (Obj.cells #[Value.slice A1 n1 c1] 29)).alloc (Obj.cells #[.slice A2 n2 c2, .slice A3 n3 c3, .slice A4 n4 c4, .int .i64 sw, .int .i64 unk] 34)).alloc (Obj.cells #[.slice none 0 0, .slice none 0 0, .int .i64 0] 25) := ⟨_, rfl⟩
  obtain ⟨b, hbb⟩ : ∃ b, b = w.heap.size := ⟨_, rfl⟩
  have hb : Below w.heap.size w wa := by rw [hwa]; exact below_alloc (below_alloc (below_alloc (Below.refl _ _) _) _) _
  have B4 : wa.heap[b]? = some (Obj.cells #[Value.slice A1 n1 c1] 29 (0, 0)) := by rw [hwa]; exact blk_Kp (S := fun _ => False) (blk_Kp (S := fun _ => False) (blk_new hbb) (Kp.of_below (below_alloc (Below.refl _ _) _)) (fun h => h)) (Kp.of_below (below_alloc (Below.refl _ _) _)) (fun h => h)
  have B5 : wa.heap[b + 1]? = some (Obj.cells #[.slice A2 n2 c2, .slice A3 n3 c3, .slice A4 n4 c4, .int .i64 sw, .int .i64 unk] 34 (0, 0)) := by rw [hwa]; exact blk_Kp (S := fun _ => False) (blk_new (by rw [hbb]; simp)) (Kp.of_below (below_alloc (Below.refl _ _) _)) (fun h => h)
  have B6 : wa.heap[b + 1 + 1]? = some (Obj.cells #[.slice none 0 0, .slice none 0 0, .int .i64 0] 25 (0, 0)) := by rw [hwa]; exact blk_new (by rw [hbb]; simp)
  have p0 : wa.cell? ⟨b + 1, 0, none⟩ = some (.slice A2 n2 c2) := cell_of_block B5 0 _ rfl
  have p1 : wa.cell? ⟨b + 1, 1, none⟩ = some (.slice A3 n3 c3) := cell_of_block B5 1 _ rfl
  have p2 : wa.cell? ⟨b + 1, 2, none⟩ = some (.slice A4 n4 c4) := cell_of_block B5 2 _ rfl
  have p3 : wa.cell? ⟨b + 1, 3, none⟩ = some (.int .i64 sw) := cell_of_block B5 3 _ rfl
  have p4 : wa.cell? ⟨b + 1, 4, none⟩ = some (.int .i64 unk) := cell_of_block B5 4 _ rfl
  have hcall := hpv wa hb
  have HB := Aside0.mk hb
  have H6 := Aside0.mk B6
  have HBB := Aside0.mk (show w.heap.size ≤ b + 1 + 1 by omega)
  clear hb B4 B5 B6 hpv
  go_enter Try.func15, Try.ntmps15
  go_upto_region 1 with fail
  rw [← hwa, ← hbb]
  clear hwa hbb
  go_wp2_with fail
  (with_reducible refine hcall.mono ?_)
  rintro e w2 ⟨rfl, hb2⟩
  have HB2 := Aside0.mk (below_step HB.out hb2)
  have B6 := blk_Kp (S := fun _ => False) H6.out (Kp.of_below hb2) (fun h => h)
  have q0 : w2.cell? ⟨b + 1 + 1, 0, none⟩ = some (.slice none 0 0) := cell_of_block B6 0 _ rfl
  have q1 : w2.cell? ⟨b + 1 + 1, 1, none⟩ = some (.slice none 0 0) := cell_of_block B6 1 _ rfl
  have q2 : w2.cell? ⟨b + 1 + 1, 2, none⟩ = some (.int .i64 0) := cell_of_block B6 2 _ rfl
  have f0 := blk_frozen B6 0
  have f1 := blk_frozen B6 1
  have f2 := blk_frozen B6 2
  have HK := Aside0.mk (show Below w.heap.size w2 (((w2.setCell ⟨b + 1 + 1, 0, none⟩ (.slice none 0 0)).setCell ⟨b + 1 + 1, 1, none⟩ (.slice none 0 0)).setCell ⟨b + 1 + 1, 2, none⟩ (.int .i64 0)) from ((Kp.set (S := fun k => k = b + 1 + 1) rfl _).trans ((Kp.set (S := fun k => k = b + 1 + 1) rfl _).trans (Kp.set (S := fun k => k = b + 1 + 1) rfl _))).below HB2.out.size (fun k hk => by subst hk; exact HBB.out))
  have HB6 := Aside0.mk (blk_set (blk_set (blk_set B6 0 (.slice none 0 0)) 1 (.slice none 0 0)) 2 (.int .i64 0))
  clear hcall hb2 B6 p0 p1 p2 p3 p4
  dsimp only
  go_wp2_with fail
  exact bodyPost_ret (results_ct rfl _ _ (b + 1 + 1) 25 _ (0, 0) _ rfl HB6.out hu25 rfl (by kernel_rfl)) rfl ⟨rfl, HB2.out.trans HK.out⟩
set_option maxHeartbeats 4000000 in
set_option maxRecDepth 100000 in
theorem of_err2 (A0 : Option Addr) (c0 n0 : Nat) (A1 : Option Addr) (c1 n1 : Nat) (A2 A3 A4 : Option Addr) (c2 c3 c4 n2 n3 n4 : Nat) (sw unk : Int) (w : World)
    (hn1 : n1 ≠ 0) (hn2 : n1 ≠ n0) (hpv : ∀ W', Below w.heap.size w W' → Calls Try.prog 27 #[.agg #[.slice A2 n2 c2, .slice A3 n3 c3, .slice A4 n4 c4, .int .i64 sw, .int .i64 unk], .int .i64 n2] W' fun e w' => e = .returned (.bool true) ∧ Below W'.heap.size W' w') :
    Calls Try.prog 15 #[.slice A0 n0 c0, .slice A1 n1 c1, .agg #[.slice A2 n2 c2, .slice A3 n3 c3, .slice A4 n4 c4, .int .i64 sw, .int .i64 unk]] w fun e w' =>
      e = .returned (.tuple #[.agg #[.slice none 0 0, .slice none 0 0, .int .i64 0], .int .i64 1]) ∧ Below w.heap.size w w' := by
  have hu34 := Try.underlying34
  have hu25 := Try.underlying25
  obtain ⟨wa, hwa⟩ : ∃ wa : World, wa = ((w.alloc (Obj.cells #[Value.slice A1 n1 c1] 29)).alloc (Obj.cells #[.slice A2 n2 c2, .slice A3 n3 c3, .slice A4 n4 c4, .int .i64 sw, .int .i64 unk] 34)).alloc (Obj.cells #[.slice none 0 0, .slice none 0 0, .int .i64 0] 25) := ⟨_, rfl⟩
  obtain ⟨b, hbb⟩ : ∃ b, b = w.heap.size := ⟨_, rfl⟩
  have hb : Below w.heap.size w wa := by rw [hwa]; exact below_alloc (below_alloc (below_alloc (Below.refl _ _) _) _) _
  have B4 : wa.heap[b]? = some (Obj.cells #[Value.slice A1 n1 c1] 29 (0, 0)) := by rw [hwa]; exact blk_Kp (S := fun _ => False) (blk_Kp (S := fun _ => False) (blk_new hbb) (Kp.of_below (below_alloc (Below.refl _ _) _)) (fun h => h)) (Kp.of_below (below_alloc (Below.refl _ _) _)) (fun h => h)
  have B5 : wa.heap[b + 1]? = some (Obj.cells #[.slice A2 n2 c2, .slice A3 n3 c3, .slice A4 n4 c4, .int .i64 sw, .int .i64 unk] 34 (0, 0)) := by rw [hwa]; exact blk_Kp (S := fun _ => False) (blk_new (by rw [hbb]; simp)) (Kp.of_below (below_alloc (Below.refl _ _) _)) (fun h => h)
  have B6 : wa.heap[b + 1 + 1]? = some (Obj.cells #[.slice none 0 0, .slice none 0 0, .int .i64 0] 25 (0, 0)) := by rw [hwa]; exact blk_new (by rw [hbb]; simp)
  have p0 : wa.cell? ⟨b + 1, 0, none⟩ = some (.slice A2 n2 c2) := cell_of_block B5 0 _ rfl
  have p1 : wa.cell? ⟨b + 1, 1, none⟩ = some (.slice A3 n3 c3) := cell_of_block B5 1 _ rfl
  have p2 : wa.cell? ⟨b + 1, 2, none⟩ = some (.slice A4 n4 c4) := cell_of_block B5 2 _ rfl
  have p3 : wa.cell? ⟨b + 1, 3, none⟩ = some (.int .i64 sw) := cell_of_block B5 3 _ rfl
  have p4 : wa.cell? ⟨b + 1, 4, none⟩ = some (.int .i64 unk) := cell_of_block B5 4 _ rfl
  have hcall := hpv wa hb
  have HB := Aside0.mk hb
  have H6 := Aside0.mk B6
  have H4 := Aside0.mk B4
  have g1 : ((n1 : Int) != 0) = true := bne_iff_ne.2 (by omega)
  have g2 : ((n1 : Int) != (n0 : Int)) = true := bne_iff_ne.2 (by omega)
  have HBB := Aside0.mk (show w.heap.size ≤ b + 1 + 1 by omega)
  clear hb B4 B5 B6 hpv hn1 hn2
  go_enter Try.func15, Try.ntmps15
  go_upto_region 1 with fail
  rw [← hwa, ← hbb]
  clear hwa hbb
  go_wp2_with fail
  (with_reducible refine hcall.mono ?_)
  rintro e w2 ⟨rfl, hb2⟩
  have HB2 := Aside0.mk (below_step HB.out hb2)
  have B6 := blk_Kp (S := fun _ => False) H6.out (Kp.of_below hb2) (fun h => h)
  have q0 : w2.cell? ⟨b + 1 + 1, 0, none⟩ = some (.slice none 0 0) := cell_of_block B6 0 _ rfl
  have q1 : w2.cell? ⟨b + 1 + 1, 1, none⟩ = some (.slice none 0 0) := cell_of_block B6 1 _ rfl
  have q2 : w2.cell? ⟨b + 1 + 1, 2, none⟩ = some (.int .i64 0) := cell_of_block B6 2 _ rfl
  have q4 : w2.cell? ⟨b, 0, none⟩ = some (.slice A1 n1 c1) := cell_of_block (blk_Kp (S := fun _ => False) H4.out (Kp.of_below hb2) (fun h => h)) 0 _ rfl
  have f0 := blk_frozen B6 0
  have f1 := blk_frozen B6 1
  have f2 := blk_frozen B6 2
  have HK := Aside0.mk (show Below w.heap.size w2 (((w2.setCell ⟨b + 1 + 1, 0, none⟩ (.slice none 0 0)).setCell ⟨b + 1 + 1, 1, none⟩ (.slice none 0 0)).setCell ⟨b + 1 + 1, 2, none⟩ (.int .i64 0)) from ((Kp.set (S := fun k => k = b + 1 + 1) rfl _).trans ((Kp.set (S := fun k => k = b + 1 + 1) rfl _).trans (Kp.set (S := fun k => k = b + 1 + 1) rfl _))).below HB2.out.size (fun k hk => by subst hk; exact HBB.out))
  have HB6 := Aside0.mk (blk_set (blk_set (blk_set B6 0 (.slice none 0 0)) 1 (.slice none 0 0)) 2 (.int .i64 0))
  clear hcall hb2 B6 p0 p1 p2 p3 p4
  dsimp only
  go_wp2_with fail
  exact bodyPost_ret (results_ct rfl _ _ (b + 1 + 1) 25 _ (0, 0) _ rfl HB6.out hu25 rfl (by kernel_rfl)) rfl ⟨rfl, HB2.out.trans HK.out⟩
end Go.Proofs.Ytcigcacjjdpgfaa.Hand
/- columns.Of by hand: the walk where prices are valid. -/
namespace Go.Proofs.Ytcigcacjjdpgfaa.Hand
open Go.RowKit Go.Proofs.YtcigcacjjdpgfaaW.PrintWords Go.Proofs.YtcigcacjjdpgfaaW.PrintLast Go.Proofs.YtcigcacjjdpgfaaW.PrintMore Go.Proofs.Ytcigcacjjdpgfaa.PA
set_option linter.unusedVariables false
set_option linter.unusedSimpArgs false

def errV (c : Int) : Value := .tuple #[.agg #[.slice none 0 0, .slice none 0 0, .int .i64 0], .int .i64 c]
/-- What lies in memory while Of runs. -/
structure OfI (b : Nat) (vc v2 v3 v4 : Value) (sw unk : Int) (wa wr : World) : Prop where
  hb : Below (b + 3) wa wr
  sz : wa.heap.size = b + 3
  c0 : wr.cell? ⟨b, 0, none⟩ = some vc
  p0 : wr.cell? ⟨b + 1, 0, none⟩ = some v2
  p1 : wr.cell? ⟨b + 1, 1, none⟩ = some v3
  p2 : wr.cell? ⟨b + 1, 2, none⟩ = some v4
  p3 : wr.cell? ⟨b + 1, 3, none⟩ = some (.int .i64 sw)
  p4 : wr.cell? ⟨b + 1, 4, none⟩ = some (.int .i64 unk)
  B6 : wr.heap[b + 1 + 1]? = some (Obj.cells #[.slice none 0 0, .slice none 0 0, .int .i64 0] 25 (0, 0))
theorem OfI.lt {b : Nat} {vc v2 v3 v4 : Value} {sw unk : Int} {wa wr : World} (h : OfI b vc v2 v3 v4 sw unk wa wr) : b + 3 ≤ wr.heap.size := by have := h.hb.size; have := h.sz; omega
theorem OfI.step' {b : Nat} {vc v2 v3 v4 : Value} {sw unk : Int} {wa wr W : World} (h : OfI b vc v2 v3 v4 sw unk wa wr) (hb : Below (b + 3) wr W) : OfI b vc v2 v3 v4 sw unk wa W :=
  ⟨h.hb.trans hb, h.sz, (hb.cell (p := ⟨b, 0, none⟩) (by show b < b + 3; omega)).trans h.c0, (hb.cell (p := ⟨b + 1, 0, none⟩) (by show b + 1 < b + 3; omega)).trans h.p0, (hb.cell (p := ⟨b + 1, 1, none⟩) (by show b + 1 < b + 3; omega)).trans h.p1, (hb.cell (p := ⟨b + 1, 2, none⟩) (by show b + 1 < b + 3; omega)).trans h.p2,
    (hb.cell (p := ⟨b + 1, 3, none⟩) (by show b + 1 < b + 3; omega)).trans h.p3, (hb.cell (p := ⟨b + 1, 4, none⟩) (by show b + 1 < b + 3; omega)).trans h.p4, (hb.block _ (by omega)).trans h.B6⟩
theorem OfI.step {b : Nat} {vc v2 v3 v4 : Value} {sw unk : Int} {wa wr W : World} (h : OfI b vc v2 v3 v4 sw unk wa wr) (hb : Below wr.heap.size wr W) : OfI b vc v2 v3 v4 sw unk wa W := h.step' (hb.mono h.lt)

/-- The end of Of behind an error. -/
theorem set3 {B : Nat} {wa wr : World} {g : Nat} (hg : B ≤ g) (hs : B ≤ wr.heap.size) (h : wr.heap[g]? = some (Obj.cells #[.slice none 0 0, .slice none 0 0, .int .i64 0] 25 (0, 0))) (v0 v1 v2 : Value) :
    (((wr.setCell ⟨g, 0, none⟩ v0).setCell ⟨g, 1, none⟩ v1).setCell ⟨g, 2, none⟩ v2).heap[g]? = some (Obj.cells #[v0, v1, v2] 25 (0, 0)) ∧ Below B wr (((wr.setCell ⟨g, 0, none⟩ v0).setCell ⟨g, 1, none⟩ v1).setCell ⟨g, 2, none⟩ v2) :=
  ⟨blk_set (blk_set (blk_set h 0 v0) 1 v1) 2 v2, ((Kp.set (S := fun k => k = g) rfl _).trans ((Kp.set (S := fun k => k = g) rfl _).trans (Kp.set (S := fun k => k = g) rfl _))).below hs (fun k hk => by subst hk; exact hg)⟩

theorem badFrom_at {terms : Int} {conf : List (List S53)} : ∀ {ks : List Int} {i : Nat}, badFrom terms conf ks i = false → ∀ j k, ks[j]? = some k → badTok terms k (confAt conf (i + j)) = false
  | [], i, h, j, k, hj => by simp at hj
  | x :: ks, i, h, j, k, hj => by
    simp only [badFrom, Bool.or_eq_false_iff] at h
    cases j with
    | zero =>
      obtain rfl : x = k := by simpa using hj
      exact h.1
    | succ j =>
      have := badFrom_at h.2 j k (by simpa using hj)
      rwa [Nat.add_assoc, Nat.add_comm 1 j] at this
theorem of28W {A1 : Option Addr} {c1 : Nat} {conf : List (List S53)} {i : Nat} {w : World} (hC : Kd.C (Kd.slice 53 k53) w A1 conf.length conf) (hi : conf.length ≠ 0 → i < conf.length) :
    ∃ A c, (confAt conf i).length ≤ c ∧ Kd.C k53 w A (confAt conf i).length (confAt conf i) ∧ ∀ tb W', Below w.heap.size w W' → W'.cell? ⟨tb, 0, none⟩ = some (.slice A1 conf.length c1) →
      Calls Try.prog 28 #[.int .i64 i, .pointer (some ⟨tb, 0, none⟩)] W' fun e w' => e = .returned (.slice A (confAt conf i).length c) ∧ Below W'.heap.size W' w' := by
  by_cases h0 : conf.length = 0
  · have e : confAt conf i = [] := by unfold confAt; rw [if_pos h0]
    rw [e]
    refine ⟨none, 0, Nat.le_refl _, Kd.C_nil _ _, fun tb W' hb ht => ?_⟩
    rw [h0] at ht
    exact of28_nil tb A1 c1 i W' ht
  · have e : confAt conf i = conf.getD i [] := by unfold confAt; rw [if_neg h0]
    obtain ⟨ad, A0, c0, rfl, hx, hl, hc⟩ := at_L5 hC (i : Int) (by omega) (by have := hi h0; omega)
    rw [Int.toNat_natCast] at hx
    have e2 : rd_L5 conf (i : Int) = conf.getD i [] := by simp [rd_L5]
    rw [e2] at hx hl hc
    rw [e]
    refine ⟨A0, c0, hl, hc, fun tb W' hb ht => ?_⟩
    exact of28_some tb ad conf.length c1 (by omega) i _ (hi h0) hC.2.1 W' ht ((hb.cell (World.block_lt_of_cell? w _ hx)).trans hx)
/-- What is held while a column is made and appended. -/
def OfT (b : Nat) (vc v2 v3 v4 : Value) (sw unk : Int) (wa wr : World) (w' : World) : Prop :=
  w'.cell? ⟨b + 1, 0, none⟩ = some v2 ∧ w'.cell? ⟨b + 1, 1, none⟩ = some v3 ∧ w'.cell? ⟨b + 1, 2, none⟩ = some v4 ∧ w'.cell? ⟨b + 1, 3, none⟩ = some (.int .i64 sw) ∧ w'.cell? ⟨b + 1, 4, none⟩ = some (.int .i64 unk) ∧
    Aside0 (OfI b vc v2 v3 v4 sw unk wa w' ∧ wr.heap.size ≤ w'.heap.size)
/-- And what holds until the append. -/
def OfS (b : Nat) (vc v2 v3 v4 : Value) (sw unk : Int) (wa wr : World) (v14 : Value) (xs : List S51) (w' : World) : Prop := (OfI b vc v2 v3 v4 sw unk wa w' ∧ wr.heap.size ≤ w'.heap.size) ∧ Kd.R k51 51 w' (b + 3) (fun _ => True) v14 xs
section
variable {b : Nat} {vc v2 v3 v4 : Value} {sw unk : Int} {wa wr w' w2 : World} {v14 : Value} {xs : List S51}
theorem OfT.of (h : OfI b vc v2 v3 v4 sw unk wa w') (hs : wr.heap.size ≤ w'.heap.size) : OfT b vc v2 v3 v4 sw unk wa wr w' := ⟨h.p0, h.p1, h.p2, h.p3, h.p4, ⟨h, hs⟩⟩
theorem OfT.step (h : OfT b vc v2 v3 v4 sw unk wa wr w') (hb : Below w'.heap.size w' w2) : OfT b vc v2 v3 v4 sw unk wa wr w2 :=
  OfT.of (h.2.2.2.2.2.out.1.step hb) (Nat.le_trans h.2.2.2.2.2.out.2 hb.size)
theorem OfS.step (h : OfS b vc v2 v3 v4 sw unk wa wr v14 xs w') (hb : Below w'.heap.size w' w2) : OfS b vc v2 v3 v4 sw unk wa wr v14 xs w2 :=
  ⟨⟨h.1.1.step hb, Nat.le_trans h.1.2 hb.size⟩, Kd.R_below h.2 hb⟩
theorem append_col {ops : Array Oper} {o : Oper} {a : Act} {Q : Exit → Act → World → Prop} {Kc : Act → World → Prop} {W : World} (hw : Region.wanted o (yielded ops a.tmps) = true) (s x : Operand)
    (ho : o.op = .call { callee := .builtin .append, args := #[s, x], argTypes := #[22, 22] }) (p : S51) (cs : List Value) (hs : a.eval s = v14) (hx : a.eval x = .slice (some ⟨W.heap.size, 0, none⟩) 1 1)
    (hp : k51.M W (b + 3) (fun kb => some kb ≠ v14.ownBlock) p cs) (hS : OfS b vc v2 v3 v4 sw unk wa wr v14 xs W) (hl : xs.length ≤ 60)
    (h : ∀ v1 w1, Kd.R k51 51 w1 (b + 3) (fun _ => True) v1 (xs ++ [p]) → OfT b vc v2 v3 v4 sw unk wa wr w1 → Kc (a.put o.dst v1) w1) :
    if Region.wanted o (yielded ops a.tmps) = true then Oper.wp Try.prog o a (W.alloc (.cells cs.toArray 51)) Kc Q else Kc (a.put o.dst undef) (W.alloc (.cells cs.toArray 51)) := by
  refine Kd.R_append_step k51 (w0 := W) (b + 3) hw s x 22 51 (.agg #[.int .i64 0, .slice none 0 0, .int .i64 0]) 40 ho Try.underlying22 info51 rfl (by decide) (by omega) v14 xs p cs (fun _ => True) (fun kb => some kb ≠ v14.ownBlock) hs hx hp (fun _ h => ⟨trivial, h⟩) (fun _ _ => trivial) hS.2 (Below.refl _ _) hS.1.1.lt (by omega) ?_
  intro v1 w1 hR1 hB1 hg1 hat1
  exact h v1 w1 hR1 (OfT.of (hS.1.1.step' hB1) (Nat.le_trans hS.1.2 hB1.size))
end
theorem R_own_lt {w : World} {base : Nat} {ok : Nat → Prop} {v : Value} {xs : List S51} (h : Kd.R k51 51 w base ok v xs) (k : Nat) (hk : v.ownBlock = some k) : k < w.heap.size := Kd.R_lt h k hk

set_option maxHeartbeats 8000000 in
set_option maxRecDepth 100000 in
theorem of_main (A0 : Option Addr) (c0 : Nat) (kinds : List Int) (A1 : Option Addr) (c1 : Nat) (conf : List (List S53)) (A2 A3 A4 : Option Addr) (c2 c3 c4 n2 n3 n4 : Nat) (sw unk : Int) (w : World)
    (hk : Kd.C (Kd.int .i64) w A0 kinds.length kinds) (hkm : kinds.length ≤ 1000000) (hC : Kd.C (Kd.slice 53 k53) w A1 conf.length conf) (hlen : conf.length = 0 ∨ conf.length = kinds.length) (hn2 : n2 ≤ 1000000)
    (hL : ∀ l ∈ conf, l.length ≤ 1000000)
    (hpv : ∀ W', Below w.heap.size w W' → Calls Try.prog 27 #[.agg #[.slice A2 n2 c2, .slice A3 n3 c3, .slice A4 n4 c4, .int .i64 sw, .int .i64 unk], .int .i64 n2] W' fun e w' => e = .returned (.bool true) ∧ Below W'.heap.size W' w')
    (colV : Nat → Int → S51) (hcf : ∀ i k, (colV i k).f0 = k)
    (hcol : ∀ i k, kinds[i]? = some k → badTok n2 k (confAt conf i) = false → ∀ W', Below w.heap.size w W' → ∀ A c, (confAt conf i).length ≤ c → Kd.C k53 W' A (confAt conf i).length (confAt conf i) →
      Calls Try.prog 29 #[.int .i64 k, .slice A (confAt conf i).length c, .agg #[.slice A2 n2 c2, .slice A3 n3 c3, .slice A4 n4 c4, .int .i64 sw, .int .i64 unk]] W' fun e w' =>
        ∃ v, e = .returned (.agg #[.int .i64 k, v, .int .i64 (colV i k).f2]) ∧ Kd.R (Kd.int .i64) 3 w' W'.heap.size (fun _ => True) v (colV i k).f1 ∧ Below W'.heap.size W' w')
    (bad : Bool) (hbad : bad = badFrom n2 conf kinds 0) :
    Calls Try.prog 15 #[.slice A0 kinds.length c0, .slice A1 conf.length c1, .agg #[.slice A2 n2 c2, .slice A3 n3 c3, .slice A4 n4 c4, .int .i64 sw, .int .i64 unk]] w fun e w' =>
      ((bad = true ∧ e = .returned (errV 1)) ∨ (bad = false ∧ 60 < kinds.length ∧ e = .returned (errV 11)) ∨
        (bad = false ∧ ¬ 60 < kinds.length ∧ ∃ v0, e = .returned (.tuple #[.agg #[v0, .slice A2 n2 c2, .int .i64 sw], .int .i64 0]) ∧ Kd.R k51 51 w' w.heap.size (fun _ => True) v0 (kinds.mapIdx colV))) ∧ Below w.heap.size w w' := by
  have hu34 := Try.underlying34
  have hu25 := Try.underlying25
  have hu53 := Try.underlying53
  obtain ⟨n0, hn0⟩ : ∃ n0, n0 = kinds.length := ⟨_, rfl⟩
  obtain ⟨n1, hn1⟩ : ∃ n1, n1 = conf.length := ⟨_, rfl⟩
  obtain ⟨wa, hwa⟩ : ∃ wa : World, wa = ((w.alloc (Obj.cells #[Value.slice A1 n1 c1] 29)).alloc (Obj.cells #[.slice A2 n2 c2, .slice A3 n3 c3, .slice A4 n4 c4, .int .i64 sw, .int .i64 unk] 34)).alloc (Obj.cells #[.slice none 0 0, .slice none 0 0, .int .i64 0] 25) := ⟨_, rfl⟩
  obtain ⟨b, hbb⟩ : ∃ b, b = w.heap.size := ⟨_, rfl⟩
  have hb : Below w.heap.size w wa := by rw [hwa]; exact below_alloc (below_alloc (below_alloc (Below.refl _ _) _) _) _
  have B4 : wa.heap[b]? = some (Obj.cells #[Value.slice A1 n1 c1] 29 (0, 0)) := by rw [hwa]; exact blk_Kp (S := fun _ => False) (blk_Kp (S := fun _ => False) (blk_new hbb) (Kp.of_below (below_alloc (Below.refl _ _) _)) (fun h => h)) (Kp.of_below (below_alloc (Below.refl _ _) _)) (fun h => h)
  have B5 : wa.heap[b + 1]? = some (Obj.cells #[.slice A2 n2 c2, .slice A3 n3 c3, .slice A4 n4 c4, .int .i64 sw, .int .i64 unk] 34 (0, 0)) := by rw [hwa]; exact blk_Kp (S := fun _ => False) (blk_new (by rw [hbb]; simp)) (Kp.of_below (below_alloc (Below.refl _ _) _)) (fun h => h)
  have B6 : wa.heap[b + 1 + 1]? = some (Obj.cells #[.slice none 0 0, .slice none 0 0, .int .i64 0] 25 (0, 0)) := by rw [hwa]; exact blk_new (by rw [hbb]; simp)
  have hI : OfI b (.slice A1 n1 c1) (.slice A2 n2 c2) (.slice A3 n3 c3) (.slice A4 n4 c4) sw unk wa wa :=
    ⟨Below.refl _ _, by rw [hwa, hbb]; simp, cell_of_block B4 0 _ rfl, cell_of_block B5 0 _ rfl, cell_of_block B5 1 _ rfl, cell_of_block B5 2 _ rfl, cell_of_block B5 3 _ rfl, cell_of_block B5 4 _ rfl, B6⟩
  have hcall := hpv wa hb
  have HB := Aside0.mk hb
  have HBB := Aside0.mk (show w.heap.size = b from hbb.symm)
  have HK := Aside0.mk hk
  have HC := Aside0.mk hC
  have HLN := Aside0.mk hlen
  have HL := Aside0.mk hL
  have HCOL := Aside0.mk hcol
  have HBAD := Aside0.mk hbad
  have HI := Aside0.mk hI
  have HN := Aside0.mk (And.intro hn0 hn1)
  have g1 : n1 ≠ 0 → n1 = n0 := by intro h; omega
  obtain ⟨p0, p1, p2, p3, p4⟩ : wa.cell? ⟨b + 1, 0, none⟩ = some (.slice A2 n2 c2) ∧ wa.cell? ⟨b + 1, 1, none⟩ = some (.slice A3 n3 c3) ∧ wa.cell? ⟨b + 1, 2, none⟩ = some (.slice A4 n4 c4) ∧ wa.cell? ⟨b + 1, 3, none⟩ = some (.int .i64 sw) ∧ wa.cell? ⟨b + 1, 4, none⟩ = some (.int .i64 unk) := ⟨hI.p0, hI.p1, hI.p2, hI.p3, hI.p4⟩
  rw [← hn0] at hkm ⊢
  rw [← hn1]
  clear hb B4 B5 B6 hI hpv hk hC hlen hL hcol hbad hn0 hn1
  have g2 : ((n1 : Int) != 0) = decide (n1 ≠ 0) := by by_cases h : n1 = 0 <;> simp [h]
  have g3 : n1 ≠ 0 → ((n1 : Int) != (n0 : Int)) = false := fun h => bne_eq_false_iff_eq.2 (by have := g1 h; omega)
  clear g1
  cases h0 : decide (n1 ≠ 0)
  all_goals
    rw [h0] at g2
    (try replace g3 := g3 (of_decide_eq_true h0))
    go_enter Try.func15, Try.ntmps15
    go_upto_region 1 with fail
    rw [← hwa, ← hbb]
    clear hwa hbb
    go_wp2_with fail
    (with_reducible refine hcall.mono ?_)
    rintro e w2 ⟨rfl, hb2⟩
    have HI2 := Aside0.mk (HI.out.step hb2)
    have q0 := HI2.out.c0
    clear hcall hb2 p0 p1 p2 p3 p4
    dsimp only
    go_wp2_with fail
    clear q0 g2 g3 h0
    go_loopg [40] n0 (fun gg s40 wr => ∃ kk : Nat, kk ≤ n0 ∧ n0 - kk ≤ gg ∧ s40 = .int .i64 kk ∧ Aside0 (bad = badFrom n2 conf (kinds.drop kk) kk) ∧ Aside0 (OfI b (.slice A1 n1 c1) (.slice A2 n2 c2) (.slice A3 n3 c3) (.slice A4 n4 c4) sw unk wa wr))
    case atStart => exact ⟨0, Nat.zero_le _, by omega, rfl, HBAD, HI2⟩
    case round =>
      obtain ⟨kk, hkk, hgg, rfl, HBx, HIx⟩ := hrel
      have hbad0 := HBAD
      clear HBAD HI2 HI
      by_cases hlt : kk < n0
      · have hltz : (kk : Int) < (n0 : Int) := by omega
        have hkl : kk < kinds.length := by rw [← HN.out.1]; exact hlt
        have hbw : Below w.heap.size w wr := HB.out.trans ((HIx.out.hb).mono (by rw [HBB.out]; omega))
        obtain ⟨ad, e, hx⟩ := Kd.at_int HK.out (kk : Int) (by omega) (by rw [← HN.out.1]; omega)
        subst e
        replace hx := (hbw.cell (World.block_lt_of_cell? w _ hx)).trans hx
        rw [getD_rd kinds kk hkl, Int.toNat_natCast] at hx
        have HS := Aside0.mk (show bad = (badTok n2 kinds[kk] (confAt conf kk) || badFrom n2 conf (kinds.drop (kk + 1)) (kk + 1)) by rw [HBx.out, List.drop_eq_getElem_cons hkl]; rfl)
        have hof := of28 b A1 c1 conf kk wr (by rw [← HN.out.2]; exact HIx.out.c0) (Kd.C_below HC.out hbw) (by intro h; have := HLN.out; omega)
        have HOF := Aside0.mk hof
        have HL2 := Aside0.mk (show (confAt conf kk).length ≤ 1000000 by
          unfold confAt
          split
          · simp
          · rename_i h
            have hh := HLN.out
            rw [List.getD_eq_getElem?_getD, List.getElem?_eq_getElem (by omega)]
            exact HL.out _ (List.getElem_mem _))
        clear HBx hof hbw
        generalize kinds[kk] = k at hx HS
        generalize confAt conf kk = L at HS HOF HL2
        have r0 := cell_of_block HIx.out.B6 0 _ rfl
        have r1 := cell_of_block HIx.out.B6 1 _ rfl
        have r2 := cell_of_block HIx.out.B6 2 _ rfl
        have f0 := blk_frozen HIx.out.B6 0
        have f1 := blk_frozen HIx.out.B6 1
        have f2 := blk_frozen HIx.out.B6 2
        have HS3 := Aside0.mk (set3 (B := b) (wa := wa) (by omega) (by have := HIx.out.lt; omega) HIx.out.B6 (.slice none 0 0) (.slice none 0 0) (.int .i64 0))
        have HBW := Aside0.mk (show Below w.heap.size w wr from HB.out.trans ((HIx.out.hb).mono (by rw [HBB.out]; omega)))
        by_cases k1 : k < -1
        · have t1 : decide (k < -1) = true := decide_eq_true k1
          have HQ := Aside0.mk (show bad = true by rw [HS.out]; simp [badTok, k1])
          go_wp2_with fail
          exact bodyPost_ret (results_ct rfl _ _ (b + 1 + 1) 25 _ (0, 0) _ rfl HS3.out.1 hu25 rfl (by kernel_rfl)) rfl ⟨.inl ⟨HQ.out, rfl⟩, HBW.out.trans (HBB.out ▸ HS3.out.2)⟩
        · by_cases k2 : k ≥ n2
          · have t1 : decide (k < -1) = false := decide_eq_false k1
            have t2 : decide ((n2 : Int) ≤ k) = true := decide_eq_true k2
            have HQ := Aside0.mk (show bad = true by rw [HS.out]; simp [badTok, k2])
            go_wp2_with fail
            exact bodyPost_ret (results_ct rfl _ _ (b + 1 + 1) 25 _ (0, 0) _ rfl HS3.out.1 hu25 rfl (by kernel_rfl)) rfl ⟨.inl ⟨HQ.out, rfl⟩, HBW.out.trans (HBB.out ▸ HS3.out.2)⟩
          · have t1 : decide (k < -1) = false := decide_eq_false k1
            have t2 : decide ((n2 : Int) ≤ k) = false := decide_eq_false k2
            have hcall := HOF.out
            have HS' := Aside0.mk (show bad = (L.any (badC n2 k) || badFrom n2 conf (kinds.drop (kk + 1)) (kk + 1)) by rw [HS.out]; simp [badTok, k1, k2])
            have HL3 := Aside0.mk HL2.out
            obtain ⟨m, hm⟩ : ∃ m, m = L.length := ⟨_, rfl⟩
            rw [← hm] at hcall
            have HM := Aside0.mk hm
            clear HOF r0 r1 r2 f0 f1 f2 HS3 HBW HS hm HL2
            go_wp2_with fail
            (with_reducible refine hcall.mono ?_)
            rintro e w4 ⟨A5, c5, rfl, hl5, hC5, hb4⟩
            have HI4 := Aside0.mk (HIx.out.step hb4)
            have HC5 := Aside0.mk (Kd.C_below hC5 hb4)
            have hm5 : m ≤ 1000000 := by rw [HM.out]; exact HL3.out
            clear hcall hb4 hC5 HIx hx
            dsimp only
            go_wp2_with fail
            go_loopg [57] m (fun gg s57 ws => ∃ jj : Nat, jj ≤ m ∧ m - jj ≤ gg ∧ s57 = .int .i64 jj ∧ Aside0 (bad = ((L.drop jj).any (badC n2 k) || badFrom n2 conf (kinds.drop (kk + 1)) (kk + 1))) ∧ Aside0 (OfI b (.slice A1 n1 c1) (.slice A2 n2 c2) (.slice A3 n3 c3) (.slice A4 n4 c4) sw unk wa ws) ∧ Aside0 (Kd.C k53 ws A5 m L))
            case atStart => exact ⟨0, Nat.zero_le _, by omega, rfl, by rw [List.drop_zero]; exact HS', HI4, HC5⟩
            case round =>
              obtain ⟨jj, hjj, hgj, rfl, HSy, HIy, HCy⟩ := hrel
              clear HS' HI4 HC5
              by_cases hjl : jj < m
              · have hjz : (jj : Int) < (m : Int) := by omega
                obtain ⟨ad5, e5, x0, x1⟩ := at_T53 HCy.out (jj : Int) (by omega) hjz
                subst e5
                have hjL : jj < L.length := by rw [← HM.out]; exact hjl
                rw [rdT53_at L jj hjL, Int.toNat_natCast] at x0 x1
                have HT := Aside0.mk (show bad = ((badC n2 k L[jj] || (L.drop (jj + 1)).any (badC n2 k)) || badFrom n2 conf (kinds.drop (kk + 1)) (kk + 1)) by rw [HSy.out, List.drop_eq_getElem_cons hjL, List.any_cons])
                clear HSy
                generalize L[jj] = x at x0 x1 HT
                go_upto_region 13 with fail
                obtain ⟨W5, hW5⟩ : ∃ W5 : World, W5 = wr.alloc (Obj.cells #[Value.int IntKind.i64 x.f0, Value.int IntKind.i64 x.f1] 53) := ⟨_, rfl⟩
                rw [← hW5]
                obtain ⟨b5, hb5⟩ : ∃ b5, b5 = wr.heap.size := ⟨_, rfl⟩
                rw [← hb5]
                have hBx : W5.heap[b5]? = some (Obj.cells #[Value.int IntKind.i64 x.f0, Value.int IntKind.i64 x.f1] 53 (0, 0)) := by rw [hW5]; exact blk_new hb5
                have hb5' : Below wr.heap.size wr W5 := by rw [hW5]; exact below_alloc (Below.refl _ _) _
                have HI5 := Aside0.mk (HIy.out.step hb5')
                have HC6 := Aside0.mk (Kd.C_below HCy.out hb5')
                have y0 : W5.cell? ⟨b5, 0, none⟩ = some (.int .i64 x.f0) := cell_of_block hBx 0 _ rfl
                have y1 : W5.cell? ⟨b5, 1, none⟩ = some (.int .i64 x.f1) := cell_of_block hBx 1 _ rfl
                clear hW5 hb5 hBx hb5' x0 x1 HIy HCy
                have r0 := cell_of_block HI5.out.B6 0 _ rfl
                have r1 := cell_of_block HI5.out.B6 1 _ rfl
                have r2 := cell_of_block HI5.out.B6 2 _ rfl
                have f0 := blk_frozen HI5.out.B6 0
                have f1 := blk_frozen HI5.out.B6 1
                have f2 := blk_frozen HI5.out.B6 2
                have HS3 := Aside0.mk (set3 (B := b) (wa := wa) (by omega) (by have := HI5.out.lt; omega) HI5.out.B6 (.slice none 0 0) (.slice none 0 0) (.int .i64 0))
                have HBW := Aside0.mk (show Below w.heap.size w W5 from HB.out.trans ((HI5.out.hb).mono (by rw [HBB.out]; omega)))
                by_cases m1 : x.f0 < 0
                · have t3 : decide (x.f0 < 0) = true := decide_eq_true m1
                  have HQ := Aside0.mk (show bad = true by rw [HT.out]; simp [badC, m1])
                  go_wp2_with fail
                  exact bodyPost_ret (results_ct rfl _ _ (b + 1 + 1) 25 _ (0, 0) _ rfl HS3.out.1 hu25 rfl (by kernel_rfl)) rfl ⟨.inl ⟨HQ.out, rfl⟩, HBW.out.trans (HBB.out ▸ HS3.out.2)⟩
                · by_cases m2 : x.f0 ≥ n2
                  · have t3 : decide (x.f0 < 0) = false := decide_eq_false m1
                    have t4 : decide ((n2 : Int) ≤ x.f0) = true := decide_eq_true m2
                    have HQ := Aside0.mk (show bad = true by rw [HT.out]; simp [badC, m2])
                    go_wp2_with fail
                    exact bodyPost_ret (results_ct rfl _ _ (b + 1 + 1) 25 _ (0, 0) _ rfl HS3.out.1 hu25 rfl (by kernel_rfl)) rfl ⟨.inl ⟨HQ.out, rfl⟩, HBW.out.trans (HBB.out ▸ HS3.out.2)⟩
                  · by_cases m3 : x.f0 = k
                    · have t3 : decide (x.f0 < 0) = false := decide_eq_false m1
                      have t4 : decide ((n2 : Int) ≤ x.f0) = false := decide_eq_false m2
                      have t5 : (x.f0 == k) = true := beq_iff_eq.2 m3
                      have HQ := Aside0.mk (show bad = true by rw [HT.out]; simp [badC, m3])
                      go_wp2_with fail
                      exact bodyPost_ret (results_ct rfl _ _ (b + 1 + 1) 25 _ (0, 0) _ rfl HS3.out.1 hu25 rfl (by kernel_rfl)) rfl ⟨.inl ⟨HQ.out, rfl⟩, HBW.out.trans (HBB.out ▸ HS3.out.2)⟩
                    · have t3 : decide (x.f0 < 0) = false := decide_eq_false m1
                      have t4 : decide ((n2 : Int) ≤ x.f0) = false := decide_eq_false m2
                      have t5 : (x.f0 == k) = false := beq_eq_false_iff_ne.2 m3
                      have hL := large_calls x.f1 W5
                      clear r0 r1 r2 f0 f1 f2 HS3 HBW
                      cases m4 : largeB x.f1
                      · rw [m4] at hL
                        have HQ := Aside0.mk (show bad = true by rw [HT.out]; simp [badC, m4])
                        go_wp2_with fail
                        (with_reducible refine hL.mono ?_)
                        rintro e w6 ⟨rfl, hd6⟩
                        have HI6 := Aside0.mk (HI5.out.step hd6.below)
                        clear hL hd6 y0 y1
                        dsimp only
                        have r0 := cell_of_block HI6.out.B6 0 _ rfl
                        have r1 := cell_of_block HI6.out.B6 1 _ rfl
                        have r2 := cell_of_block HI6.out.B6 2 _ rfl
                        have f0 := blk_frozen HI6.out.B6 0
                        have f1 := blk_frozen HI6.out.B6 1
                        have f2 := blk_frozen HI6.out.B6 2
                        have HS3 := Aside0.mk (set3 (B := b) (wa := wa) (by omega) (by have := HI6.out.lt; omega) HI6.out.B6 (.slice none 0 0) (.slice none 0 0) (.int .i64 0))
                        have HBW := Aside0.mk (show Below w.heap.size w w6 from HB.out.trans ((HI6.out.hb).mono (by rw [HBB.out]; omega)))
                        go_wp2_with fail
                        exact bodyPost_ret (results_ct rfl _ _ (b + 1 + 1) 25 _ (0, 0) _ rfl HS3.out.1 hu25 rfl (by kernel_rfl)) rfl ⟨.inl ⟨HQ.out, rfl⟩, HBW.out.trans (HBB.out ▸ HS3.out.2)⟩
                      · rw [m4] at hL
                        have HQ := Aside0.mk (show bad = ((L.drop (jj + 1)).any (badC n2 k) || badFrom n2 conf (kinds.drop (kk + 1)) (kk + 1)) by rw [HT.out]; simp [badC, m1, m2, m3, m4])
                        go_wp2_with fail
                        (with_reducible refine hL.mono ?_)
                        rintro e w6 ⟨rfl, hd6⟩
                        have HI6 := Aside0.mk (HI5.out.step hd6.below)
                        have HC7 := Aside0.mk (Kd.C_below HC6.out hd6.below)
                        clear hL hd6 y0 y1
                        dsimp only
                        go_wp2_with fail
                        go_roundg (m - (jj + 1))
                        case rel => exact ⟨jj + 1, by omega, by omega, by go_num, HQ, HI6, HC7⟩
                        case measure => omega
              · obtain rfl : jj = m := by omega
                have HQ := Aside0.mk (show bad = badFrom n2 conf (kinds.drop (kk + 1)) (kk + 1) by rw [HSy.out, List.drop_eq_nil_of_le (by rw [← HM.out]; omega)]; simp)
                have t3 : decide (jj < jj) = false := decide_eq_false (by omega)
                clear hjl HSy
                go_wp2_with fail
                go_roundg (n0 - (kk + 1))
                case rel => exact ⟨kk + 1, by omega, by omega, by go_num, HQ, HIy⟩
                case measure => omega
      · obtain rfl : kk = n0 := by omega
        have hbf : bad = false := by rw [HBx.out, List.drop_eq_nil_of_le (by rw [← HN.out.1]; omega)]; rfl
        have t3 : decide (kk < kk) = false := decide_eq_false (by omega)
        have HNB := Aside0.mk (fun j k h => badFrom_at (i := 0) (by rw [← hbad0.out, hbf]) j k h)
        clear hlt HBx
        have HBF := Aside0.mk hbf
        clear hbf
        by_cases k6 : 60 < kk
        · have t4 : decide ((60 : Int) < (kk : Int)) = true := decide_eq_true (by omega)
          have t5 : decide (60 < kk) = true := decide_eq_true k6
          have r0 := cell_of_block HIx.out.B6 0 _ rfl
          have r1 := cell_of_block HIx.out.B6 1 _ rfl
          have r2 := cell_of_block HIx.out.B6 2 _ rfl
          have f0 := blk_frozen HIx.out.B6 0
          have f1 := blk_frozen HIx.out.B6 1
          have f2 := blk_frozen HIx.out.B6 2
          have HS3 := Aside0.mk (set3 (B := b) (wa := wa) (by omega) (by have := HIx.out.lt; omega) HIx.out.B6 (.slice none 0 0) (.slice none 0 0) (.int .i64 0))
          have HBW := Aside0.mk (show Below w.heap.size w wr from HB.out.trans ((HIx.out.hb).mono (by rw [HBB.out]; omega)))
          go_wp2_with fail
          exact bodyPost_ret (results_ct rfl _ _ (b + 1 + 1) 25 _ (0, 0) _ rfl HS3.out.1 hu25 rfl (by kernel_rfl)) rfl ⟨.inr (.inl ⟨HBF.out, k6, rfl⟩), HBW.out.trans (HBB.out ▸ HS3.out.2)⟩
        · have t4 : decide ((60 : Int) < (kk : Int)) = false := decide_eq_false (by omega)
          have t5 : decide (60 < kk) = false := decide_eq_false k6
          have HRN := Aside0.mk (Kd.R_nil k51 51 wr (b + 3) (fun _ => True))
          go_wp2_with fail
          go_loopg [14, 91] kk (fun gg s14 s91 ws => ∃ jj : Nat, jj ≤ kk ∧ kk - jj ≤ gg ∧ s91 = .int .i64 jj ∧ Aside0 (OfI b (.slice A1 n1 c1) (.slice A2 n2 c2) (.slice A3 n3 c3) (.slice A4 n4 c4) sw unk wa ws) ∧ Aside0 (Kd.R k51 51 ws (b + 3) (fun _ => True) s14 ((kinds.mapIdx colV).take jj)))
          case atStart => exact ⟨0, Nat.zero_le _, by omega, rfl, HIx, by rw [List.take_zero]; exact HRN⟩
          case round =>
            obtain ⟨jj, hjj, hgj, rfl, HIy, HRy⟩ := hrel
            clear HIx HRN
            by_cases hjl : jj < kk
            · have hjz : (jj : Int) < (kk : Int) := by omega
              have hkl : jj < kinds.length := by rw [← HN.out.1]; exact hjl
              have hbw : Below w.heap.size w wr := HB.out.trans ((HIy.out.hb).mono (by rw [HBB.out]; omega))
              obtain ⟨ad, e, hx⟩ := Kd.at_int HK.out (jj : Int) (by omega) (by rw [← HN.out.1]; omega)
              subst e
              replace hx := (hbw.cell (World.block_lt_of_cell? w _ hx)).trans hx
              rw [getD_rd kinds jj hkl, Int.toNat_natCast] at hx
              obtain ⟨A5, c5, hl5, hC5, hof⟩ := of28W (c1 := c1) (i := jj) HC.out (by intro h; have := HLN.out; omega)
              have hnb := HNB.out jj kinds[jj] (List.getElem?_eq_getElem hkl)
              rw [Nat.zero_add] at hnb
              have hcc := HCOL.out jj kinds[jj] (List.getElem?_eq_getElem hkl) hnb
              have htk : (kinds.mapIdx colV).take (jj + 1) = (kinds.mapIdx colV).take jj ++ [colV jj kinds[jj]] := by
                rw [List.take_succ_eq_append_getElem (by simpa using hkl)]
                simp
              have hxl : ((kinds.mapIdx colV).take jj).length ≤ 60 := by simp; omega
              generalize (kinds.mapIdx colV).take jj = xs at HRy htk hxl
              generalize kinds[jj] = k at hx hcc htk hnb
              rw [← HN.out.2] at hof
              have hOF : ∀ W', OfT b (.slice A1 n1 c1) (.slice A2 n2 c2) (.slice A3 n3 c3) (.slice A4 n4 c4) sw unk wa wr W' → Calls Try.prog 28 #[.int .i64 jj, .pointer (some ⟨b, 0, none⟩)] W' fun e w' => e = .returned (.slice A5 (confAt conf jj).length c5) ∧ Below W'.heap.size W' w' :=
                fun W' h => hof b W' (HB.out.trans ((h.2.2.2.2.2.out.1.hb).mono (by rw [HBB.out]; omega))) h.2.2.2.2.2.out.1.c0
              have hCL : ∀ W', OfT b (.slice A1 n1 c1) (.slice A2 n2 c2) (.slice A3 n3 c3) (.slice A4 n4 c4) sw unk wa wr W' → Calls Try.prog 29 #[.int .i64 k, .slice A5 (confAt conf jj).length c5, .agg #[.slice A2 n2 c2, .slice A3 n3 c3, .slice A4 n4 c4, .int .i64 sw, .int .i64 unk]] W' fun e w' =>
                  ∃ v, e = .returned (.agg #[.int .i64 k, v, .int .i64 (colV jj k).f2]) ∧ k51.M w' (b + 3) (fun kb => some kb ≠ u14.ownBlock) (colV jj k) [.int .i64 k, v, .int .i64 (colV jj k).f2] ∧ Below W'.heap.size W' w' := by
                intro W' h
                have hb' : Below w.heap.size w W' := HB.out.trans ((h.2.2.2.2.2.out.1.hb).mono (by rw [HBB.out]; omega))
                refine (hcc W' hb' A5 c5 hl5 (Kd.C_below hC5 hb')).mono ?_
                rintro e w' ⟨v, he, hR, hb2⟩
                refine ⟨v, he, ?_, hb2⟩
                have hk0 : (colV jj k).f0 = k := hcf jj k
                have := k51_mkM w' (b + 3) (fun kb => some kb ≠ u14.ownBlock) (colV jj k) (v1 := v) (Kd.R_mono (Kd.R_lower (Kd.R_bound hR) (by have := h.2.2.2.2.2.out.1.lt; omega)) (fun kb hkb he' => by
                  have := R_own_lt HRy.out kb he'.symm
                  have := h.2.2.2.2.2.out.2
                  have := hkb.2.1
                  omega))
                rwa [hk0] at this
              have HOF := Aside0.mk hOF
              have HCL := Aside0.mk hCL
              have HTK := Aside0.mk htk
              have HXL := Aside0.mk hxl
              clear hof hcc htk hxl hnb hOF hCL hC5 hl5 hbw
              generalize (confAt conf jj).length = m5 at HOF HCL
              go_upto_region 23 with fail
              have HOS := Aside0.mk (show OfS b (.slice A1 n1 c1) (.slice A2 n2 c2) (.slice A3 n3 c3) (.slice A4 n4 c4) sw unk wa wr u14 xs wr from ⟨⟨HIy.out, Nat.le_refl _⟩, HRy.out⟩)
              have HS : OfT b (.slice A1 n1 c1) (.slice A2 n2 c2) (.slice A3 n3 c3) (.slice A4 n4 c4) sw unk wa wr wr := OfT.of HIy.out (Nat.le_refl _)
              unfold OfT at HS
              clear hx
              go_region_held3 (fun w' => w'.cell? ⟨b + 1, 0, none⟩ = some (.slice A2 n2 c2) ∧ w'.cell? ⟨b + 1, 1, none⟩ = some (.slice A3 n3 c3) ∧ w'.cell? ⟨b + 1, 2, none⟩ = some (.slice A4 n4 c4) ∧ w'.cell? ⟨b + 1, 3, none⟩ = some (.int .i64 sw) ∧ w'.cell? ⟨b + 1, 4, none⟩ = some (.int .i64 unk) ∧
    Aside0 (OfI b (.slice A1 n1 c1) (.slice A2 n2 c2) (.slice A3 n3 c3) (.slice A4 n4 c4) sw unk wa w' ∧ wr.heap.size ≤ w'.heap.size))
                (first | exact OfT.step (by assumption) (below_drew1 (Below.refl _ _)) | exact OfT.step (by assumption) (by assumption) | exact OfT.step (by assumption) (below_alloc (Below.refl _ _) _) | assumption)
                ((first | (go_at_call 28; refine (HOF.out _ ?c1).mono ?_; (case c1 => assumption); rintro e w' ⟨rfl, hb⟩) | (go_at_call 29; refine (HCL.out _ ?c2).mono ?_; (case c2 => assumption); rintro e w' ⟨v, rfl, hM, hb⟩) | (refine append_col (b := b) (vc := .slice A1 n1 c1) (v2 := .slice A2 n2 c2) (v3 := .slice A3 n3 c3) (v4 := .slice A4 n4 c4) (sw := sw) (unk := unk) (v14 := u14) (xs := xs) (wa := wa) (wr := wr) (by rfl) (.tmp 96) (.tmp 103) rfl (colV jj k) [.int .i64 k, v, .int .i64 (colV jj k).f2] (by rfl) (by rfl) ?hp ?hS HXL.out ?_; (case hp => first | exact hM | exact Kd.M_below hM (below_drew1 (Below.refl _ _))); (case hS => repeat (first | exact HOS.out | refine OfS.step ?_ (below_drew1 (Below.refl _ _)) | refine OfS.step ?_ (by assumption))); intro v1 w1 hR1 hT1)))
              have HR1 := Aside0.mk (show Kd.R k51 51 w1 (b + 3) (fun _ => True) v1 ((kinds.mapIdx colV).take (jj + 1)) by rw [HTK.out]; exact hR1)
              have HT1 := Aside0.mk hT1.2.2.2.2.2.out.1
              clear hR1 hT1 HTK
              go_wp2_with fail
              go_roundg (kk - (jj + 1))
              case rel => exact ⟨jj + 1, by omega, by omega, by go_num, HT1, HR1⟩
              case measure => omega
            · obtain rfl : jj = kk := by omega
              have t6 : decide (jj < jj) = false := decide_eq_false (by omega)
              clear hjl
              have htk : (kinds.mapIdx colV).take jj = kinds.mapIdx colV := List.take_of_length_le (by rw [HN.out.1]; simp)
              rw [htk] at HRy
              obtain ⟨A6, c6, e6, hl6, hC6⟩ := Kd.R_reads HRy.out
              subst e6
              obtain ⟨n6, hn6⟩ : ∃ n6, n6 = (kinds.mapIdx colV).length := ⟨_, rfl⟩
              rw [← hn6]
              have p0 := HIy.out.p0
              have p3 := HIy.out.p3
              have r0 := cell_of_block HIy.out.B6 0 _ rfl
              have r1 := cell_of_block HIy.out.B6 1 _ rfl
              have r2 := cell_of_block HIy.out.B6 2 _ rfl
              have f0 := blk_frozen HIy.out.B6 0
              have f1 := blk_frozen HIy.out.B6 1
              have f2 := blk_frozen HIy.out.B6 2
              have HS3 := Aside0.mk (set3 (B := b) (wa := wa) (by omega) (by have := HIy.out.lt; omega) HIy.out.B6 (.slice none 0 0) (.slice none 0 0) (.int .i64 0))
              have HBW := Aside0.mk (show Below w.heap.size w wr from HB.out.trans ((HIy.out.hb).mono (by rw [HBB.out]; omega)))
              have HS4 := Aside0.mk (set3 (B := b) (wa := wa) (by omega) (by have := HIy.out.lt; omega) HIy.out.B6 (.slice A6 n6 c6) (.slice A2 n2 c2) (.int .i64 sw))
              have HRF := Aside0.mk (Kd.R_far (Kd.R_far (Kd.R_far (Kd.R_bound HRy.out) (p := ⟨b + 1 + 1, 0, none⟩) (fun k hk => by have := hk.2.1; show k ≠ b + 1 + 1; omega) (.slice A6 n6 c6)) (p := ⟨b + 1 + 1, 1, none⟩) (fun k hk => by have := hk.2.1; show k ≠ b + 1 + 1; omega) (.slice A2 n2 c2)) (p := ⟨b + 1 + 1, 2, none⟩) (fun k hk => by have := hk.2.1; show k ≠ b + 1 + 1; omega) (.int .i64 sw))
              have HN6 := Aside0.mk hn6
              clear hn6 htk hl6 hC6 HS3
              go_wp2_with fail
              exact bodyPost_ret (results_ct rfl _ _ (b + 1 + 1) 25 _ (0, 0) _ rfl HS4.out.1 hu25 rfl (by kernel_rfl)) rfl ⟨.inr (.inr ⟨HBF.out, k6, _, rfl, by rw [HN6.out]; exact Kd.R_mono (Kd.R_lower (HN6.out ▸ HRF.out) (by have := HBB.out; omega)) (fun _ _ => trivial)⟩), HBW.out.trans (HBB.out ▸ HS4.out.2)⟩
end Go.Proofs.Ytcigcacjjdpgfaa.Hand
/- columns.Of: its contract, by the plain answer ofT. -/
namespace Go.Proofs.Ytcigcacjjdpgfaa.Hand
open Go.RowKit Go.Proofs.YtcigcacjjdpgfaaW.PrintWords Go.Proofs.YtcigcacjjdpgfaaW.PrintLast Go.Proofs.YtcigcacjjdpgfaaW.PrintMore Go.Proofs.Ytcigcacjjdpgfaa.PA
set_option linter.unusedVariables false
set_option linter.unusedSimpArgs false

/-- What Of answers: columns, prices of inserting, the price of a swap, the error's number. -/
def ofT (kinds : List Int) (conf : List (List S53)) (ins del : List Int) (rep : List (List Int)) (sw unk : Int) : List S51 × List Int × Int × Int :=
  if pricesB ins del rep sw unk = true ∧ (conf.length = 0 ∨ conf.length = kinds.length) then
    if badFrom ins.length conf kinds 0 = true then ([], [], 0, 1) else if 60 < kinds.length then ([], [], 0, 11) else (kinds.mapIdx fun i k => colT k (confAt conf i) ins del rep unk, ins, sw, 0)
  else ([], [], 0, 1)
theorem confOK_of {n : Nat} {k : Int} {l : List S53} (h : badTok n k l = false) : ¬ k < -1 ∧ k < n ∧ ConfOK n l := by
  simp only [badTok, Bool.or_eq_false_iff, decide_eq_false_iff_not, List.any_eq_false] at h
  obtain ⟨⟨h1, h2⟩, h3⟩ := h
  refine ⟨h1, by omega, fun x hx => ?_⟩
  have := h3 x hx
  simp only [badC, Bool.or_eq_true, decide_eq_true_eq, not_or, largeB, Bool.not_eq_true', Bool.not_eq_false, Bool.and_eq_true] at this
  omega
/-- Of, where it tells no error: the columns lie in new memory. -/
theorem of_calls_ok (A0 : Option Addr) (c0 : Nat) (kinds : List Int) (A1 : Option Addr) (c1 : Nat) (conf : List (List S53)) (A2 A3 A4 : Option Addr) (c2 c3 c4 : Nat) (ins del : List Int) (rep : List (List Int)) (sw unk : Int) (w : World)
    (hk : Kd.C (Kd.int .i64) w A0 kinds.length kinds) (hkm : kinds.length ≤ 1000000) (hC : Kd.C (Kd.slice 53 k53) w A1 conf.length conf) (hL : ∀ l ∈ conf, l.length ≤ 1000000)
    (hi : Kd.C (Kd.int .i64) w A2 ins.length ins) (hic : ins.length ≤ c2) (hd : Kd.C (Kd.int .i64) w A3 del.length del) (hdc : del.length ≤ c3) (hr : Kd.C (Kd.slice 3 (Kd.int .i64)) w A4 rep.length rep) (hrc : rep.length ≤ c4) (hn : ins.length ≤ 60) (h0 : (ofT kinds conf ins del rep sw unk).2.2.2 = 0) :
    Calls Try.prog 15 #[.slice A0 kinds.length c0, .slice A1 conf.length c1, .agg #[.slice A2 ins.length c2, .slice A3 del.length c3, .slice A4 rep.length c4, .int .i64 sw, .int .i64 unk]] w fun e w' =>
      ∃ v0, e = .returned (.tuple #[.agg #[v0, .slice A2 ins.length c2, .int .i64 sw], .int .i64 0]) ∧ Kd.R k51 51 w' w.heap.size (fun _ => True) v0 (ofT kinds conf ins del rep sw unk).1 ∧ Below w.heap.size w w' := by
  obtain ⟨k1, hk1⟩ := pv_ex ins del rep sw unk (by omega)
  have hpv : ∀ W', Below w.heap.size w W' → Calls Try.prog 27 #[.agg #[.slice A2 ins.length c2, .slice A3 del.length c3, .slice A4 rep.length c4, .int .i64 sw, .int .i64 unk], .int .i64 ins.length] W' fun e w' => e = .returned (.bool (pricesB ins del rep sw unk)) ∧ Below W'.heap.size W' w' :=
    fun W' hb => (prices_Valid.calls k1 A2 c2 ins A3 c3 del A4 c4 rep sw unk ins.length (pricesB ins del rep sw unk) W' (Kd.C_below hi hb) hic (Kd.C_below hd hb) hdc (Kd.C_below hr hb) hrc hk1).mono fun e w' h => h
  by_cases hp : pricesB ins del rep sw unk = true
  · rw [hp] at hpv
    by_cases hlen : conf.length = 0 ∨ conf.length = kinds.length
    · have hP := prOK_of hp
      have hof : ofT kinds conf ins del rep sw unk = if badFrom ins.length conf kinds 0 = true then ([], [], 0, 1) else if 60 < kinds.length then ([], [], 0, 11) else (kinds.mapIdx fun i k => colT k (confAt conf i) ins del rep unk, ins, sw, 0) := by
        unfold ofT
        rw [if_pos ⟨hp, hlen⟩]
      rw [hof] at h0 ⊢
      refine (of_main A0 c0 kinds A1 c1 conf A2 A3 A4 c2 c3 c4 ins.length del.length rep.length sw unk w hk hkm hC hlen (by omega) hL hpv (fun i k => colT k (confAt conf i) ins del rep unk) (fun i k => rfl) ?_ _ rfl).mono ?_
      · intro i k hik hb W' hbw A c hlc hCc
        obtain ⟨h1, h2, h3⟩ := confOK_of hb
        have hll : (confAt conf i).length ≤ 1000000 := by
          unfold confAt
          split
          · simp
          · rw [List.getD_eq_getElem?_getD]
            cases hq : conf[i]? with
            | none => simp
            | some l => exact hL l (List.mem_of_getElem? hq)
        obtain ⟨k2, hk2⟩ := cc_ex k (confAt conf i) ins del rep sw unk hll hn hP.rl hP.dl h2 (fun h0 => (hP.at_ k.toNat (by omega)).2.2) h3
        exact columns_column.calls k2 k A c (confAt conf i) A2 c2 ins A3 c3 del A4 c4 rep sw unk k _ _ W' hCc hlc (Kd.C_below hi hbw) hic (Kd.C_below hd hbw) hdc (Kd.C_below hr hbw) hrc hk2
      · rintro e w' ⟨h, hb⟩
        rcases h with ⟨h1, rfl⟩ | ⟨h1, h2, rfl⟩ | ⟨h1, h2, v0, rfl, h3⟩
        · rw [if_pos h1] at h0
          simp at h0
        · rw [if_neg (by rw [h1]; simp), if_pos h2] at h0
          simp at h0
        · rw [if_neg (by rw [h1]; simp), if_neg h2]
          exact ⟨_, rfl, h3, hb⟩
    · exfalso
      unfold ofT at h0
      rw [if_neg (fun h => hlen h.2)] at h0
      simp at h0
  · exfalso
    unfold ofT at h0
    rw [if_neg (fun h => hp h.1)] at h0
    simp at h0
theorem of_calls (A0 : Option Addr) (c0 : Nat) (kinds : List Int) (A1 : Option Addr) (c1 : Nat) (conf : List (List S53)) (A2 A3 A4 : Option Addr) (c2 c3 c4 : Nat) (ins del : List Int) (rep : List (List Int)) (sw unk : Int) (w : World)
    (hk : Kd.C (Kd.int .i64) w A0 kinds.length kinds) (hkm : kinds.length ≤ 1000000) (hC : Kd.C (Kd.slice 53 k53) w A1 conf.length conf) (hL : ∀ l ∈ conf, l.length ≤ 1000000)
    (hi : Kd.C (Kd.int .i64) w A2 ins.length ins) (hic : ins.length ≤ c2) (hd : Kd.C (Kd.int .i64) w A3 del.length del) (hdc : del.length ≤ c3) (hr : Kd.C (Kd.slice 3 (Kd.int .i64)) w A4 rep.length rep) (hrc : rep.length ≤ c4) (hn : ins.length ≤ 60) :
    Calls Try.prog 15 #[.slice A0 kinds.length c0, .slice A1 conf.length c1, .agg #[.slice A2 ins.length c2, .slice A3 del.length c3, .slice A4 rep.length c4, .int .i64 sw, .int .i64 unk]] w fun e w' =>
      ∃ v0 v1, e = .returned (.tuple #[.agg #[v0, v1, .int .i64 (ofT kinds conf ins del rep sw unk).2.2.1], .int .i64 (ofT kinds conf ins del rep sw unk).2.2.2]) ∧ Rd k51 w' v0 (ofT kinds conf ins del rep sw unk).1 ∧ Rd (Kd.int .i64) w' v1 (ofT kinds conf ins del rep sw unk).2.1 ∧ Below w.heap.size w w' := by
  obtain ⟨k1, hk1⟩ := pv_ex ins del rep sw unk (by omega)
  have hpv : ∀ W', Below w.heap.size w W' → Calls Try.prog 27 #[.agg #[.slice A2 ins.length c2, .slice A3 del.length c3, .slice A4 rep.length c4, .int .i64 sw, .int .i64 unk], .int .i64 ins.length] W' fun e w' => e = .returned (.bool (pricesB ins del rep sw unk)) ∧ Below W'.heap.size W' w' :=
    fun W' hb => (prices_Valid.calls k1 A2 c2 ins A3 c3 del A4 c4 rep sw unk ins.length (pricesB ins del rep sw unk) W' (Kd.C_below hi hb) hic (Kd.C_below hd hb) hdc (Kd.C_below hr hb) hrc hk1).mono fun e w' h => h
  by_cases hp : pricesB ins del rep sw unk = true
  · rw [hp] at hpv
    by_cases hlen : conf.length = 0 ∨ conf.length = kinds.length
    · have hP := prOK_of hp
      have hof : ofT kinds conf ins del rep sw unk = if badFrom ins.length conf kinds 0 = true then ([], [], 0, 1) else if 60 < kinds.length then ([], [], 0, 11) else (kinds.mapIdx fun i k => colT k (confAt conf i) ins del rep unk, ins, sw, 0) := by
        unfold ofT
        rw [if_pos ⟨hp, hlen⟩]
      rw [hof]
      refine (of_main A0 c0 kinds A1 c1 conf A2 A3 A4 c2 c3 c4 ins.length del.length rep.length sw unk w hk hkm hC hlen (by omega) hL hpv (fun i k => colT k (confAt conf i) ins del rep unk) (fun i k => rfl) ?_ _ rfl).mono ?_
      · intro i k hik hb W' hbw A c hlc hCc
        obtain ⟨h1, h2, h3⟩ := confOK_of hb
        have hll : (confAt conf i).length ≤ 1000000 := by
          unfold confAt
          split
          · simp
          · rw [List.getD_eq_getElem?_getD]
            cases hq : conf[i]? with
            | none => simp
            | some l => exact hL l (List.mem_of_getElem? hq)
        obtain ⟨k2, hk2⟩ := cc_ex k (confAt conf i) ins del rep sw unk hll hn hP.rl hP.dl h2 (fun h0 => (hP.at_ k.toNat (by omega)).2.2) h3
        exact columns_column.calls k2 k A c (confAt conf i) A2 c2 ins A3 c3 del A4 c4 rep sw unk k _ _ W' hCc hlc (Kd.C_below hi hbw) hic (Kd.C_below hd hbw) hdc (Kd.C_below hr hbw) hrc hk2
      · rintro e w' ⟨h, hb⟩
        rcases h with ⟨h1, rfl⟩ | ⟨h1, h2, rfl⟩ | ⟨h1, h2, v0, rfl, h3⟩
        · rw [if_pos h1]
          exact ⟨_, _, rfl, Rd.nil _ _, Rd.nil _ _, hb⟩
        · rw [if_neg (by rw [h1]; simp), if_pos h2]
          exact ⟨_, _, rfl, Rd.nil _ _, Rd.nil _ _, hb⟩
        · rw [if_neg (by rw [h1]; simp), if_neg h2]
          exact ⟨_, _, rfl, Kd.R_reads h3, ⟨A2, c2, rfl, hic, Kd.C_below hi hb⟩, hb⟩
    · have hof : ofT kinds conf ins del rep sw unk = ([], [], 0, 1) := by
        unfold ofT
        rw [if_neg (fun h => hlen h.2)]
      rw [hof]
      exact (of_err2 A0 c0 kinds.length A1 c1 conf.length A2 A3 A4 c2 c3 c4 ins.length del.length rep.length sw unk w (by omega) (by omega) hpv).mono fun e w' ⟨he, hb⟩ => ⟨_, _, he, Rd.nil _ _, Rd.nil _ _, hb⟩
  · have hof : ofT kinds conf ins del rep sw unk = ([], [], 0, 1) := by
      unfold ofT
      rw [if_neg (fun h => hp h.1)]
    rw [hof]
    rw [Bool.eq_false_iff.2 hp] at hpv
    exact (of_err1 A0 c0 kinds.length A1 c1 conf.length A2 A3 A4 c2 c3 c4 ins.length del.length rep.length sw unk w hpv).mono fun e w' ⟨he, hb⟩ => ⟨_, _, he, Rd.nil _ _, Rd.nil _ _, hb⟩
end Go.Proofs.Ytcigcacjjdpgfaa.Hand
/- slices.Grow and slices.Concat of columns, by hand. -/
namespace Go.Proofs.Ytcigcacjjdpgfaa.Hand
open Go.RowKit Go.Proofs.YtcigcacjjdpgfaaW.PrintWords Go.Proofs.YtcigcacjjdpgfaaW.PrintLast Go.Proofs.YtcigcacjjdpgfaaW.PrintMore Go.Proofs.Ytcigcacjjdpgfaa.PA
set_option linter.unusedVariables false
set_option linter.unusedSimpArgs false

set_option maxHeartbeats 2000000 in
theorem grow0 (w : World) : Calls Try.prog 43 #[.slice none 0 0, .int .i64 0] w fun e w' => e = .returned (.slice none 0 0) ∧ Below w.heap.size w w' := by
  have HB := Aside0.mk (Below.refl w.heap.size w)
  go_enter Try.func43, Try.ntmps43
  go_wp2_with fail
  go_ret
  exact ⟨rfl, HB.out⟩
set_option maxHeartbeats 2000000 in
set_option maxRecDepth 100000 in
set_option maxRecDepth 100000 in
theorem grow1 (W0 : World) (n : Nat) (hn : n ≤ 1000) (hp : 0 < n) (w : World) : Calls Try.prog 43 #[.slice none 0 0, .int .i64 n] w fun e w' => ∃ v, e = .returned v ∧ Kd.R (Kd.fixed k51 W0) 51 w' w.heap.size (fun _ => True) v [] ∧ Below w.heap.size w w' := by
  have z1 : 0 ≤ (n : Int) := by omega
  have z2 : (n : Int) ≤ 1000 := by omega
  have t1 : decide ((n : Int) < 0) = false := decide_eq_false (by omega)
  have t2 : decide (0 < (n : Int)) = true := decide_eq_true (by omega)
  have t2b : decide (0 < n) = true := decide_eq_true hp
  have HN := Aside0.mk (Kd.R_nil (Kd.fixed k51 W0) 51 w w.heap.size (fun _ => True))
  have HP := Aside0.mk hp
  have HZ := Aside0.mk (show (Kd.fixed k51 W0).M w w.heap.size (fun _ => False) z51 (Value.agg #[.int .i64 0, .slice none 0 0, .int .i64 0]).cells.toList from by
    have := k51_mk W0 z51 (A1 := none) (c1 := 0) (Nat.le_refl _) (Kd.C_nil _ _)
    exact this)
  go_enter Try.func43, Try.ntmps43
  go_upto_region 5 with fail
  go_step
  refine Kd.event_run rfl (v := .slice none 0 0) (w1 := w) (by go_simp) ?_
  refine Kd.event_run rfl (v := .slice none 0 0) (w1 := w) (by go_simp) ?_
  refine Kd.event_run rfl (v := .int .i64 0) (w1 := w) (by go_simp) ?_
  refine Kd.event_run rfl (v := .slice none 0 0) (w1 := w) (by go_simp) ?_
  refine Kd.event_run rfl (v := .int .i64 n) (w1 := w) (by go_simp) ?_
  refine Kd.R_append_zeros (Kd.fixed k51 W0) (w0 := w) w.heap.size rfl (.tmp 20) (.tmp 21) 22 3 51 (.agg #[.int .i64 0, .slice none 0 0, .int .i64 0]) 40 rfl Try.underlying22 (k := .i64) Try.underlying3 info51 rfl (show 0 < k51.sz by decide) (by omega) (.slice none 0 0) [] z51 (kx := .i64) (n : Int) (fun _ => True) rfl rfl HZ.out (fun _ _ => trivial) HN.out z1 (Below.refl _ _) (Nat.le_refl _) (by simp; omega) ?_
  intro v1 w1 hR1 hB1 hg1 hat1
  have hlen : ([] ++ List.replicate (n : Int).toNat z51).length = n := by simp
  obtain ⟨g, cap, ev, hg0, hg2, _⟩ := Kd.R_form hR1 (by rw [hlen]; exact HP.out)
  rw [hlen] at ev
  subst ev
  have q2 := (Kd.R_reads' hR1).2.1
  have HR1 := Aside0.mk (Kd.R_take hR1 (m := 0) (Nat.zero_le _))
  have HB1 := Aside0.mk hB1
  clear hR1 hB1 hg1 hat1 hg0 hg2 hlen HN HZ z1 z2 t1 t2 t2b HP hn hp
  go_wp2_with fail
  go_ret
  exact ⟨_, rfl, HR1.out, HB1.out⟩
/-- Grow of nil. -/
theorem grow_calls (W0 : World) (n : Nat) (hn : n ≤ 1000) (w : World) : Calls Try.prog 43 #[.slice none 0 0, .int .i64 n] w fun e w' => ∃ v, e = .returned v ∧ Kd.R (Kd.fixed k51 W0) 51 w' w.heap.size (fun _ => True) v [] ∧ Below w.heap.size w w' := by
  by_cases hp : 0 < n
  · exact grow1 W0 n hn hp w
  · obtain rfl : n = 0 := by omega
    exact (grow0 w).mono fun e w' ⟨he, hb⟩ => ⟨_, he, Kd.R_nil _ _ _ _ _, hb⟩
end Go.Proofs.Ytcigcacjjdpgfaa.Hand
/- slices.Concat of columns, by hand. -/
namespace Go.Proofs.Ytcigcacjjdpgfaa.Hand
open Go.RowKit Go.Proofs.YtcigcacjjdpgfaaW.PrintWords Go.Proofs.YtcigcacjjdpgfaaW.PrintLast Go.Proofs.YtcigcacjjdpgfaaW.PrintMore Go.Proofs.Ytcigcacjjdpgfaa.PA
set_option linter.unusedVariables false
set_option linter.unusedSimpArgs false

theorem flat_step (L : List (List S51)) (j : Nat) (h : j < L.length) : (L.take (j + 1)).flatten = (L.take j).flatten ++ L[j] := by
  rw [List.take_succ_eq_append_getElem h, List.flatten_append, List.flatten_cons, List.flatten_nil, List.append_nil]
theorem flat_le (L : List (List S51)) (j : Nat) : (L.take j).flatten.length ≤ L.flatten.length := by
  conv => rhs; rw [← List.take_append_drop j L]
  rw [List.flatten_append, List.length_append]
  omega
theorem at_L4f {W0 w : World} {A : Option Addr} {n : Nat} {xs : List (List S51)} (h : Kd.C (Kd.slice 51 (Kd.fixed k51 W0)) w A n xs) (i : Int) (h0 : 0 ≤ i) (h1 : i < n) : ∃ ad A0 c0, A = some ad ∧ w.cell? (ad.add i.toNat) = some (.slice A0 (rd_L4 xs i).length c0) ∧ (rd_L4 xs i).length ≤ c0 ∧ (Kd.fixed k51 W0).C w A0 (rd_L4 xs i).length (rd_L4 xs i) := by
  obtain ⟨ad, c, e, _, hK, hc0⟩ := Kd.C_get h ([] : List S51) i h0 h1
  have hc : ∀ j u, c[j]? = some u → w.cell? (ad.add (i.toNat * 1 + j)) = some u := hc0
  obtain ⟨A0, c0, rfl, l0, g0⟩ := hK
  exact ⟨ad, A0, c0, e, by have hq := hc 0 _ rfl; rwa [Nat.mul_one, Nat.add_zero] at hq, l0, g0⟩
set_option maxHeartbeats 4000000 in
set_option maxRecDepth 100000 in
theorem concat_calls (W0 : World) (A : Option Addr) (c : Nat) (L : List (List S51)) (w : World) (hC : Kd.C (Kd.slice 51 (Kd.fixed k51 W0)) w A L.length L) (hm : L.flatten.length ≤ 1000) :
    Calls Try.prog 33 #[.slice A L.length c] w fun e w' => ∃ v, e = .returned v ∧ Kd.R (Kd.fixed k51 W0) 51 w' w.heap.size (fun _ => True) v L.flatten ∧ Below w.heap.size w w' := by
  obtain ⟨n, hn⟩ : ∃ n, n = L.length := ⟨_, rfl⟩
  have HC := Aside0.mk hC
  have HM := Aside0.mk hm
  have HN := Aside0.mk hn
  have hnm : n ≤ 9223372036854775807 := by rw [hn]; exact hC.2.1
  have HB := Aside0.mk (Below.refl w.heap.size w)
  rw [← hn]
  clear hC hm hn
  go_enter Try.func33, Try.ntmps33
  go_wp2_with fail
  go_loopg [3, 11] n (fun gg s3 s11 wr => ∃ jj : Nat, jj ≤ n ∧ n - jj ≤ gg ∧ s11 = .int .i64 jj ∧ s3 = .int .i64 ((L.take jj).flatten.length : Nat) ∧ Aside0 (Below w.heap.size w wr))
  case atStart => exact ⟨0, Nat.zero_le _, by omega, rfl, rfl, HB⟩
  case round =>
    obtain ⟨jj, hjj, hgj, rfl, rfl, HBx⟩ := hrel
    clear HB
    by_cases hlt : jj < n
    · have hz : (jj : Int) < (n : Int) := by omega
      have hjl : jj < L.length := by rw [← HN.out]; exact hlt
      obtain ⟨ad, A5, c5, e5, hx, hl, hcc⟩ := at_L4f HC.out (jj : Int) (by omega) (by rw [← HN.out]; exact hz)
      subst e5
      replace hx := (HBx.out.cell (World.block_lt_of_cell? w _ hx)).trans hx
      rw [Int.toNat_natCast] at hx
      have e2 : rd_L4 L (jj : Int) = L[jj] := by simp [rd_L4, hjl]
      rw [e2] at hx
      have hle : (L.take (jj + 1)).flatten.length ≤ 1000 := Nat.le_trans (flat_le L _) HM.out
      have HF := Aside0.mk (flat_step L jj hjl)
      rw [HF.out, List.length_append] at hle
      have HLE := Aside0.mk hle
      have HLL := Aside0.mk (show (L.take (jj + 1)).flatten.length = (L.take jj).flatten.length + L[jj].length by rw [HF.out, List.length_append])
      clear hl hcc e2 HF
      generalize L[jj].length = m5 at hx hle HLE HLL
      generalize (L.take jj).flatten.length = s0 at hle HLE HLL ⊢
      have t1 : decide ((s0 : Int) + (m5 : Int) < 0) = false := decide_eq_false (by omega)
      have z5 : (m5 : Int) ≤ 1000 := by omega
      have z6 : (s0 : Int) ≤ 1000 := by omega
      go_wp2_with fail
      go_roundg (n - (jj + 1))
      case rel => exact ⟨jj + 1, by omega, by omega, by go_num, by rw [HLL.out]; go_num, HBx⟩
      case measure => omega
    · obtain rfl : jj = n := by omega
      have t1 : decide (jj < jj) = false := decide_eq_false (by omega)
      have htk : L.take jj = L := List.take_of_length_le (by rw [HN.out]; exact Nat.le_refl _)
      rw [htk]
      obtain ⟨s0, hs0⟩ : ∃ s0, s0 = L.flatten.length := ⟨_, rfl⟩
      rw [← hs0]
      have hcall := grow_calls W0 s0 (by rw [hs0]; exact HM.out) wr
      clear hlt htk hs0
      go_wp2_with fail
      (with_reducible refine hcall.mono ?_)
      rintro e w2 ⟨v, rfl, hR, hb2⟩
      have HR2 := Aside0.mk (Kd.R_lower hR HBx.out.size)
      have HB2 := Aside0.mk (below_step HBx.out hb2)
      clear hcall hR hb2 HBx
      dsimp only
      go_wp2_with fail
      go_loopg [6, 27] jj (fun gg s6 s27 ws => ∃ kk : Nat, kk ≤ jj ∧ jj - kk ≤ gg ∧ s27 = .int .i64 kk ∧ Aside0 (Kd.R (Kd.fixed k51 W0) 51 ws w.heap.size (fun _ => True) s6 ((L.take kk).flatten)) ∧ Aside0 (Below w.heap.size w ws))
      case atStart => exact ⟨0, Nat.zero_le _, by omega, rfl, HR2, HB2⟩
      case round =>
        obtain ⟨kk, hkk, hgk, rfl, HRx, HBx⟩ := hrel
        clear HR2 HB2
        by_cases hlt : kk < jj
        · have hz : (kk : Int) < (jj : Int) := by omega
          have hjl : kk < L.length := by rw [← HN.out]; exact hlt
          obtain ⟨ad, A5, c5, e5, hx, hl, hcc⟩ := at_L4f HC.out (kk : Int) (by omega) (by rw [← HN.out]; exact hz)
          subst e5
          replace hx := (HBx.out.cell (World.block_lt_of_cell? w _ hx)).trans hx
          rw [Int.toNat_natCast] at hx
          have e2 : rd_L4 L (kk : Int) = L[kk] := by simp [rd_L4, hjl]
          rw [e2] at hx hcc
          have hle : (L.take (kk + 1)).flatten.length ≤ 1000 := Nat.le_trans (flat_le L _) HM.out
          have HF := Aside0.mk (flat_step L kk hjl)
          rw [HF.out, List.length_append] at hle
          have HLE := Aside0.mk hle
          have HCC := Aside0.mk (show ReadsRow (k51.K W0) k51.sz wr A5 L[kk].length L[kk] from Kd.C_below hcc HBx.out)
          clear hl hcc e2 hle
          generalize L[kk] = x5 at hx HF HLE HCC
          generalize (L.take kk).flatten = xs0 at HRx HF HLE
          go_wp2_with ((with_reducible refine gate_builtin (b := .append) (xs := #[.tmp 31, .tmp 32]) rfl ?_); at_builtin; refine Kd.R_append_rows (Kd.fixed k51 W0) (w0 := w) w.heap.size rfl (.tmp 31) (.tmp 32) 22 51 (.agg #[.int .i64 0, .slice none 0 0, .int .i64 0]) 40 rfl Try.underlying22 info51 rfl (show 0 < k51.sz by decide) (by omega) u6 xs0 x5 A5 x5.length c5 (fun _ => True) (fun _ => False) ?hs ?hx HRx.out HCC.out (fun _ _ h => h) (fun _ h => h.elim) (fun _ _ => trivial) HBx.out HBx.out.size (by have := HLE.out; omega) ?_; (case hs => rfl); (case hx => rfl); intro v2 w2' ho hb hg hat; have HO2 := Aside0.mk ho; have HB2 := Aside0.mk hb; clear ho hb hg hat)
          go_roundg (jj - (kk + 1))
          case rel => exact ⟨kk + 1, by omega, by omega, by go_num, ⟨by rw [HF.out]; exact HO2.out⟩, HB2⟩
          case measure => omega
        · obtain rfl : kk = jj := by omega
          have t1 : decide (kk < kk) = false := decide_eq_false (by omega)
          have htk : L.take kk = L := List.take_of_length_le (by rw [HN.out]; exact Nat.le_refl _)
          rw [htk] at HRx
          clear hlt htk
          go_wp2_with fail
          go_ret
          exact ⟨_, rfl, HRx.out, HBx.out⟩
end Go.Proofs.Ytcigcacjjdpgfaa.Hand
