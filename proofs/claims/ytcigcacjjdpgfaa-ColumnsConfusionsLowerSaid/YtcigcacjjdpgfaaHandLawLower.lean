import Derived.Test.YtcigcacjjdpgfaaHandBox
import Derived.Test.YtcigcacjjdpgfaaPureLower
import Derived.Deep.QuietTactic
import Derived.BigQuiet
/- The law ColumnsConfusionsLower returns true: by hand. -/
namespace Go.Proofs.Ytcigcacjjdpgfaa.Hand
open Go.RowKit Go.Proofs.YtcigcacjjdpgfaaW.PrintWords Go.Proofs.YtcigcacjjdpgfaaW.PrintLast Go.Proofs.YtcigcacjjdpgfaaW.PrintMore Go.Proofs.Ytcigcacjjdpgfaa.PA
set_option linter.unusedVariables false
set_option linter.unusedSimpArgs false
/-- The cells that the law reads of two columns. -/
def LwT (g h : Nat) (ad ae : Addr) (m2 d0 d2 o m : Nat) (X1 Y1 : Option Addr) (x1c y1c : Nat) (xk xd : Int) (w' : World) : Prop := w'.cell? ⟨g, 0, none⟩ = some (.slice (some ad) m2 d0) ∧ w'.cell? ⟨h, 0, none⟩ = some (.slice (some ae) m2 d2) ∧ w'.cell? (ad.add o) = some (.int .i64 xk) ∧ w'.cell? ⟨(ad.add o).block, (ad.add o).off + 1, none⟩ = some (.slice X1 m x1c) ∧ w'.cell? ⟨(ad.add o).block, (ad.add o).off + 2, none⟩ = some (.int .i64 xd) ∧ w'.cell? (ae.add o) = some (.int .i64 xk) ∧ w'.cell? ⟨(ae.add o).block, (ae.add o).off + 1, none⟩ = some (.slice Y1 m y1c) ∧ w'.cell? ⟨(ae.add o).block, (ae.add o).off + 2, none⟩ = some (.int .i64 xd)
theorem LwT.below {g h : Nat} {ad ae : Addr} {m2 d0 d2 o m : Nat} {X1 Y1 : Option Addr} {x1c y1c : Nat} {xk xd : Int} {w w' : World} (hl : LwT g h ad ae m2 d0 d2 o m X1 Y1 x1c y1c xk xd w) (hb : Below w.heap.size w w') : LwT g h ad ae m2 d0 d2 o m X1 Y1 x1c y1c xk xd w' := by
  obtain ⟨h0, h1, h2, h3, h4, h5, h6, h7⟩ := hl
  exact ⟨(hb.cell (World.block_lt_of_cell? w _ h0)).trans h0, (hb.cell (World.block_lt_of_cell? w _ h1)).trans h1, (hb.cell (World.block_lt_of_cell? w _ h2)).trans h2, (hb.cell (World.block_lt_of_cell? w _ h3)).trans h3, (hb.cell (World.block_lt_of_cell? w _ h4)).trans h4, (hb.cell (World.block_lt_of_cell? w _ h5)).trans h5, (hb.cell (World.block_lt_of_cell? w _ h6)).trans h6, (hb.cell (World.block_lt_of_cell? w _ h7)).trans h7⟩
/-- The cells that the law reads of two rows. -/
def LrT (b10 b11 jj : Nat) (ax ay : Addr) (m x1c y1c : Nat) (xk xd vx vy : Int) (w' : World) : Prop := w'.cell? ⟨b10, 1, none⟩ = some (.slice (some ax) m x1c) ∧ w'.cell? ⟨b11, 1, none⟩ = some (.slice (some ay) m y1c) ∧ w'.cell? (ax.add jj) = some (.int .i64 vx) ∧ w'.cell? (ay.add jj) = some (.int .i64 vy)
theorem LrT.below {b10 b11 jj : Nat} {ax ay : Addr} {m x1c y1c : Nat} {xk xd vx vy : Int} {w w' : World} (hl : LrT b10 b11 jj ax ay m x1c y1c xk xd vx vy w) (hb : Below w.heap.size w w') : LrT b10 b11 jj ax ay m x1c y1c xk xd vx vy w' := by
  obtain ⟨h0, h1, h2, h3⟩ := hl
  exact ⟨(hb.cell (World.block_lt_of_cell? w _ h0)).trans h0, (hb.cell (World.block_lt_of_cell? w _ h1)).trans h1, (hb.cell (World.block_lt_of_cell? w _ h2)).trans h2, (hb.cell (World.block_lt_of_cell? w _ h3)).trans h3⟩
set_option maxHeartbeats 4000000 in
set_option maxRecDepth 100000 in
theorem lawLower_calls (A0 : Option Addr) (c0 : Nat) (kinds : List Int) (A1 : Option Addr) (c1 : Nat) (conf : List (List S53)) (A2 A3 A4 : Option Addr) (c2 c3 c4 : Nat) (ins del : List Int) (rep : List (List Int)) (sw unk : Int) (w : World)
    (hk : Kd.C (Kd.int .i64) w A0 kinds.length kinds) (hkc : kinds.length ≤ c0) (hC : Kd.C (Kd.slice 53 k53) w A1 conf.length conf) (hCc : conf.length ≤ c1)
    (hi : Kd.C (Kd.int .i64) w A2 ins.length ins) (hic : ins.length ≤ c2) (hd : Kd.C (Kd.int .i64) w A3 del.length del) (hdc : del.length ≤ c3) (hr : Kd.C (Kd.slice 3 (Kd.int .i64)) w A4 rep.length rep) (hrc : rep.length ≤ c4) :
    Calls Try.prog 8 #[.agg #[.slice A0 kinds.length c0, .slice A1 conf.length c1], .agg #[.slice A2 ins.length c2, .slice A3 del.length c3, .slice A4 rep.length c4, .int .i64 sw, .int .i64 unk]] w fun e w' => e = .returned (.bool true) ∧ Below w.heap.size w w' := by
  have hu25 := Try.underlying25
  have hu31 := Try.underlying31
  have hu34 := Try.underlying34
  have hu51 := Try.underlying51
  have hu38 := Try.underlying38
  obtain ⟨k, hk1⟩ := tok_ex kinds conf
  obtain ⟨k', hk2⟩ := pr_ex ins del rep sw unk 20 (by omega)
  obtain ⟨n0, hn0⟩ : ∃ n0, n0 = kinds.length := ⟨_, rfl⟩
  obtain ⟨n1, hn1⟩ : ∃ n1, n1 = conf.length := ⟨_, rfl⟩
  obtain ⟨n2, hn2⟩ : ∃ n2, n2 = ins.length := ⟨_, rfl⟩
  obtain ⟨n3, hn3⟩ : ∃ n3, n3 = del.length := ⟨_, rfl⟩
  obtain ⟨n4, hn4⟩ : ∃ n4, n4 = rep.length := ⟨_, rfl⟩
  obtain ⟨wa, hwa⟩ : ∃ wa : World, wa = (w.alloc (Obj.cells #[.slice A0 n0 c0, .slice A1 n1 c1] 31)).alloc (Obj.cells #[.slice A2 n2 c2, .slice A3 n3 c3, .slice A4 n4 c4, .int .i64 sw, .int .i64 unk] 34) := ⟨_, rfl⟩
  obtain ⟨b, hbb⟩ : ∃ b, b = w.heap.size := ⟨_, rfl⟩
  have hb : Below w.heap.size w wa := by rw [hwa]; exact below_alloc (below_alloc (Below.refl _ _) _) _
  have BA : wa.heap[b]? = some (Obj.cells #[.slice A0 n0 c0, .slice A1 n1 c1] 31 (0, 0)) := by rw [hwa]; exact blk_old (blk_new hbb)
  have BB : wa.heap[b + 1]? = some (Obj.cells #[.slice A2 n2 c2, .slice A3 n3 c3, .slice A4 n4 c4, .int .i64 sw, .int .i64 unk] 34 (0, 0)) := by rw [hwa]; exact blk_new (by rw [hbb]; simp)
  obtain ⟨p0, p1⟩ := B2 BA (Below.refl _ _)
  have hcall := emendatelaw35_few.calls k A0 c0 kinds A1 c1 conf _ wa (Kd.C_below hk hb) hkc (Kd.C_below hC hb) hCc hk1
  have HB := Aside0.mk hb
  have HBA := Aside0.mk BA
  have HBB := Aside0.mk BB
  have hF : ∀ W', Below wa.heap.size wa W' → Calls Try.prog 14 #[.agg #[.slice A2 n2 c2, .slice A3 n3 c3, .slice A4 n4 c4, .int .i64 sw, .int .i64 unk], .int .i64 20] W' fun e w' => e = .returned (.bool (prB ins del rep 20)) ∧ Below W'.heap.size W' w' := by
    intro W' h
    have hbw := below_step hb h
    rw [hn2, hn3, hn4]
    exact emendateref34_Few.calls k' A2 c2 ins A3 c3 del A4 c4 rep sw unk 20 _ W' (Kd.C_below hi hbw) hic (Kd.C_below hd hbw) hdc (Kd.C_below hr hbw) hrc hk2
  have hP : tokB kinds conf = true → prB ins del rep 20 = true → ∀ W', Below wa.heap.size wa W' → Calls Try.prog 15 #[.slice A0 n0 c0, .slice A1 n1 c1, .agg #[.slice A2 n2 c2, .slice A3 n3 c3, .slice A4 n4 c4, .int .i64 sw, .int .i64 unk]] W' fun e w' =>
      ∃ v0 v1, e = .returned (.tuple #[.agg #[v0, v1, .int .i64 (ofT kinds conf ins del rep sw unk).2.2.1], .int .i64 (ofT kinds conf ins del rep sw unk).2.2.2]) ∧ Rd k51 w' v0 (ofT kinds conf ins del rep sw unk).1 ∧ Rd (Kd.int .i64) w' v1 (ofT kinds conf ins del rep sw unk).2.1 ∧ Below W'.heap.size W' w' := by
    intro f1 f2 W' h
    obtain ⟨a1, a2, a3⟩ := tokB_ok f1
    have b1 := prB_ok f2
    have hbw := below_step hb h
    rw [hn0, hn1, hn2, hn3, hn4]
    exact of_calls A0 c0 kinds A1 c1 conf A2 A3 A4 c2 c3 c4 ins del rep sw unk W' (Kd.C_below hk hbw) (by omega) (Kd.C_below hC hbw) (fun l hl => by have := a3 l hl; omega) (Kd.C_below hi hbw) hic (Kd.C_below hd hbw) hdc (Kd.C_below hr hbw) hrc (by omega)
  have hQ : tokB kinds conf = true → prB ins del rep 20 = true → ∀ W', Below wa.heap.size wa W' → Calls Try.prog 15 #[.slice A0 n0 c0, .slice none 0 0, .agg #[.slice A2 n2 c2, .slice A3 n3 c3, .slice A4 n4 c4, .int .i64 sw, .int .i64 unk]] W' fun e w' =>
      ∃ v0 v1, e = .returned (.tuple #[.agg #[v0, v1, .int .i64 (ofT kinds [] ins del rep sw unk).2.2.1], .int .i64 (ofT kinds [] ins del rep sw unk).2.2.2]) ∧ Rd k51 w' v0 (ofT kinds [] ins del rep sw unk).1 ∧ Rd (Kd.int .i64) w' v1 (ofT kinds [] ins del rep sw unk).2.1 ∧ Below W'.heap.size W' w' := by
    intro f1 f2 W' h
    obtain ⟨a1, a2, a3⟩ := tokB_ok f1
    have b1 := prB_ok f2
    have hbw := below_step hb h
    rw [hn0, hn2, hn3, hn4]
    exact of_calls A0 c0 kinds none 0 [] A2 A3 A4 c2 c3 c4 ins del rep sw unk W' (Kd.C_below hk hbw) (by omega) (Kd.C_nil _ _) (by simp) (Kd.C_below hi hbw) hic (Kd.C_below hd hbw) hdc (Kd.C_below hr hbw) hrc (by omega)
  have hlow : (ofT kinds conf ins del rep sw unk).2.2.2 = 0 → _ := fun h => ofT_lower h
  have hok : prB ins del rep 20 = true → _ := fun f2 => ofT_ok kinds conf ins del rep sw unk (prB_ok f2)
  rw [← hn0, ← hn1] at hcall
  rw [← hn0, ← hn1, ← hn2, ← hn3, ← hn4]
  generalize ofT kinds conf ins del rep sw unk = rt at hP hlow hok
  generalize ofT kinds [] ins del rep sw unk = rq at hQ hlow
  obtain ⟨o1, o2, o3, o4⟩ := rt
  obtain ⟨q1, q2, q3, q4⟩ := rq
  dsimp only at hP hQ hlow hok
  generalize tokB kinds conf = f1 at hcall hP hQ
  generalize prB ins del rep 20 = f2 at hF hP hQ hok
  have HF := Aside0.mk hF
  have HP := Aside0.mk hP
  have HQ := Aside0.mk hQ
  have HO := Aside0.mk hlow
  have HK := Aside0.mk hok
  clear hb BA BB hk hkc hC hCc hi hic hd hdc hr hrc hk1 hk2 hn0 hn1 hn2 hn3 hn4 hF hP hQ hlow hok
  go_enter Try.func8, Try.ntmps8
  cases f1
  · go_upto_region 1 with fail
    rw [← hwa, ← hbb]
    clear hwa hbb
    go_wp2_with fail
    (with_reducible refine hcall.mono ?_)
    rintro e w2 ⟨rfl, hd⟩
    have HB2 := Aside0.mk (below_step HB.out hd)
    have haw := awake_calls w2
    clear hcall hd p0 p1
    dsimp only
    go_wp2_with fail
    (with_reducible refine haw.mono ?_)
    rintro e w3 ⟨rfl, hb3⟩
    have HB3 := Aside0.mk (below_step HB2.out hb3)
    clear haw hb3
    dsimp only
    go_wp2_with fail
    go_ret
    exact ⟨rfl, HB3.out⟩
  · go_upto_region 1 with fail
    rw [← hwa, ← hbb]
    clear hwa hbb
    go_wp2_with fail
    (with_reducible refine hcall.mono ?_)
    rintro e w2 ⟨rfl, hd⟩
    have hcall2 := HF.out w2 hd
    have HB2 := Aside0.mk hd
    obtain ⟨z0, z1, z2, z3, z4⟩ := B5 HBB.out hd
    clear hcall hd p0 p1 HF
    dsimp only
    cases f2
    · go_wp2_with fail
      (with_reducible refine hcall2.mono ?_)
      rintro e w3 ⟨rfl, hd⟩
      have HB3 := Aside0.mk (below_step HB.out (below_step HB2.out hd))
      have haw := awake_calls w3
      clear hcall2 hd HB2 z0 z1 z2 z3 z4
      dsimp only
      go_wp2_with fail
      (with_reducible refine haw.mono ?_)
      rintro e w4 ⟨rfl, hb3⟩
      have HB4 := Aside0.mk (below_step HB3.out hb3)
      clear haw hb3
      dsimp only
      go_wp2_with fail
      go_ret
      exact ⟨rfl, HB4.out⟩
    · go_wp2_with fail
      (with_reducible refine hcall2.mono ?_)
      rintro e w3 ⟨rfl, hd⟩
      have hd3 := below_step HB2.out hd
      have HB3 := Aside0.mk hd3
      have hcall := HP.out trivial trivial w3 hd3
      obtain ⟨p0, p1⟩ := B2 HBA.out hd3
      obtain ⟨z0, z1, z2, z3, z4⟩ := B5 HBB.out hd3
      clear hcall2 hd hd3 HB2 HP
      dsimp only
      go_wp2_with fail
      (with_reducible refine hcall.mono ?_)
      rintro e w4 ⟨v0, v1, rfl, hR0, hR1, hd⟩
      obtain ⟨E0, d0, rfl, l0, C0⟩ := hR0
      obtain ⟨E1, d1, rfl, l1, C1⟩ := hR1
      have hd4 := below_step HB3.out hd
      have HB4 := Aside0.mk hd4
      have HR0 := Aside0.mk (And.intro C0 l0)
      have HR1 := Aside0.mk (And.intro C1 l1)
      have hm0 : ∃ m0, m0 = o1.length := ⟨_, rfl⟩
      have hm1 : ∃ m1, m1 = o2.length := ⟨_, rfl⟩
      obtain ⟨m0, hm0⟩ := hm0
      obtain ⟨m1, hm1⟩ := hm1
      rw [← hm0, ← hm1]
      have HM := Aside0.mk (And.intro hm0 hm1)
      have HN := Aside0.mk (nb25 w4 (.slice E0 m0 d0) (.slice E1 m1 d1) (.int .i64 o3))
      clear hcall hd hd4 p0 p1 z0 z1 z2 z3 z4 HB3 C0 C1 l0 l1 hm0 hm1
      dsimp only
      go_upto_region 4 with fail
      obtain ⟨w5, hw5⟩ : ∃ w5 : World, w5 = w4.alloc (Obj.cells #[.slice E0 m0 d0, .slice E1 m1 d1, .int .i64 o3] 25) := ⟨_, rfl⟩
      obtain ⟨g, hg⟩ : ∃ g, g = w4.heap.size := ⟨_, rfl⟩
      rw [← hw5, ← hg]
      obtain ⟨BG, hd⟩ := HN.out
      rw [← hw5] at BG hd
      rw [← hg] at BG
      have HBG := Aside0.mk BG
      have hd5 := below_step HB4.out hd
      have HB5 := Aside0.mk hd5
      have HR05 := Aside0.mk (And.intro (Kd.C_below HR0.out.1 hd) HR0.out.2)
      have HR15 := Aside0.mk (And.intro (Kd.C_below HR1.out.1 hd) HR1.out.2)
      have hcall := HQ.out trivial trivial w5 hd5
      obtain ⟨p0, p1⟩ := B2 HBA.out hd5
      obtain ⟨z0, z1, z2, z3, z4⟩ := B5 HBB.out hd5
      clear hw5 hg hd BG HB4 hd5 HR0 HR1 HQ HN
      go_wp2_with fail
      (with_reducible refine hcall.mono ?_)
      rintro e w6 ⟨u0, u1, rfl, hU0, hU1, hd⟩
      obtain ⟨E2, d2, rfl, l2, C2⟩ := hU0
      obtain ⟨E3, d3, rfl, l3, C3⟩ := hU1
      have hd6 := below_step HB5.out hd
      have HB6 := Aside0.mk hd6
      obtain ⟨BG, _, _, _⟩ := B3 HBG.out hd
      have HG6 := Aside0.mk BG
      have HR06 := Aside0.mk (And.intro (Kd.C_below HR05.out.1 hd) HR05.out.2)
      have HR16 := Aside0.mk (And.intro (Kd.C_below HR15.out.1 hd) HR15.out.2)
      have HU0 := Aside0.mk (And.intro C2 l2)
      have HU1 := Aside0.mk (And.intro C3 l3)
      have hm2 : ∃ m2, m2 = q1.length := ⟨_, rfl⟩
      have hm3 : ∃ m3, m3 = q2.length := ⟨_, rfl⟩
      obtain ⟨m2, hm2⟩ := hm2
      obtain ⟨m3, hm3⟩ := hm3
      rw [← hm2, ← hm3]
      have HM2 := Aside0.mk hm2
      have HN := Aside0.mk (nb25 w6 (.slice E2 m2 d2) (.slice E3 m3 d3) (.int .i64 q3))
      clear hm2 hm3
      clear hcall hd hd6 BG p0 p1 z0 z1 z2 z3 z4 HB5 HR05 HR15 HBG C2 l2 C3 l3
      dsimp only
      go_upto_region 5 with fail
      obtain ⟨w7, hw7⟩ : ∃ w7 : World, w7 = w6.alloc (Obj.cells #[.slice E2 m2 d2, .slice E3 m3 d3, .int .i64 q3] 25) := ⟨_, rfl⟩
      obtain ⟨h, hh⟩ : ∃ h, h = w6.heap.size := ⟨_, rfl⟩
      rw [← hw7, ← hh]
      obtain ⟨BH, hd⟩ := HN.out
      rw [← hw7] at BH hd
      rw [← hh] at BH
      obtain ⟨BG, _, _, _⟩ := B3 HG6.out hd
      have HG7 := Aside0.mk BG
      have HH7 := Aside0.mk BH
      have HB7 := Aside0.mk (below_step HB6.out hd)
      have HR07 := Aside0.mk (And.intro (Kd.C_below HR06.out.1 hd) HR06.out.2)
      have HR17 := Aside0.mk (And.intro (Kd.C_below HR16.out.1 hd) HR16.out.2)
      have HU07 := Aside0.mk (And.intro (Kd.C_below HU0.out.1 hd) HU0.out.2)
      have HU17 := Aside0.mk (And.intro (Kd.C_below HU1.out.1 hd) HU1.out.2)
      clear hw7 hh hd BG BH HB6 HR06 HR16 HU0 HU1 HG6 HN
      obtain ⟨BG, g0, g1, g2⟩ := B3 HG7.out (Below.refl _ _)
      obtain ⟨BH, h0, h1, h2⟩ := B3 HH7.out (Below.refl _ _)
      clear BG BH
      by_cases ho : o4 = 0
      · obtain ⟨hq0, hlen, hat⟩ := HO.out ho
        obtain ⟨hk1, _, _, _⟩ := HK.out trivial
        have hmm : m2 = m0 := by rw [HM2.out, HM.out.1, hlen]
        have hm60 : m0 ≤ 60 := by rw [HM.out.1]; exact hk1
        have HAT := Aside0.mk hat
        have hneq : ((m0 : Int) != (m0 : Int)) = false := by simp
        subst ho hq0 hmm
        clear HO HK hlen hat hk1
        go_wp2_with fail
        clear g0 g1 g2 h0 h1 h2
        go_loopg [9] m2 (fun gg s9 wr => ∃ kk : Nat, kk ≤ m2 ∧ m2 - kk ≤ gg ∧ s9 = .int .i64 kk ∧ Aside0 (Below w7.heap.size w7 wr))
        case atStart => exact ⟨0, Nat.zero_le _, by omega, rfl, ⟨Below.refl _ _⟩⟩
        case round =>
          obtain ⟨kk, hkk, hgg, rfl, HBx⟩ := hrel
          by_cases hlt : kk < m2
          · have hltz : (kk : Int) < (m2 : Int) := by omega
            have hltn : (0 : Int) ≤ (kk : Int) := by omega
            obtain ⟨ad, X1, x1c, e, x0, x1, x2, xl, xC⟩ := at_T51 (Kd.C_below HR07.out.1 HBx.out) (kk : Int) (by omega) (by rw [← HM.out.1]; omega)
            subst e
            obtain ⟨ae, Y1, y1c, e, y0, y1, y2, yl, yC⟩ := at_T51 (Kd.C_below HU07.out.1 HBx.out) (kk : Int) (by omega) (by rw [← HM2.out]; omega)
            subst e
            have hlw := HAT.out kk (by rw [← HM.out.1]; omega)
            obtain ⟨BG, g0, g1, g2⟩ := B3 HG7.out HBx.out
            obtain ⟨BH, h0, h1, h2⟩ := B3 HH7.out HBx.out
            clear BG BH
            rw [Int.toNat_natCast] at x0 x1 x2 y0 y1 y2
            generalize rd_T51 o1 (kk : Int) = x at x0 x1 x2 xl xC hlw
            generalize rd_T51 q1 (kk : Int) = y at y0 y1 y2 yl yC hlw
            obtain ⟨xk, xr, xd⟩ := x
            obtain ⟨yk, yr, yd⟩ := y
            obtain ⟨e1, e2, e3, e4⟩ := hlw
            dsimp only at x0 x1 x2 xl xC y0 y1 y2 yl yC e1 e2 e3 e4
            subst e1 e2
            obtain ⟨m, hm⟩ : ∃ m, m = yr.length := ⟨_, rfl⟩
            rw [← hm] at y1 e3
            rw [e3] at x1 e4
            have HXC := Aside0.mk xC
            have HYC := Aside0.mk yC
            have HEM := Aside0.mk (And.intro hm e3)
            have HE4 := Aside0.mk e4
            have hm6 : m ≤ 9223372036854775807 := by have := yC.2.1; omega
            clear xC yC xl yl e3 e4 hm
            go_upto_region 12 with fail
            go_cut [10, 11] from 59 to 68 (fun s10 s11 wx => ∃ b10 b11, s10 = .pointer (some ⟨b10, 0, none⟩) ∧ s11 = .pointer (some ⟨b11, 0, none⟩) ∧ wx.heap[b10]? = some (.cells #[.int .i64 xk, .slice X1 m x1c, .int .i64 xd] 51 (0, 0)) ∧ wx.heap[b11]? = some (.cells #[.int .i64 xk, .slice Y1 m y1c, .int .i64 xd] 51 (0, 0)) ∧ Below wr.heap.size wr wx)
            case first =>
              have HL := Aside0.mk (show LwT g h ad ae m2 d0 d2 (kk * 3) m X1 Y1 x1c y1c xk xd wr from ⟨g0, h0, x0, x1, x2, y0, y1, y2⟩)
              clear g1 g2 h1 h2
              go_region_held3 (fun w' => w'.cell? ⟨g, 0, none⟩ = some (.slice (some ad) m2 d0) ∧ w'.cell? ⟨h, 0, none⟩ = some (.slice (some ae) m2 d2) ∧ w'.cell? (ad.add (kk * 3)) = some (.int .i64 xk) ∧ w'.cell? ⟨(ad.add (kk * 3)).block, (ad.add (kk * 3)).off + 1, none⟩ = some (.slice X1 m x1c) ∧ w'.cell? ⟨(ad.add (kk * 3)).block, (ad.add (kk * 3)).off + 2, none⟩ = some (.int .i64 xd) ∧ w'.cell? (ae.add (kk * 3)) = some (.int .i64 xk) ∧ w'.cell? ⟨(ae.add (kk * 3)).block, (ae.add (kk * 3)).off + 1, none⟩ = some (.slice Y1 m y1c) ∧ w'.cell? ⟨(ae.add (kk * 3)).block, (ae.add (kk * 3)).off + 2, none⟩ = some (.int .i64 xd)) (exact LwT.below HL.out (by repeat (first | exact Below.refl _ _ | refine below_alloc ?_ _ | refine below_drew1 ?_))) (fail)
              · go_wp2_with fail
                go_meet
                case rel => exact ⟨_, _, rfl, rfl, blk_old (blk_new rfl), blk_new (by simp), below_drew1 (below_alloc (below_alloc (Below.refl _ _) _) _)⟩
              · go_wp2_with fail
                go_meet
                case rel => exact ⟨_, _, rfl, rfl, blk_new (by simp), blk_old (blk_new rfl), below_drew1 (below_alloc (below_alloc (Below.refl _ _) _) _)⟩
            case rest =>
              obtain ⟨b10, b11, rfl, rfl, hx, hy, hbx⟩ := hcut
              have HX := Aside0.mk hx
              have HY := Aside0.mk hy
              have HBr := Aside0.mk hbx
              have HBc := Aside0.mk (below_step HBx.out hbx)
              have HXc := Aside0.mk (show Kd.C (Kd.int .i64) wr X1 xr.length xr from HXC.out)
              obtain ⟨_, x0, x1, x2⟩ := B3 hx (Below.refl _ _)
              obtain ⟨_, y0, y1, y2⟩ := B3 hy (Below.refl _ _)
              clear hx hy hbx
              have u1 : (xk != xk) = false := by simp
              have u2 : (xd != xd) = false := by simp
              have u3 : ((m : Int) != (m : Int)) = false := by simp
              clear g0 g1 g2 h0 h1 h2
              go_wp2_with fail
              clear x0 x1 x2 y0 y1 y2 u1 u2 u3
              go_loopg [12] m (fun gg s12 ws => ∃ jj : Nat, jj ≤ m ∧ m - jj ≤ gg ∧ s12 = .int .i64 jj ∧ Aside0 (Below wc.heap.size wc ws))
              case atStart => exact ⟨0, Nat.zero_le _, by omega, rfl, ⟨Below.refl _ _⟩⟩
              case round =>
                obtain ⟨jj, hjj, hgj, rfl, HBy⟩ := hrel
                obtain ⟨_, x0, x1, x2⟩ := B3 HX.out HBy.out
                obtain ⟨_, y0, y1, y2⟩ := B3 HY.out HBy.out
                by_cases hjl : jj < m
                · have hjz : (jj : Int) < (m : Int) := by omega
                  have hjn : (0 : Int) ≤ (jj : Int) := by omega
                  have hb1 := below_step HBr.out HBy.out
                  obtain ⟨ax, e, v1⟩ := Kd.at_int (Kd.C_below HXc.out hb1) (jj : Int) hjn (by rw [HEM.out.2]; omega)
                  subst e
                  obtain ⟨ay, e, v2⟩ := Kd.at_int (Kd.C_below HYC.out hb1) (jj : Int) hjn (by rw [← HEM.out.1]; omega)
                  subst e
                  have hle := HE4.out jj hjl
                  rw [Int.toNat_natCast] at v1 v2
                  generalize rd xr (jj : Int) = vx at v1 hle
                  generalize rd yr (jj : Int) = vy at v2 hle
                  have HL := Aside0.mk (show LrT b10 b11 jj ax ay m x1c y1c xk xd vx vy wr from ⟨x1, y1, v1, v2⟩)
                  clear hb1
                  by_cases hv : 0 ≤ vy
                  · obtain ⟨q5, q6⟩ := hle hv
                    have t1 : decide (0 ≤ vy) = true := decide_eq_true hv
                    have t2 : decide (vx < 0) = false := decide_eq_false (by omega)
                    have t3 : decide (vy < vx) = false := decide_eq_false (by omega)
                    clear hle
                    go_upto_region 18 with fail
                    go_quiet (fail)
                    go_wp2_with fail
                    go_roundg (m - (jj + 1))
                    case rel => exact ⟨jj + 1, by omega, by omega, by go_num, ⟨by repeat (first | exact HBy.out | apply pw_below_drewN | apply below_drew1)⟩⟩
                    case measure => omega
                  · have t1 : decide (0 ≤ vy) = false := decide_eq_false hv
                    clear hle
                    go_upto_region 18 with fail
                    go_quiet (fail)
                    go_wp2_with fail
                    go_roundg (m - (jj + 1))
                    case rel => exact ⟨jj + 1, by omega, by omega, by go_num, ⟨by repeat (first | exact HBy.out | apply pw_below_drewN | apply below_drew1)⟩⟩
                    case measure => omega
                · obtain rfl : jj = m := by omega
                  have t3 : decide (jj < jj) = false := decide_eq_false (by omega)
                  clear hjl
                  go_wp2_with fail
                  go_roundg (m2 - (kk + 1))
                  case rel => exact ⟨kk + 1, by omega, by omega, by go_num, ⟨below_step HBc.out HBy.out⟩⟩
                  case measure => omega
          · obtain rfl : kk = m2 := by omega
            have t3 : decide (kk < kk) = false := decide_eq_false (by omega)
            have haw := awake_calls wr
            obtain ⟨_, g0, g1, g2⟩ := B3 HG7.out HBx.out
            go_wp2_with fail
            (with_reducible refine haw.mono ?_)
            rintro e w8 ⟨rfl, hd⟩
            have HB8 := Aside0.mk (below_step HB7.out (below_step HBx.out hd))
            clear haw hd
            dsimp only
            go_wp2_with fail
            go_ret
            exact ⟨rfl, below_step HB.out HB8.out⟩
      · have ho1 : decide (o4 = 0) = false := by simp [ho]
        have ho2 : (o4 != 0) = true := by simp [ho]
        have ho3 : (o4 == 0) = false := by simp [ho]
        have haw := awake_calls w7
        clear HO HK g0 g1 g2 h0 h1 h2
        go_wp2_with fail
        (with_reducible refine haw.mono ?_)
        rintro e w8 ⟨rfl, hd⟩
        have HB8 := Aside0.mk (below_step HB7.out hd)
        clear haw hd
        dsimp only
        go_wp2_with fail
        go_ret
        exact ⟨rfl, below_step HB.out HB8.out⟩
end Go.Proofs.Ytcigcacjjdpgfaa.Hand
