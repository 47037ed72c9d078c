import Derived.Test.YtcigcacjjdpgfaaHandBox
import Derived.Test.YtcigcacjjdpgfaaPureTok
import Derived.Test.YtcigcacjjdpgfaaPureOf
import Derived.Test.YtcigcacjjdpgfaaPAx15b
/- The law ColumnsOf returns true: by hand. -/
namespace Go.Proofs.Ytcigcacjjdpgfaa.Hand
open Go.RowKit Go.Proofs.YtcigcacjjdpgfaaW.PrintWords Go.Proofs.YtcigcacjjdpgfaaW.PrintLast Go.Proofs.YtcigcacjjdpgfaaW.PrintMore Go.Proofs.Ytcigcacjjdpgfaa.PA
set_option linter.unusedVariables false
set_option linter.unusedSimpArgs false
set_option maxHeartbeats 4000000 in
set_option maxRecDepth 100000 in
theorem lawOf_calls (A0 : Option Addr) (c0 : Nat) (kinds : List Int) (A1 : Option Addr) (c1 : Nat) (conf : List (List S53)) (A2 A3 A4 : Option Addr) (c2 c3 c4 : Nat) (ins del : List Int) (rep : List (List Int)) (sw unk : Int) (w : World)
    (hk : Kd.C (Kd.int .i64) w A0 kinds.length kinds) (hkc : kinds.length ≤ c0) (hC : Kd.C (Kd.slice 53 k53) w A1 conf.length conf) (hCc : conf.length ≤ c1)
    (hi : Kd.C (Kd.int .i64) w A2 ins.length ins) (hic : ins.length ≤ c2) (hd : Kd.C (Kd.int .i64) w A3 del.length del) (hdc : del.length ≤ c3) (hr : Kd.C (Kd.slice 3 (Kd.int .i64)) w A4 rep.length rep) (hrc : rep.length ≤ c4) :
    Calls Try.prog 4 #[.agg #[.slice A0 kinds.length c0, .slice A1 conf.length c1], .agg #[.slice A2 ins.length c2, .slice A3 del.length c3, .slice A4 rep.length c4, .int .i64 sw, .int .i64 unk]] w fun e w' => e = .returned (.bool true) ∧ Below w.heap.size w w' := by
  have hu25 := Try.underlying25
  have hu31 := Try.underlying31
  have hu34 := Try.underlying34
  have hu38 := Try.underlying38
  obtain ⟨k, hk1⟩ := tok_ex kinds conf
  obtain ⟨k', hk2⟩ := pr_ex ins del rep sw unk 20 (by omega)
  obtain ⟨n0, hn0⟩ : ∃ n0, n0 = kinds.length := ⟨_, rfl⟩
  obtain ⟨n1, hn1⟩ : ∃ n1, n1 = conf.length := ⟨_, rfl⟩
  obtain ⟨n2, hn2⟩ : ∃ n2, n2 = ins.length := ⟨_, rfl⟩
  obtain ⟨n3, hn3⟩ : ∃ n3, n3 = del.length := ⟨_, rfl⟩
  obtain ⟨n4, hn4⟩ : ∃ n4, n4 = rep.length := ⟨_, rfl⟩
  obtain ⟨wa, hwa⟩ : ∃ wa : World, wa = (w.alloc (Obj.cells #[.slice A0 n0 c0, .slice A1 n1 c1] 31)).alloc (Obj.cells #[.slice A2 n2 c2, .slice A3 n3 c3, .slice A4 n4 c4, .int .i64 sw, .int .i64 unk] 34) := ⟨_, rfl⟩
  obtain ⟨b, hbb⟩ : ∃ b, b = w.heap.size := ⟨_, rfl⟩
  have hb : Below w.heap.size w wa := by rw [hwa]; exact below_alloc (below_alloc (Below.refl _ _) _) _
  have BA : wa.heap[b]? = some (Obj.cells #[.slice A0 n0 c0, .slice A1 n1 c1] 31 (0, 0)) := by rw [hwa]; exact blk_old (blk_new hbb)
  have BB : wa.heap[b + 1]? = some (Obj.cells #[.slice A2 n2 c2, .slice A3 n3 c3, .slice A4 n4 c4, .int .i64 sw, .int .i64 unk] 34 (0, 0)) := by rw [hwa]; exact blk_new (by rw [hbb]; simp)
  obtain ⟨p0, p1⟩ := B2 BA (Below.refl _ _)
  have hcall := emendatelaw35_few.calls k A0 c0 kinds A1 c1 conf _ wa (Kd.C_below hk hb) hkc (Kd.C_below hC hb) hCc hk1
  have HB := Aside0.mk hb
  have HBA := Aside0.mk BA
  have HBB := Aside0.mk BB
  have hF : ∀ W', Below wa.heap.size wa W' → Calls Try.prog 14 #[.agg #[.slice A2 n2 c2, .slice A3 n3 c3, .slice A4 n4 c4, .int .i64 sw, .int .i64 unk], .int .i64 20] W' fun e w' => e = .returned (.bool (prB ins del rep 20)) ∧ Below W'.heap.size W' w' := by
    intro W' h
    have hbw := below_step hb h
    rw [hn2, hn3, hn4]
    exact emendateref34_Few.calls k' A2 c2 ins A3 c3 del A4 c4 rep sw unk 20 _ W' (Kd.C_below hi hbw) hic (Kd.C_below hd hbw) hdc (Kd.C_below hr hbw) hrc hk2
  have hP : tokB kinds conf = true → prB ins del rep 20 = true → ∀ W', Below wa.heap.size wa W' → Calls Try.prog 15 #[.slice A0 n0 c0, .slice A1 n1 c1, .agg #[.slice A2 n2 c2, .slice A3 n3 c3, .slice A4 n4 c4, .int .i64 sw, .int .i64 unk]] W' fun e w' =>
      ∃ v0 v1, e = .returned (.tuple #[.agg #[v0, v1, .int .i64 (ofT kinds conf ins del rep sw unk).2.2.1], .int .i64 (ofT kinds conf ins del rep sw unk).2.2.2]) ∧ Rd k51 w' v0 (ofT kinds conf ins del rep sw unk).1 ∧ Rd (Kd.int .i64) w' v1 (ofT kinds conf ins del rep sw unk).2.1 ∧ Below W'.heap.size W' w' := by
    intro f1 f2 W' h
    obtain ⟨a1, a2, a3⟩ := tokB_ok f1
    have b1 := prB_ok f2
    have hbw := below_step hb h
    rw [hn0, hn1, hn2, hn3, hn4]
    exact of_calls A0 c0 kinds A1 c1 conf A2 A3 A4 c2 c3 c4 ins del rep sw unk W' (Kd.C_below hk hbw) (by omega) (Kd.C_below hC hbw) (fun l hl => by have := a3 l hl; omega) (Kd.C_below hi hbw) hic (Kd.C_below hd hbw) hdc (Kd.C_below hr hbw) hrc (by omega)
  have hQ : tokB kinds conf = true → prB ins del rep 20 = true → ∀ W', Below wa.heap.size wa W' → Calls Try.prog 16 #[.slice A0 n0 c0, .slice A1 n1 c1, .agg #[.slice A2 n2 c2, .slice A3 n3 c3, .slice A4 n4 c4, .int .i64 sw, .int .i64 unk]] W' fun e w' =>
      ∃ v0 v1, e = .returned (.tuple #[.agg #[v0, v1, .int .i64 (ofT kinds conf ins del rep sw unk).2.2.1], .int .i64 (ofT kinds conf ins del rep sw unk).2.2.2]) ∧ Rd k51 w' v0 (ofT kinds conf ins del rep sw unk).1 ∧ Rd (Kd.int .i64) w' v1 (ofT kinds conf ins del rep sw unk).2.1 ∧ Below W'.heap.size W' w' := by
    intro f1 f2 W' h
    obtain ⟨a1, a2, a3⟩ := tokB_ok f1
    have b1 := prB_ok f2
    have hbw := below_step hb h
    obtain ⟨kk, hkk⟩ := rof_ex kinds conf ins del rep sw unk (by omega) (by omega) (fun l hl => by have := a3 l hl; omega)
    rw [hn0, hn1, hn2, hn3, hn4]
    refine (emendateref35_Of.calls kk A0 c0 kinds A1 c1 conf A2 c2 ins A3 c3 del A4 c4 rep sw unk (ofT kinds conf ins del rep sw unk).1 (ofT kinds conf ins del rep sw unk).2.1 (ofT kinds conf ins del rep sw unk).2.2.1 (ofT kinds conf ins del rep sw unk).2.2.2 W' (Kd.C_below hk hbw) hkc (Kd.C_below hC hbw) hCc (Kd.C_below hi hbw) hic (Kd.C_below hd hbw) hdc (Kd.C_below hr hbw) hrc hkk).mono ?_
    rintro e w' ⟨v0, v1, he, h0, h1, h2⟩
    exact ⟨v0, v1, he, Kd.S_reads h0, Kd.R_reads h1, h2⟩
  have hok : prB ins del rep 20 = true → _ := fun f2 => ofT_ok kinds conf ins del rep sw unk (prB_ok f2)
  have hn2' : (ins.length : Int) = n2 := by omega
  rw [hn2'] at hok
  rw [← hn0, ← hn1] at hcall
  rw [← hn0, ← hn1, ← hn2, ← hn3, ← hn4]
  generalize ofT kinds conf ins del rep sw unk = rt at hP hQ hok
  obtain ⟨o1, o2, o3, o4⟩ := rt
  dsimp only at hP hQ hok
  generalize tokB kinds conf = f1 at hcall hP hQ
  generalize prB ins del rep 20 = f2 at hF hP hQ hok
  have HF := Aside0.mk hF
  have HP := Aside0.mk hP
  have HQ := Aside0.mk hQ
  have HO := Aside0.mk hok
  clear hb BA BB hk hkc hC hCc hi hic hd hdc hr hrc hk1 hk2 hn0 hn1 hn2 hn3 hn4 hn2' hF hP hQ hok
  go_enter Try.func4, Try.ntmps4
  cases f1
  · go_upto_region 1 with fail
    rw [← hwa, ← hbb]
    clear hwa hbb
    go_wp2_with fail
    (with_reducible refine hcall.mono ?_)
    rintro e w2 ⟨rfl, hd⟩
    have HB2 := Aside0.mk (below_step HB.out hd)
    have haw := awake_calls w2
    clear hcall hd p0 p1
    dsimp only
    go_wp2_with fail
    (with_reducible refine haw.mono ?_)
    rintro e w3 ⟨rfl, hb3⟩
    have HB3 := Aside0.mk (below_step HB2.out hb3)
    clear haw hb3
    dsimp only
    go_wp2_with fail
    go_ret
    exact ⟨rfl, HB3.out⟩
  · go_upto_region 1 with fail
    rw [← hwa, ← hbb]
    clear hwa hbb
    go_wp2_with fail
    (with_reducible refine hcall.mono ?_)
    rintro e w2 ⟨rfl, hd⟩
    have hcall2 := HF.out w2 hd
    have HB2 := Aside0.mk hd
    obtain ⟨q0, q1, q2, q3, q4⟩ := B5 HBB.out hd
    clear hcall hd p0 p1 HF
    dsimp only
    cases f2
    · go_wp2_with fail
      (with_reducible refine hcall2.mono ?_)
      rintro e w3 ⟨rfl, hd⟩
      have HB3 := Aside0.mk (below_step HB.out (below_step HB2.out hd))
      have haw := awake_calls w3
      clear hcall2 hd HB2 q0 q1 q2 q3 q4
      dsimp only
      go_wp2_with fail
      (with_reducible refine haw.mono ?_)
      rintro e w4 ⟨rfl, hb3⟩
      have HB4 := Aside0.mk (below_step HB3.out hb3)
      clear haw hb3
      dsimp only
      go_wp2_with fail
      go_ret
      exact ⟨rfl, HB4.out⟩
    · go_wp2_with fail
      (with_reducible refine hcall2.mono ?_)
      rintro e w3 ⟨rfl, hd⟩
      have hd3 := below_step HB2.out hd
      have HB3 := Aside0.mk hd3
      have hcall := HP.out trivial trivial w3 hd3
      obtain ⟨p0, p1⟩ := B2 HBA.out hd3
      obtain ⟨q0, q1, q2, q3, q4⟩ := B5 HBB.out hd3
      clear hcall2 hd hd3 HB2 HP
      dsimp only
      go_wp2_with fail
      (with_reducible refine hcall.mono ?_)
      rintro e w4 ⟨v0, v1, rfl, hR0, hR1, hd⟩
      obtain ⟨E0, d0, rfl, l0, C0⟩ := hR0
      obtain ⟨E1, d1, rfl, l1, C1⟩ := hR1
      have hd4 := below_step HB3.out hd
      have HB4 := Aside0.mk hd4
      have HR0 := Aside0.mk (And.intro C0 l0)
      have HR1 := Aside0.mk (And.intro C1 l1)
      have hm0 : ∃ m0, m0 = o1.length := ⟨_, rfl⟩
      have hm1 : ∃ m1, m1 = o2.length := ⟨_, rfl⟩
      obtain ⟨m0, hm0⟩ := hm0
      obtain ⟨m1, hm1⟩ := hm1
      rw [← hm0, ← hm1]
      have HM := Aside0.mk (And.intro hm0 hm1)
      have HN := Aside0.mk (nb25 w4 (.slice E0 m0 d0) (.slice E1 m1 d1) (.int .i64 o3))
      clear hcall hd hd4 p0 p1 q0 q1 q2 q3 q4 HB3 C0 C1 l0 l1 hm0 hm1
      dsimp only
      go_upto_region 4 with fail
      obtain ⟨w5, hw5⟩ : ∃ w5 : World, w5 = w4.alloc (Obj.cells #[.slice E0 m0 d0, .slice E1 m1 d1, .int .i64 o3] 25) := ⟨_, rfl⟩
      obtain ⟨g, hg⟩ : ∃ g, g = w4.heap.size := ⟨_, rfl⟩
      rw [← hw5, ← hg]
      obtain ⟨BG, hd⟩ := HN.out
      rw [← hw5] at BG hd
      rw [← hg] at BG
      have HBG := Aside0.mk BG
      have hd5 := below_step HB4.out hd
      have HB5 := Aside0.mk hd5
      have HR05 := Aside0.mk (And.intro (Kd.C_below HR0.out.1 hd) HR0.out.2)
      have HR15 := Aside0.mk (And.intro (Kd.C_below HR1.out.1 hd) HR1.out.2)
      have hcall := HQ.out trivial trivial w5 hd5
      obtain ⟨p0, p1⟩ := B2 HBA.out hd5
      obtain ⟨q0, q1, q2, q3, q4⟩ := B5 HBB.out hd5
      clear hw5 hg hd BG HB4 hd5 HR0 HR1 HQ HN
      go_wp2_with fail
      (with_reducible refine hcall.mono ?_)
      rintro e w6 ⟨u0, u1, rfl, hU0, hU1, hd⟩
      obtain ⟨E2, d2, rfl, l2, C2⟩ := hU0
      obtain ⟨E3, d3, rfl, l3, C3⟩ := hU1
      have hd6 := below_step HB5.out hd
      have HB6 := Aside0.mk hd6
      obtain ⟨BG, _, _, _⟩ := B3 HBG.out hd
      have HG6 := Aside0.mk BG
      have HR06 := Aside0.mk (And.intro (Kd.C_below HR05.out.1 hd) HR05.out.2)
      have HR16 := Aside0.mk (And.intro (Kd.C_below HR15.out.1 hd) HR15.out.2)
      have HU0 := Aside0.mk (And.intro C2 l2)
      have HU1 := Aside0.mk (And.intro C3 l3)
      rw [← HM.out.1, ← HM.out.2]
      have HN := Aside0.mk (nb25 w6 (.slice E2 m0 d2) (.slice E3 m1 d3) (.int .i64 o3))
      clear hcall hd hd6 BG p0 p1 q0 q1 q2 q3 q4 HB5 HR05 HR15 HBG C2 l2 C3 l3
      dsimp only
      go_upto_region 5 with fail
      obtain ⟨w7, hw7⟩ : ∃ w7 : World, w7 = w6.alloc (Obj.cells #[.slice E2 m0 d2, .slice E3 m1 d3, .int .i64 o3] 25) := ⟨_, rfl⟩
      obtain ⟨h, hh⟩ : ∃ h, h = w6.heap.size := ⟨_, rfl⟩
      rw [← hw7, ← hh]
      obtain ⟨BH, hd⟩ := HN.out
      rw [← hw7] at BH hd
      rw [← hh] at BH
      obtain ⟨BG, _, _, _⟩ := B3 HG6.out hd
      have HG7 := Aside0.mk BG
      have HH7 := Aside0.mk BH
      have HB7 := Aside0.mk (below_step HB6.out hd)
      have HR07 := Aside0.mk (And.intro (Kd.C_below HR06.out.1 hd) HR06.out.2)
      have HR17 := Aside0.mk (And.intro (Kd.C_below HR16.out.1 hd) HR16.out.2)
      have HU07 := Aside0.mk (And.intro (Kd.C_below HU0.out.1 hd) HU0.out.2)
      have HU17 := Aside0.mk (And.intro (Kd.C_below HU1.out.1 hd) HU1.out.2)
      have haw := awake_calls w7
      clear hw7 hh hd BH BG HB6 HR06 HR16 HU0 HU1 HG6 HN
      go_wp2_with fail
      (with_reducible refine haw.mono ?_)
      rintro e w8 ⟨rfl, hd⟩
      have hd8 := below_step HB7.out hd
      have HB8 := Aside0.mk hd8
      obtain ⟨BG, g0, g1, g2⟩ := B3 HG7.out hd
      obtain ⟨BH, h0, h1, h2⟩ := B3 HH7.out hd
      have HG8 := Aside0.mk BG
      have HH8 := Aside0.mk BH
      have C0 := Kd.C_below HR07.out.1 hd
      have C1 := Kd.C_below HR17.out.1 hd
      have C2 := Kd.C_below HU07.out.1 hd
      have C3 := Kd.C_below HU17.out.1 hd
      have l0 := HR07.out.2
      have l1 := HR17.out.2
      have l2 := HU07.out.2
      have l3 := HU17.out.2
      have hE : (o4 == o4) = true := by simp
      obtain ⟨z1, z2, z3, z4⟩ := HO.out trivial
      obtain ⟨kk, hkk⟩ := sameIn_ex o1 o2 o3 o1 o2 o3 (by omega) (fun c hc => by have := z2 c hc; omega) (by omega)
      rw [eqI_refl, eqC_refl, decide_eq_true rfl] at hkk
      have hcall := emendateref35_Same.calls kk E0 d0 o1 E1 d1 o2 o3 E2 d2 o1 E3 d3 o2 o3 _ w8 C0 l0 C1 l1 C2 l2 C3 l3 hkk
      have hv : o4 = 0 → ∀ W', Below w8.heap.size w8 W' → Calls Try.prog 11 #[.agg #[.slice E0 o1.length d0, .slice E1 o2.length d1, .int .i64 o3], .int .i64 n2] W' fun e w' => e = .returned (.bool true) ∧ Below W'.heap.size W' w' :=
        fun ho W' hb => columns_Valid.calls E0 d0 o1 E1 d1 o2 o3 n2 _ W' (Kd.C_below C0 hb) l0 (Kd.C_below C1 hb) l1 (congrArg some (z4 ho))
      rw [← HM.out.1, ← HM.out.2] at hcall hv
      have HV := Aside0.mk hv
      clear haw hd hd8 BG BH HB7 HG7 HH7 HR07 HR17 HU07 HU17 C0 C1 C2 C3 l0 l1 l2 l3 z1 z2 z3 z4 HO hkk hv
      dsimp only
      go_wp2_with fail
      (with_reducible refine hcall.mono ?_)
      rintro e w9 ⟨rfl, hd⟩
      have hd9 := below_step HB8.out hd
      have HB9 := Aside0.mk hd9
      obtain ⟨q0, q1, q2, q3, q4⟩ := B5 HBB.out hd9
      obtain ⟨_, g0, g1, g2⟩ := B3 HG8.out hd
      by_cases ho : o4 = 0
      · have hcall := HV.out ho w9 hd
        subst ho
        clear hd hd9 HV
        dsimp only
        go_wp2_with fail
        (with_reducible refine hcall.mono ?_)
        rintro e w10 ⟨rfl, hd⟩
        have HB10 := Aside0.mk (below_step HB9.out hd)
        clear hcall hd
        dsimp only
        go_wp2_with fail
        go_ret
        exact ⟨rfl, below_step HB.out HB10.out⟩
      · have ho1 : decide (o4 = 0) = false := by simp [ho]
        have ho2 : (o4 != 0) = true := by simp [ho]
        have ho3 : (o4 == 0) = false := by simp [ho]
        clear hcall hd hd9 HV
        dsimp only
        go_wp2_with fail
        go_ret
        exact ⟨rfl, below_step HB.out HB9.out⟩
end Go.Proofs.Ytcigcacjjdpgfaa.Hand
