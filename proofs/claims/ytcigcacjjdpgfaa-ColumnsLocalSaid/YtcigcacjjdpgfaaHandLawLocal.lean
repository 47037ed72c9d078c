import Derived.Test.YtcigcacjjdpgfaaHandBox
import Derived.Test.YtcigcacjjdpgfaaHandApp
import Derived.Test.YtcigcacjjdpgfaaPureLocal
/- The law ColumnsLocal returns true: by hand. -/
namespace Go.Proofs.Ytcigcacjjdpgfaa.Hand
open Go.RowKit Go.Proofs.YtcigcacjjdpgfaaW.PrintWords Go.Proofs.YtcigcacjjdpgfaaW.PrintLast Go.Proofs.YtcigcacjjdpgfaaW.PrintMore Go.Proofs.Ytcigcacjjdpgfaa.PA
set_option linter.unusedVariables false
set_option linter.unusedSimpArgs false
set_option maxHeartbeats 4000000 in
set_option maxRecDepth 100000 in
theorem lawLocal_calls (A0 : Option Addr) (c0 : Nat) (kinds : List Int) (A1 : Option Addr) (c1 : Nat) (conf : List (List S53)) (A2 A3 A4 : Option Addr) (c2 c3 c4 : Nat) (ins del : List Int) (rep : List (List Int)) (sw unk : Int) (a2 : Int) (ha0 : 0 ≤ a2) (ha1 : a2 ≤ 255) (w : World)
    (hk : Kd.C (Kd.int .i64) w A0 kinds.length kinds) (hkc : kinds.length ≤ c0) (hC : Kd.C (Kd.slice 53 k53) w A1 conf.length conf) (hCc : conf.length ≤ c1)
    (hi : Kd.C (Kd.int .i64) w A2 ins.length ins) (hic : ins.length ≤ c2) (hd : Kd.C (Kd.int .i64) w A3 del.length del) (hdc : del.length ≤ c3) (hr : Kd.C (Kd.slice 3 (Kd.int .i64)) w A4 rep.length rep) (hrc : rep.length ≤ c4) :
    Calls Try.prog 5 #[.agg #[.slice A0 kinds.length c0, .slice A1 conf.length c1], .agg #[.slice A2 ins.length c2, .slice A3 del.length c3, .slice A4 rep.length c4, .int .i64 sw, .int .i64 unk], .int .u8 a2] w fun e w' => e = .returned (.bool true) ∧ Below w.heap.size w w' := by
  have hu25 := Try.underlying25
  have hu31 := Try.underlying31
  have hu34 := Try.underlying34
  have hu23 := Try.underlying23
  have hu29 := Try.underlying29
  have hu38 := Try.underlying38
  obtain ⟨k, hk1⟩ := tok_ex kinds conf
  obtain ⟨k', hk2⟩ := pr_ex ins del rep sw unk 20 (by omega)
  obtain ⟨n0, hn0⟩ : ∃ n0, n0 = kinds.length := ⟨_, rfl⟩
  obtain ⟨n1, hn1⟩ : ∃ n1, n1 = conf.length := ⟨_, rfl⟩
  obtain ⟨n2, hn2⟩ : ∃ n2, n2 = ins.length := ⟨_, rfl⟩
  obtain ⟨n3, hn3⟩ : ∃ n3, n3 = del.length := ⟨_, rfl⟩
  obtain ⟨n4, hn4⟩ : ∃ n4, n4 = rep.length := ⟨_, rfl⟩
  obtain ⟨wa, hwa⟩ : ∃ wa : World, wa = (w.alloc (Obj.cells #[.slice A0 n0 c0, .slice A1 n1 c1] 31)).alloc (Obj.cells #[.slice A2 n2 c2, .slice A3 n3 c3, .slice A4 n4 c4, .int .i64 sw, .int .i64 unk] 34) := ⟨_, rfl⟩
  obtain ⟨b, hbb⟩ : ∃ b, b = w.heap.size := ⟨_, rfl⟩
  have hb : Below w.heap.size w wa := by rw [hwa]; exact below_alloc (below_alloc (Below.refl _ _) _) _
  have BA : wa.heap[b]? = some (Obj.cells #[.slice A0 n0 c0, .slice A1 n1 c1] 31 (0, 0)) := by rw [hwa]; exact blk_old (blk_new hbb)
  have BB : wa.heap[b + 1]? = some (Obj.cells #[.slice A2 n2 c2, .slice A3 n3 c3, .slice A4 n4 c4, .int .i64 sw, .int .i64 unk] 34 (0, 0)) := by rw [hwa]; exact blk_new (by rw [hbb]; simp)
  obtain ⟨p0, p1⟩ := B2 BA (Below.refl _ _)
  have hcall := emendatelaw35_few.calls k A0 c0 kinds A1 c1 conf _ wa (Kd.C_below hk hb) hkc (Kd.C_below hC hb) hCc hk1
  have HB := Aside0.mk hb
  have HBA := Aside0.mk BA
  have HBB := Aside0.mk BB
  have hF : ∀ W', Below wa.heap.size wa W' → Calls Try.prog 14 #[.agg #[.slice A2 n2 c2, .slice A3 n3 c3, .slice A4 n4 c4, .int .i64 sw, .int .i64 unk], .int .i64 20] W' fun e w' => e = .returned (.bool (prB ins del rep 20)) ∧ Below W'.heap.size W' w' := by
    intro W' h
    have hbw := below_step hb h
    rw [hn2, hn3, hn4]
    exact emendateref34_Few.calls k' A2 c2 ins A3 c3 del A4 c4 rep sw unk 20 _ W' (Kd.C_below hi hbw) hic (Kd.C_below hd hbw) hdc (Kd.C_below hr hbw) hrc hk2
  have hO : prB ins del rep 20 = true → ∀ (K : List Int) (B : Option Addr) (c : Nat) (C : List (List S53)) (B' : Option Addr) (c' : Nat) (W' : World), Below wa.heap.size wa W' → Kd.C (Kd.int .i64) w B K.length K → Kd.C (Kd.slice 53 k53) w B' C.length C → K.length ≤ 1000 → (∀ l ∈ C, l.length ≤ 10) → ∀ (xs : List S51) (m n n' : Nat), ofT K C ins del rep sw unk = (xs, ins, sw, 0) → xs.length = m → n = K.length → n' = C.length →
      Calls Try.prog 15 #[.slice B n c, .slice B' n' c', .agg #[.slice A2 n2 c2, .slice A3 n3 c3, .slice A4 n4 c4, .int .i64 sw, .int .i64 unk]] W' fun e w' =>
      ∃ F f, e = .returned (.tuple #[.agg #[.slice F m f, .slice A2 n2 c2, .int .i64 sw], .int .i64 0]) ∧ Aside0 (Kd.R k51 51 w' W'.heap.size (fun _ => True) (.slice F m f) xs) ∧ Below W'.heap.size W' w' := by
    intro f2 K B c C B' c' W' h kK kC kn kl xs m n n' ho hm hn hn'
    have b1 := prB_ok f2
    have hbw := below_step hb h
    subst hn hn'
    rw [hn2, hn3, hn4]
    have := of_calls_ok B c K B' c' C A2 A3 A4 c2 c3 c4 ins del rep sw unk W' (Kd.C_below kK hbw) (by omega) (Kd.C_below kC hbw) (fun l hl => by have := kl l hl; omega) (Kd.C_below hi hbw) hic (Kd.C_below hd hbw) hdc (Kd.C_below hr hbw) hrc (by omega) (by rw [ho])
    rw [ho] at this
    refine this.mono ?_
    rintro e w' ⟨v0, rfl, hR, hb'⟩
    obtain ⟨F, f, rfl, hl, hC⟩ := Kd.R_reads hR
    rw [hm] at hR ⊢
    exact ⟨F, f, rfl, ⟨hR⟩, hb'⟩
  have hP : tokB kinds conf = true → prB ins del rep 20 = true → ∀ W', Below wa.heap.size wa W' → Calls Try.prog 15 #[.slice A0 n0 c0, .slice A1 n1 c1, .agg #[.slice A2 n2 c2, .slice A3 n3 c3, .slice A4 n4 c4, .int .i64 sw, .int .i64 unk]] W' fun e w' =>
      ∃ v0 v1, e = .returned (.tuple #[.agg #[v0, v1, .int .i64 (ofT kinds conf ins del rep sw unk).2.2.1], .int .i64 (ofT kinds conf ins del rep sw unk).2.2.2]) ∧ Rd k51 w' v0 (ofT kinds conf ins del rep sw unk).1 ∧ Rd (Kd.int .i64) w' v1 (ofT kinds conf ins del rep sw unk).2.1 ∧ Below W'.heap.size W' w' := by
    intro f1 f2 W' h
    obtain ⟨a1, a2, a3⟩ := tokB_ok f1
    have b1 := prB_ok f2
    have hbw := below_step hb h
    rw [hn0, hn1, hn2, hn3, hn4]
    exact of_calls A0 c0 kinds A1 c1 conf A2 A3 A4 c2 c3 c4 ins del rep sw unk W' (Kd.C_below hk hbw) (by omega) (Kd.C_below hC hbw) (fun l hl => by have := a3 l hl; omega) (Kd.C_below hi hbw) hic (Kd.C_below hd hbw) hdc (Kd.C_below hr hbw) hrc (by omega)
  obtain ⟨kk, hkk⟩ : ∃ kk : Nat, a2.tmod ((n0 : Int) + 1) = kk := ⟨(a2.tmod ((n0 : Int) + 1)).toNat, by have := Int.tmod_nonneg (b := (n0 : Int) + 1) ha0; omega⟩
  have hkn : kk ≤ n0 := by have := Int.tmod_lt_of_pos a2 (show 0 < (n0 : Int) + 1 by omega); omega
  obtain ⟨i23, hi23, hz0, hz1, hz2⟩ := info_parts info3
  obtain ⟨i54, hi54, hz3, hz4, hz5⟩ := info_parts info54
  have cut1 := cut_to (P := Try.prog) 23 3 .i64 hu23 hi23 A0 n0 c0 (kk : Int) (by omega) (by omega) (by omega)
  have cut2 := cut_to (P := Try.prog) 29 54 .i64 hu29 hi54 A1 n0 c1 (kk : Int) (by omega) (by omega)
  have cut3 := cut_from (P := Try.prog) 23 3 .i64 hu23 hi23 1 hz1 A0 n0 c0 (kk : Int) (by omega) (by omega)
  have cut4 := cut_from (P := Try.prog) 29 54 .i64 hu29 hi54 1 hz4 A1 n0 c1 (kk : Int) (by omega) (by omega)
  rw [Int.toNat_natCast] at cut1 cut2 cut3 cut4
  have hT : tokB kinds conf = true → prB ins del rep 20 = true → n1 = n0 → (ofT kinds conf ins del rep sw unk).2.2.2 = 0 → ∀ W', Below wa.heap.size wa W' → Calls Try.prog 15 #[.slice A0 (kk) (c0), .slice A1 (kk) (c1), .agg #[.slice A2 n2 c2, .slice A3 n3 c3, .slice A4 n4 c4, .int .i64 sw, .int .i64 unk]] W' fun e w' =>
      ∃ F f, e = .returned (.tuple #[.agg #[.slice F (kk) f, .slice A2 n2 c2, .int .i64 sw], .int .i64 0]) ∧ Aside0 (Kd.R k51 51 w' W'.heap.size (fun _ => True) (.slice F (kk) f) ((ofT kinds conf ins del rep sw unk).1.take kk)) ∧ Below W'.heap.size W' w' := by
    intro f1 f2 e1 e2 W' h
    obtain ⟨a1, a2, a3⟩ := tokB_ok f1
    have hl : conf.length = kinds.length := by omega
    have h1 := Kd.C_take hk (m := kk) (by omega)
    have h2 := Kd.C_take hC (m := kk) (by omega)
    exact hO f2 (kinds.take kk) _ (c0) (conf.take kk) _ (c1) W' h h1 h2 (by simp; omega) (fun l hl => a3 l (List.mem_of_mem_take hl)) _ _ _ _ (ofT_take hl e2 kk) (by simp [ofT_len hl e2]; omega) (by simp; omega) (by simp; omega)
  have hD : tokB kinds conf = true → prB ins del rep 20 = true → n1 = n0 → (ofT kinds conf ins del rep sw unk).2.2.2 = 0 → ∀ W', Below wa.heap.size wa W' → Calls Try.prog 15 #[.slice (if c0 = kk then A0 else Option.map (fun x => x.add (kk * 1)) A0) (n0 - kk) (c0 - kk), .slice (if c1 = kk then A1 else Option.map (fun x => x.add (kk * 1)) A1) (n0 - kk) (c1 - kk), .agg #[.slice A2 n2 c2, .slice A3 n3 c3, .slice A4 n4 c4, .int .i64 sw, .int .i64 unk]] W' fun e w' =>
      ∃ F f, e = .returned (.tuple #[.agg #[.slice F (n0 - kk) f, .slice A2 n2 c2, .int .i64 sw], .int .i64 0]) ∧ Aside0 (Kd.R k51 51 w' W'.heap.size (fun _ => True) (.slice F (n0 - kk) f) ((ofT kinds conf ins del rep sw unk).1.drop kk)) ∧ Below W'.heap.size W' w' := by
    intro f1 f2 e1 e2 W' h
    obtain ⟨a1, a2, a3⟩ := tokB_ok f1
    have hl : conf.length = kinds.length := by omega
    have h1 := Kd.C_drop (c := c0) hk (m := kk) (by omega) (by omega)
    have h2 := Kd.C_drop (c := c1) hC (m := kk) (by omega) (by omega)
    exact hO f2 (kinds.drop kk) _ (c0 - kk) (conf.drop kk) _ (c1 - kk) W' h h1 h2 (by simp; omega) (fun l hl => a3 l (List.mem_of_mem_drop hl)) _ _ _ _ (ofT_drop hl e2 kk) (by simp [ofT_len hl e2]; omega) (by simp; omega) (by simp; omega)
  generalize (if c0 = kk then A0 else Option.map (fun x => x.add (kk * 1)) A0) = A0' at cut3 hD
  generalize (if c1 = kk then A1 else Option.map (fun x => x.add (kk * 1)) A1) = A1' at cut4 hD
  have hz : (ofT kinds conf ins del rep sw unk).2.2.2 ≠ 0 → _ := fun h => (ofT_none h).1
  have hlen : n1 = n0 → (ofT kinds conf ins del rep sw unk).2.2.2 = 0 → _ := fun e h => ofT_len (show conf.length = kinds.length by omega) h
  have hrow : prB ins del rep 20 = true → _ := fun f2 => (ofT_ok kinds conf ins del rep sw unk (prB_ok f2)).2.1
  rw [← hn0] at hlen
  have hc1 : n1 ≤ c1 := by omega
  have hn70 : tokB kinds conf = true → n0 ≤ 70 := fun f1 => by have := (tokB_ok f1).1; omega
  rw [← hn0, ← hn1] at hcall
  rw [← hn0, ← hn1, ← hn2, ← hn3, ← hn4]
  generalize ofT kinds conf ins del rep sw unk = rt at hP hT hD hz hlen hrow
  obtain ⟨o1, o2, o3, o4⟩ := rt
  dsimp only at hP hT hD hz hlen hrow
  generalize tokB kinds conf = f1 at hcall hP hT hD hn70
  generalize prB ins del rep 20 = f2 at hF hP hT hD hrow hO
  have HF := Aside0.mk hF
  have HP := Aside0.mk hP
  have HT := Aside0.mk hT
  have HD := Aside0.mk hD
  have HZ := Aside0.mk hz
  have HL := Aside0.mk hlen
  have HR := Aside0.mk hrow
  have HC1 := Aside0.mk hc1
  have HN70 := Aside0.mk hn70
  have HCU := Aside0.mk (And.intro cut1 (And.intro cut2 (And.intro cut3 cut4)))
  clear hb BA BB hk hkc hC hCc hi hic hd hdc hr hrc hk1 hk2 hn0 hn1 hn2 hn3 hn4 hF hP hT hD hO hz hlen hrow hi23 hz0 hz1 hz2 hi54 hz3 hz4 hz5 cut1 cut2 cut3 cut4 hc1 hn70
  go_enter Try.func5, Try.ntmps5
  cases f1
  · go_upto_region 1 with fail
    rw [← hwa, ← hbb]
    clear hwa hbb
    go_wp2_with fail
    (with_reducible refine hcall.mono ?_)
    rintro e w2 ⟨rfl, hd⟩
    have HB2 := Aside0.mk (below_step HB.out hd)
    have haw := awake_calls w2
    clear hcall hd p0 p1
    dsimp only
    go_wp2_with fail
    (with_reducible refine haw.mono ?_)
    rintro e w3 ⟨rfl, hb3⟩
    have HB3 := Aside0.mk (below_step HB2.out hb3)
    clear haw hb3
    dsimp only
    go_wp2_with fail
    go_ret
    exact ⟨rfl, HB3.out⟩
  · go_upto_region 1 with fail
    rw [← hwa, ← hbb]
    clear hwa hbb
    go_wp2_with fail
    (with_reducible refine hcall.mono ?_)
    rintro e w2 ⟨rfl, hd⟩
    have hcall2 := HF.out w2 hd
    have HB2 := Aside0.mk hd
    obtain ⟨q0, q1, q2, q3, q4⟩ := B5 HBB.out hd
    clear hcall hd p0 p1 HF
    dsimp only
    cases f2
    · go_wp2_with fail
      (with_reducible refine hcall2.mono ?_)
      rintro e w3 ⟨rfl, hd⟩
      have HB3 := Aside0.mk (below_step HB.out (below_step HB2.out hd))
      have haw := awake_calls w3
      clear hcall2 hd HB2 q0 q1 q2 q3 q4
      dsimp only
      go_wp2_with fail
      (with_reducible refine haw.mono ?_)
      rintro e w4 ⟨rfl, hb3⟩
      have HB4 := Aside0.mk (below_step HB3.out hb3)
      clear haw hb3
      dsimp only
      go_wp2_with fail
      go_ret
      exact ⟨rfl, HB4.out⟩
    · by_cases hnn : n1 = n0
      · subst hnn
        have e1 : ((n1 : Int) != (n1 : Int)) = false := by simp
        obtain ⟨p0, p1⟩ := B2 HBA.out HB2.out
        go_wp2_with fail
        (with_reducible refine hcall2.mono ?_)
        rintro e w3 ⟨rfl, hd⟩
        have hd3 := below_step HB2.out hd
        have HB3 := Aside0.mk hd3
        have hcall := HP.out trivial trivial w3 hd3
        obtain ⟨p0, p1⟩ := B2 HBA.out hd3
        obtain ⟨q0, q1, q2, q3, q4⟩ := B5 HBB.out hd3
        clear hcall2 hd hd3 HB2 HP
        dsimp only
        go_wp2_with fail
        (with_reducible refine hcall.mono ?_)
        rintro e w4 ⟨v0, v1, rfl, hR0, hR1, hd⟩
        obtain ⟨E0, d0, rfl, l0, C0⟩ := hR0
        obtain ⟨E1, d1, rfl, l1, C1⟩ := hR1
        have hd4 := below_step HB3.out hd
        have HB4 := Aside0.mk hd4
        have HR0 := Aside0.mk (And.intro C0 l0)
        obtain ⟨m0, hm0⟩ : ∃ m0, m0 = o1.length := ⟨_, rfl⟩
        obtain ⟨m1, hm1⟩ : ∃ m1, m1 = o2.length := ⟨_, rfl⟩
        rw [← hm0, ← hm1]
        have HM := Aside0.mk hm0
        have HN := Aside0.mk (nb25 w4 (.slice E0 m0 d0) (.slice E1 m1 d1) (.int .i64 o3))
        clear hcall hd hd4 p0 p1 q0 q1 q2 q3 q4 HB3 C0 C1 l0 l1 hm0 hm1
        dsimp only
        go_upto_region 4 with fail
        obtain ⟨w5, hw5⟩ : ∃ w5 : World, w5 = w4.alloc (Obj.cells #[.slice E0 m0 d0, .slice E1 m1 d1, .int .i64 o3] 25) := ⟨_, rfl⟩
        obtain ⟨g, hg⟩ : ∃ g, g = w4.heap.size := ⟨_, rfl⟩
        rw [← hw5, ← hg]
        obtain ⟨BG, hd⟩ := HN.out
        rw [← hw5] at BG hd
        rw [← hg] at BG
        have HBG := Aside0.mk BG
        have hd5 := below_step HB4.out hd
        have HB5 := Aside0.mk hd5
        have HR05 := Aside0.mk (And.intro (Kd.C_below HR0.out.1 hd) HR0.out.2)
        obtain ⟨_, g0, g1, g2⟩ := B3 BG (Below.refl _ _)
        obtain ⟨p0, p1⟩ := B2 HBA.out hd5
        obtain ⟨q0, q1, q2, q3, q4⟩ := B5 HBB.out hd5
        clear hw5 hg hd BG HB4 hd5 HR0 HN
        by_cases ho : o4 = 0
        · subst ho
          have hml := HL.out (by trivial) (by trivial)
          obtain ⟨cut1, cut2, cut3, cut4⟩ := HCU.out
          replace cut2 := cut2 HC1.out
          have hn71 := HN70.out trivial
          clear HZ HL HN70 HCU
          go_upto_region 7 with fail
          clear p0 p1 q0 q1 q2 q3 q4 g0 g1 g2
          have HST := Aside0.mk (show ∀ w' w2, BxT b (.slice A0 n1 c0) (.slice A1 n1 c1) (.slice A2 n2 c2) (.slice A3 n3 c3) (.slice A4 n4 c4) (.int .i64 sw) (.int .i64 unk) w5 w' → Below w'.heap.size w' w2 → BxT b (.slice A0 n1 c0) (.slice A1 n1 c1) (.slice A2 n2 c2) (.slice A3 n3 c3) (.slice A4 n4 c4) (.int .i64 sw) (.int .i64 unk) w5 w2 from fun w' w2 h hb => BxT.of HBA.out HBB.out HB5.out (below_step h.2.2.2.2.2.2.2.out hb))
          have HSL := Aside0.mk (show ∀ w' w2, BxT b (.slice A0 n1 c0) (.slice A1 n1 c1) (.slice A2 n2 c2) (.slice A3 n3 c3) (.slice A4 n4 c4) (.int .i64 sw) (.int .i64 unk) w5 w' → Below w'.heap.size w' w2 → Aside0 (Below w5.heap.size w5 w2) from fun w' w2 h hb => ⟨below_step h.2.2.2.2.2.2.2.out hb⟩)
          have HSS := Aside0.mk (show ∀ w' p u, p.block = w5.heap.size → BxT b (.slice A0 n1 c0) (.slice A1 n1 c1) (.slice A2 n2 c2) (.slice A3 n3 c3) (.slice A4 n4 c4) (.int .i64 sw) (.int .i64 unk) w5 w' → BxT b (.slice A0 n1 c0) (.slice A1 n1 c1) (.slice A2 n2 c2) (.slice A3 n3 c3) (.slice A4 n4 c4) (.int .i64 sw) (.int .i64 unk) w5 (w'.setCell p u) from fun w' p u hp h => BxT.set HBA.out HBB.out HB5.out h p u hp)
          have HTC := Aside0.mk (show ∀ w', BxT b (.slice A0 n1 c0) (.slice A1 n1 c1) (.slice A2 n2 c2) (.slice A3 n3 c3) (.slice A4 n4 c4) (.int .i64 sw) (.int .i64 unk) w5 w' → _ from fun w' h => HT.out (by trivial) (by trivial) (by trivial) (by trivial) w' (below_step HB5.out h.2.2.2.2.2.2.2.out))
          have HZB := Aside0.mk (show ∀ w', Below (w5.drew.alloc (Obj.cells #[.slice none 0 0, .slice none 0 0, .int .i64 0] 25)).heap.size (w5.drew.alloc (Obj.cells #[.slice none 0 0, .slice none 0 0, .int .i64 0] 25)) w' → w'.heap[w5.heap.size]? = some (.cells #[.slice none 0 0, .slice none 0 0, .int .i64 0] 25 (0, 0)) from fun w' hb => blk_Kp (S := fun _ => False) (nb25 w5.drew _ _ _).1 (Kp.of_below hb) (fun h => h))
          have HS := BxT.of HBA.out HBB.out HB5.out (Below.refl w5.heap.size w5)
          unfold BxT at HS
          go_cut [10, 11] from 57 to 69 (fun sa sb wx => ∃ h F f, sa = .pointer (some ⟨h, 0, none⟩) ∧ sb = .int .i64 0 ∧ BoxR w5 wx h F f (kk) A2 n2 c2 sw (o1.take kk))
          case first =>
            go_region_held3 (fun w' => w'.cell? ⟨b, 0, none⟩ = some (.slice A0 n1 c0) ∧ w'.cell? ⟨b, 1, none⟩ = some (.slice A1 n1 c1) ∧ w'.cell? ⟨b + 1, 0, none⟩ = some (.slice A2 n2 c2) ∧ w'.cell? ⟨b + 1, 1, none⟩ = some (.slice A3 n3 c3) ∧ w'.cell? ⟨b + 1, 2, none⟩ = some (.slice A4 n4 c4) ∧ w'.cell? ⟨b + 1, 3, none⟩ = some (.int .i64 sw) ∧ w'.cell? ⟨b + 1, 4, none⟩ = some (.int .i64 unk) ∧ Aside0 (Below w5.heap.size w5 w'))
              (first | exact HST.out _ _ (by assumption) (below_drew1 (Below.refl _ _)) | exact HST.out _ _ (by assumption) (by assumption) | exact HST.out _ _ (by assumption) (below_alloc (Below.refl _ _) _) | exact BxT.of HBA.out HBB.out HB5.out (below_alloc HBN.out _) | exact HSS.out _ _ _ rfl (HSS.out _ _ _ rfl (HSS.out _ _ _ rfl (by assumption))))
              ((first | (go_at_call 15; refine (HTC.out _ ?c1).mono ?_; (case c1 => assumption); rintro e wn ⟨F, f, rfl, HFR, hbn⟩; have HBN := HSL.out _ _ (by assumption) hbn; (try (have hzb := HZB.out wn hbn; have z0 := cell_of_block hzb 0 _ rfl; have z1 := cell_of_block hzb 1 _ rfl; have z2 := cell_of_block hzb 2 _ rfl; have y0 := blk_frozen hzb 0; have y1 := blk_frozen hzb 1; have y2 := blk_frozen hzb 2; have HZ5 := Aside0.mk hzb; clear hzb)))))
            all_goals (go_wp2_with fail; go_meet)
            all_goals first
              | exact ⟨_, _, _, rfl, rfl, BoxR.below (BoxR.late HFR.out HBN.out) (by first | exact Below.refl _ _ | exact below_drew1 (Below.refl _ _))⟩
              | exact ⟨_, _, _, rfl, rfl, BoxR.below (BoxR.early HFR.out HBN.out (by simp) HZ5.out) (by first | exact Below.refl _ _ | exact below_drew1 (Below.refl _ _))⟩
          case rest =>
            obtain ⟨h, F, f, rfl, rfl, hX⟩ := hcut
            obtain ⟨w6, hw6⟩ : ∃ w6, w6 = wc := ⟨_, rfl⟩
            rw [← hw6] at hX ⊢
            have HX6 := Aside0.mk hX
            have HB6 := Aside0.mk (below_step HB5.out hX.2.2)
            have HG6 := Aside0.mk (B3 HBG.out hX.2.2).1
            have HR06 := Aside0.mk (And.intro (Kd.C_below HR05.out.1 hX.2.2) HR05.out.2)
            clear hw6 hX HT HTC HST HSS HSL HZB HBG HR05 HS cut1 cut2
            go_upto_region 8 with fail
            have HST := Aside0.mk (show ∀ w' w2, BxT b (.slice A0 n1 c0) (.slice A1 n1 c1) (.slice A2 n2 c2) (.slice A3 n3 c3) (.slice A4 n4 c4) (.int .i64 sw) (.int .i64 unk) w6 w' → Below w'.heap.size w' w2 → BxT b (.slice A0 n1 c0) (.slice A1 n1 c1) (.slice A2 n2 c2) (.slice A3 n3 c3) (.slice A4 n4 c4) (.int .i64 sw) (.int .i64 unk) w6 w2 from fun w' w2 h hb => BxT.of HBA.out HBB.out HB6.out (below_step h.2.2.2.2.2.2.2.out hb))
            have HSL := Aside0.mk (show ∀ w' w2, BxT b (.slice A0 n1 c0) (.slice A1 n1 c1) (.slice A2 n2 c2) (.slice A3 n3 c3) (.slice A4 n4 c4) (.int .i64 sw) (.int .i64 unk) w6 w' → Below w'.heap.size w' w2 → Aside0 (Below w6.heap.size w6 w2) from fun w' w2 h hb => ⟨below_step h.2.2.2.2.2.2.2.out hb⟩)
            have HSS := Aside0.mk (show ∀ w' p u, p.block = w6.heap.size → BxT b (.slice A0 n1 c0) (.slice A1 n1 c1) (.slice A2 n2 c2) (.slice A3 n3 c3) (.slice A4 n4 c4) (.int .i64 sw) (.int .i64 unk) w6 w' → BxT b (.slice A0 n1 c0) (.slice A1 n1 c1) (.slice A2 n2 c2) (.slice A3 n3 c3) (.slice A4 n4 c4) (.int .i64 sw) (.int .i64 unk) w6 (w'.setCell p u) from fun w' p u hp h => BxT.set HBA.out HBB.out HB6.out h p u hp)
            have HTC := Aside0.mk (show ∀ w', BxT b (.slice A0 n1 c0) (.slice A1 n1 c1) (.slice A2 n2 c2) (.slice A3 n3 c3) (.slice A4 n4 c4) (.int .i64 sw) (.int .i64 unk) w6 w' → _ from fun w' h => HD.out (by trivial) (by trivial) (by trivial) (by trivial) w' (below_step HB6.out h.2.2.2.2.2.2.2.out))
            have HZB := Aside0.mk (show ∀ w', Below (w6.drew.alloc (Obj.cells #[.slice none 0 0, .slice none 0 0, .int .i64 0] 25)).heap.size (w6.drew.alloc (Obj.cells #[.slice none 0 0, .slice none 0 0, .int .i64 0] 25)) w' → w'.heap[w6.heap.size]? = some (.cells #[.slice none 0 0, .slice none 0 0, .int .i64 0] 25 (0, 0)) from fun w' hb => blk_Kp (S := fun _ => False) (nb25 w6.drew _ _ _).1 (Kp.of_below hb) (fun h => h))
            have HS := BxT.of HBA.out HBB.out HB6.out (Below.refl w6.heap.size w6)
            unfold BxT at HS
            go_cut [12, 13] from 70 to 82 (fun sa sb wx => ∃ h F f, sa = .pointer (some ⟨h, 0, none⟩) ∧ sb = .int .i64 0 ∧ BoxR w6 wx h F f (n1 - kk) A2 n2 c2 sw (o1.drop kk))
            case first =>
              go_region_held3 (fun w' => w'.cell? ⟨b, 0, none⟩ = some (.slice A0 n1 c0) ∧ w'.cell? ⟨b, 1, none⟩ = some (.slice A1 n1 c1) ∧ w'.cell? ⟨b + 1, 0, none⟩ = some (.slice A2 n2 c2) ∧ w'.cell? ⟨b + 1, 1, none⟩ = some (.slice A3 n3 c3) ∧ w'.cell? ⟨b + 1, 2, none⟩ = some (.slice A4 n4 c4) ∧ w'.cell? ⟨b + 1, 3, none⟩ = some (.int .i64 sw) ∧ w'.cell? ⟨b + 1, 4, none⟩ = some (.int .i64 unk) ∧ Aside0 (Below w6.heap.size w6 w'))
                (first | exact HST.out _ _ (by assumption) (below_drew1 (Below.refl _ _)) | exact HST.out _ _ (by assumption) (by assumption) | exact HST.out _ _ (by assumption) (below_alloc (Below.refl _ _) _) | exact BxT.of HBA.out HBB.out HB6.out (below_alloc HBN.out _) | exact HSS.out _ _ _ rfl (HSS.out _ _ _ rfl (HSS.out _ _ _ rfl (by assumption))))
                ((first | (go_at_call 15; refine (HTC.out _ ?c1).mono ?_; (case c1 => assumption); rintro e wn ⟨F, f, rfl, HFR, hbn⟩; have HBN := HSL.out _ _ (by assumption) hbn; (try (have hzb := HZB.out wn hbn; have z0 := cell_of_block hzb 0 _ rfl; have z1 := cell_of_block hzb 1 _ rfl; have z2 := cell_of_block hzb 2 _ rfl; have y0 := blk_frozen hzb 0; have y1 := blk_frozen hzb 1; have y2 := blk_frozen hzb 2; have HZ5 := Aside0.mk hzb; clear hzb)))))
              all_goals (go_wp2_with fail; go_meet)
              all_goals first
                | exact ⟨_, _, _, rfl, rfl, BoxR.below (BoxR.late HFR.out HBN.out) (by first | exact Below.refl _ _ | exact below_drew1 (Below.refl _ _))⟩
                | exact ⟨_, _, _, rfl, rfl, BoxR.below (BoxR.early HFR.out HBN.out (by simp) HZ5.out) (by first | exact Below.refl _ _ | exact below_drew1 (Below.refl _ _))⟩
            case rest =>
              obtain ⟨i, L, l, rfl, rfl, hX⟩ := hcut
              obtain ⟨w7, hw7⟩ : ∃ w7, w7 = wc := ⟨_, rfl⟩
              rw [← hw7] at hX ⊢
              have HX7 := Aside0.mk hX
              have HY7 := Aside0.mk (BoxR.below HX6.out hX.2.2)
              have HB7 := Aside0.mk (below_step HB6.out hX.2.2)
              have HG7 := Aside0.mk (B3 HG6.out hX.2.2).1
              have HR07 := Aside0.mk (And.intro (Kd.C_below HR06.out.1 hX.2.2) HR06.out.2)
              clear hw7 hX HD HTC HST HSS HSL HZB HX6 HG6 HR06 HS cut3 cut4
              have HT9 := Aside0.mk (show (Kd.fixed k51 w7).C w7 F kk (o1.take kk) from HY7.out.2.1.1)
              have HD9 := Aside0.mk (show (Kd.fixed k51 w7).C w7 L (n1 - kk) (o1.drop kk) from HX7.out.2.1.1)
              have hlt : (o1.take kk).length = kk := by rw [List.length_take]; omega
              have HLT := Aside0.mk (And.intro hlt (show kk + (n1 - kk) ≤ 1000 by omega))
              have HRD := Aside0.mk (show ∀ v w', Kd.R (Kd.fixed k51 w7) 51 w' w7.heap.size (fun _ => True) v (([] ++ o1.take kk) ++ o1.drop kk) → Below w7.heap.size w7 w' → ∃ A c, v = .slice A n1 c ∧ Aside0 (Kd.C k51 w' A n1 o1 ∧ n1 ≤ c) by
                intro v w' hR hb
                rw [List.nil_append, List.take_append_drop] at hR
                obtain ⟨A, c, e, x⟩ := rdK (Rd_fixed hR hb) hml
                exact ⟨A, c, e, ⟨x⟩⟩)
              have HSC := Aside0.mk (show ∀ W' A c, Below w7.heap.size w7 W' → Kd.C k51 W' A n1 o1 → n1 ≤ c → Calls Try.prog 18 #[.slice E0 m0 d0, .slice A n1 c] W' fun e w' => e = .returned (.bool true) ∧ Below W'.heap.size W' w' by
                intro W' A c hb hC hc
                obtain ⟨kq, hkq⟩ := sameC_ex o1 o1 (by omega) (fun x hx => by have := HR.out trivial x hx; omega)
                rw [eqC_refl] at hkq
                have h0 := Kd.C_below HR07.out.1 hb
                have := emendateref35_SameColumns.calls kq E0 d0 o1 A c o1 true W' h0 HR07.out.2 (by rw [hml]; exact hC) (by rw [hml]; exact hc) hkq
                rw [hml] at this
                rw [show m0 = n1 from HM.out.trans hml]
                exact this)
              have HLOW := Aside0.mk (show ∀ w', BgT g h i (.slice E0 m0 d0) (.slice F kk f) (.slice L (n1 - kk) l) w7 w' → Below w7.heap.size w7 w' from fun w' h => h.2.2.2.out)
              have HMK := Aside0.mk (show ∀ w', Below w7.heap.size w7 w' → BgT g h i (.slice E0 m0 d0) (.slice F kk f) (.slice L (n1 - kk) l) w7 w' from fun w' hb => BgT.of HG7.out HY7.out.1 HX7.out.1 hb)
              have HST := Aside0.mk (show ∀ w' w2, BgT g h i (.slice E0 m0 d0) (.slice F kk f) (.slice L (n1 - kk) l) w7 w' → Below w'.heap.size w' w2 → BgT g h i (.slice E0 m0 d0) (.slice F kk f) (.slice L (n1 - kk) l) w7 w2 from fun w' w2 h hb => BgT.of HG7.out HY7.out.1 HX7.out.1 (below_step h.2.2.2.out hb))
              have HS := HMK.out w7 (Below.refl _ _)
              unfold BgT at HS
              clear hlt hml hkk hkn hn71
              go_upto_region 9 with fail
              go_region_held3 (fun w' => w'.cell? ⟨g, 0, none⟩ = some (.slice E0 m0 d0) ∧ w'.cell? ⟨h, 0, none⟩ = some (.slice F kk f) ∧ w'.cell? ⟨i, 0, none⟩ = some (.slice L (n1 - kk) l) ∧ Aside0 (Below w7.heap.size w7 w'))
                (first | exact HMK.out _ (by assumption) | exact HST.out _ _ (by assumption) (below_drew1 (Below.refl _ _)) | exact HST.out _ _ (by assumption) (by assumption) | exact HST.out _ _ (by assumption) (below_alloc (Below.refl _ _) _) | assumption)
                ((first | (go_at_call 10; refine (awake_calls _).mono ?_; rintro e wA ⟨rfl, hbA⟩; have HAL := Aside0.mk (show w7.heap.size ≤ wA.heap.size from hbA.size)) | (refine app_gen k51 (W0 := w7) (wb := w7) 22 51 (.agg #[.int .i64 0, .slice none 0 0, .int .i64 0]) 40 Try.underlying22 info51 rfl (by decide) (by decide) (by decide) (by rfl) (.tmp 95) (.tmp 97) rfl (.slice (some ⟨wA.heap.size, 0, none⟩) 0 0) [] (o1.take kk) F kk f (by rfl) (by rfl) ?hR1 HT9.out ?hB1 (by have := HLT.out; simp; omega) ?_; (case hR1 => exact R_none k51 51 _ HAL.out); (case hB1 => exact HLOW.out _ (by assumption)); intro v1 w1 hR1 hb1) | (refine app_gen k51 (W0 := w7) (wb := w7) 22 51 (.agg #[.int .i64 0, .slice none 0 0, .int .i64 0]) 40 Try.underlying22 info51 rfl (by decide) (by decide) (by decide) (by rfl) (.tmp 98) (.tmp 100) rfl v1 ([] ++ o1.take kk) (o1.drop kk) L (n1 - kk) l (by rfl) (by rfl) ?hR2 HD9.out ?hB2 (by have := HLT.out; simp; omega) ?_; (case hR2 => exact hR1); (case hB2 => exact HLOW.out _ (by assumption)); intro v2 w2' hR2 hb2; (obtain ⟨A6, c6, rfl, HC6⟩ := HRD.out v2 w2' hR2 hb2)) | (go_at_call 18; refine (HSC.out _ A6 c6 ?c3 HC6.out.1 HC6.out.2).mono ?_; (case c3 => assumption); rintro e wS ⟨rfl, hbS⟩; have HBS := Aside0.mk hbS)))
              go_wp2_with fail
              go_ret
              exact ⟨rfl, below_step HB.out (below_step HB7.out (HLOW.out _ (by assumption)))⟩
        · have ho1 : decide (o4 = 0) = false := by simp [ho]
          have ho2 : (o4 != 0) = true := by simp [ho]
          have ho3 : (o4 == 0) = false := by simp [ho]
          have hm : m0 = 0 := by rw [HM.out, HZ.out ho]; rfl
          subst hm
          have haw := awake_calls w5
          clear p0 p1 q0 q1 q2 q3 q4 g0 g1 g2
          go_wp2_with fail
          (with_reducible refine haw.mono ?_)
          rintro e w6 ⟨rfl, hd⟩
          obtain ⟨_, g0, g1, g2⟩ := B3 HBG.out hd
          have HB6 := Aside0.mk (below_step HB5.out hd)
          clear haw hd
          dsimp only
          go_wp2_with fail
          go_ret
          exact ⟨rfl, below_step HB.out HB6.out⟩
      · have e1 : ((n1 : Int) != (n0 : Int)) = true := by simp; omega
        go_wp2_with fail
        (with_reducible refine hcall2.mono ?_)
        rintro e w3 ⟨rfl, hd⟩
        have hd3 := below_step HB2.out hd
        obtain ⟨p0, p1⟩ := B2 HBA.out hd3
        have HB3 := Aside0.mk (below_step HB.out hd3)
        have haw := awake_calls w3
        clear hcall2 hd HB2 q0 q1 q2 q3 q4 hd3
        dsimp only
        go_wp2_with fail
        (with_reducible refine haw.mono ?_)
        rintro e w4 ⟨rfl, hb3⟩
        have HB4 := Aside0.mk (below_step HB3.out hb3)
        clear haw hb3
        dsimp only
        go_wp2_with fail
        go_ret
        exact ⟨rfl, HB4.out⟩
end Go.Proofs.Ytcigcacjjdpgfaa.Hand
