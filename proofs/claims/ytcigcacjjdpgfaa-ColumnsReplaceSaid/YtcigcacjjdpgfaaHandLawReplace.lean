import Derived.Test.YtcigcacjjdpgfaaHandBox
import Derived.Test.YtcigcacjjdpgfaaHandG5
/- The law ColumnsReplace returns true: by hand. -/
namespace Go.Proofs.Ytcigcacjjdpgfaa.Hand
open Go.RowKit Go.Proofs.YtcigcacjjdpgfaaW.PrintWords Go.Proofs.YtcigcacjjdpgfaaW.PrintLast Go.Proofs.YtcigcacjjdpgfaaW.PrintMore Go.Proofs.Ytcigcacjjdpgfaa.PA
set_option linter.unusedVariables false
set_option linter.unusedSimpArgs false
theorem fewB_ok {xs : List S51} {ins : List Int} (h : fewB xs ins 70 20 = true) : xs.length ≤ 70 ∧ ins.length ≤ 20 ∧ ∀ c ∈ xs, c.f1.length ≤ 20 := by
  simp only [fewB, Bool.and_eq_true, decide_eq_true_eq, List.all_eq_true] at h
  exact ⟨by omega, by omega, fun c hc => by have := h.2 c hc; omega⟩
/-- What Replace answers is small, and valid where no error is told. -/
theorem repT_ok (xs : List S51) (ins : List Int) (sw fr old nw : Int) (ls : List S51) (h1 : fewB xs ins 70 20 = true) (h2 : fewB ls [] 70 20 = true) :
    (repT xs ins sw fr old nw ls).1.length ≤ 1000000 ∧ (∀ c ∈ (repT xs ins sw fr old nw ls).1, c.f1.length ≤ 1000000) ∧ (repT xs ins sw fr old nw ls).2.1.length ≤ 1000000 ∧
    ((repT xs ins sw fr old nw ls).2.2.2 = 0 → validB (repT xs ins sw fr old nw ls).1 (repT xs ins sw fr old nw ls).2.1 (repT xs ins sw fr old nw ls).2.2.1 ins.length = true) := by
  obtain ⟨a1, a2, a3⟩ := fewB_ok h1
  obtain ⟨b1, b2, b3⟩ := fewB_ok h2
  unfold repT
  by_cases h : validB xs ins sw ins.length = true ∧ ls.all (vcB ins.length) = true ∧ (ls.length : Int) = nw
  · rw [if_pos h]
    by_cases h3 : fr < 0 ∨ old < 0 ∨ fr > xs.length ∨ old > xs.length - fr
    · rw [if_pos h3]
      exact ⟨by simp, by simp, by simp, by simp⟩
    · rw [if_neg h3]
      by_cases h4 : (xs.length : Int) - old + ls.length > 60
      · rw [if_pos h4]
        exact ⟨by simp, by simp, by simp, by simp⟩
      · rw [if_neg h4]
        obtain ⟨g1, g2, g3⟩ := h
        simp only [validB, Bool.and_eq_true, decide_eq_true_eq, List.all_eq_true] at g1 g2
        have hlen : (xs.take fr.toNat ++ ls ++ xs.drop (fr.toNat + old.toNat)).length ≤ 60 := by
          simp only [List.length_append, List.length_take, List.length_drop]
          omega
        have hm : ∀ c ∈ xs.take fr.toNat ++ ls ++ xs.drop (fr.toNat + old.toNat), c ∈ xs ∨ c ∈ ls := by
          intro c hc
          rcases List.mem_append.1 hc with hc | hc
          · rcases List.mem_append.1 hc with hc | hc
            · exact .inl (List.mem_of_mem_take hc)
            · exact .inr hc
          · exact .inl (List.mem_of_mem_drop hc)
        refine ⟨by simp only; omega, fun c hc => ?_, by simp only; omega, fun _ => ?_⟩
        · rcases hm c hc with hc | hc
          · have := a3 c hc; omega
          · have := b3 c hc; omega
        · simp only [validB, Bool.and_eq_true, decide_eq_true_eq, List.all_eq_true]
          refine ⟨⟨⟨⟨g1.1.1.1.1, hlen⟩, trivial⟩, g1.1.2⟩, g1.2.1, fun c hc => ?_⟩
          rcases hm c hc with hc | hc
          · exact g1.2.2 c hc
          · exact g2 c hc
  · rw [if_neg h]
    exact ⟨by simp, by simp, by simp, by simp⟩
set_option maxHeartbeats 4000000 in
set_option maxRecDepth 100000 in
theorem lawReplace_calls (A0 : Option Addr) (c0 : Nat) (xs : List S51) (A1 : Option Addr) (c1 : Nat) (ins : List Int) (sw fr old nw : Int) (A2 : Option Addr) (c2 : Nat) (ls : List S51) (w : World) (hx : Kd.C k51 w A0 xs.length xs) (hxc : xs.length ≤ c0) (hi : Kd.C (Kd.int .i64) w A1 ins.length ins) (hic : ins.length ≤ c1) (hl : Kd.C k51 w A2 ls.length ls) (hlc : ls.length ≤ c2) :
    Calls Try.prog 6 #[.agg #[.slice A0 xs.length c0, .slice A1 ins.length c1, .int .i64 sw], .agg #[.int .i64 fr, .int .i64 old, .int .i64 nw], .slice A2 ls.length c2] w fun e w' => e = .returned (.bool true) ∧ Below w.heap.size w w' := by
  have hu25 := Try.underlying25
  have hu45 := Try.underlying45
  have hu38 := Try.underlying38
  obtain ⟨k, hk⟩ := few_ex xs ins sw 70 20 (by omega)
  obtain ⟨k', hk'⟩ := few_ex ls [] 0 70 20 (by omega)
  obtain ⟨n0, hn0⟩ : ∃ n0, n0 = xs.length := ⟨_, rfl⟩
  obtain ⟨n1, hn1⟩ : ∃ n1, n1 = ins.length := ⟨_, rfl⟩
  obtain ⟨n2, hn2⟩ : ∃ n2, n2 = ls.length := ⟨_, rfl⟩
  obtain ⟨wa, hwa⟩ : ∃ wa : World, wa = (w.alloc (Obj.cells #[.slice A0 n0 c0, .slice A1 n1 c1, .int .i64 sw] 25)).alloc (Obj.cells #[.int .i64 fr, .int .i64 old, .int .i64 nw] 45) := ⟨_, rfl⟩
  obtain ⟨b, hbb⟩ : ∃ b, b = w.heap.size := ⟨_, rfl⟩
  have hb : Below w.heap.size w wa := by rw [hwa]; exact below_alloc (below_alloc (Below.refl _ _) _) _
  have BA : wa.heap[b]? = some (Obj.cells #[.slice A0 n0 c0, .slice A1 n1 c1, .int .i64 sw] 25 (0, 0)) := by rw [hwa]; exact blk_old (blk_new hbb)
  have BB : wa.heap[b + 1]? = some (Obj.cells #[.int .i64 fr, .int .i64 old, .int .i64 nw] 45 (0, 0)) := by rw [hwa]; exact blk_new (by rw [hbb]; simp)
  obtain ⟨_, p0, p1, p2⟩ := B3 BA (Below.refl _ _)
  have hcall := emendateref35_Few.calls k A0 c0 xs A1 c1 ins sw 70 20 _ wa (Kd.C_below hx hb) hxc (Kd.C_below hi hb) hic hk
  have HB := Aside0.mk hb
  have HBA := Aside0.mk BA
  have HBB := Aside0.mk BB
  have hF : ∀ W', Below wa.heap.size wa W' → Calls Try.prog 9 #[.agg #[.slice A2 n2 c2, .slice none 0 0, .int .i64 0], .int .i64 70, .int .i64 20] W' fun e w' => e = .returned (.bool (fewB ls [] 70 20)) ∧ Below W'.heap.size W' w' := by
    intro W' h
    have hbw := below_step hb h
    rw [hn2]
    exact emendateref35_Few.calls k' A2 c2 ls none 0 [] 0 70 20 _ W' (Kd.C_below hl hbw) hlc (Kd.C_nil _ _) (Nat.le_refl _) hk'
  have hP : fewB xs ins 70 20 = true → fewB ls [] 70 20 = true → ∀ W', Below wa.heap.size wa W' → Calls Try.prog 19 #[.agg #[.slice A0 n0 c0, .slice A1 n1 c1, .int .i64 sw], .agg #[.int .i64 fr, .int .i64 old, .int .i64 nw], .slice A2 n2 c2] W' fun e w' =>
      ∃ v0 v1, e = .returned (.tuple #[.agg #[v0, v1, .int .i64 (repT xs ins sw fr old nw ls).2.2.1], .int .i64 (repT xs ins sw fr old nw ls).2.2.2]) ∧ Rd k51 w' v0 (repT xs ins sw fr old nw ls).1 ∧ Rd (Kd.int .i64) w' v1 (repT xs ins sw fr old nw ls).2.1 ∧ Below W'.heap.size W' w' := by
    intro f1 f2 W' h
    obtain ⟨a1, a2, a3⟩ := fewB_ok f1
    obtain ⟨b1, b2, b3⟩ := fewB_ok f2
    have hbw := below_step hb h
    rw [hn0, hn1, hn2]
    exact replace_calls A0 c0 xs A1 c1 ins sw fr old nw A2 c2 ls W' (Kd.C_below hx hbw) hxc (Kd.C_below hi hbw) hic (Kd.C_below hl hbw) hlc (by omega) (by omega)
  have hQ : fewB xs ins 70 20 = true → fewB ls [] 70 20 = true → ∀ W', Below wa.heap.size wa W' → Calls Try.prog 20 #[.agg #[.slice A0 n0 c0, .slice A1 n1 c1, .int .i64 sw], .agg #[.int .i64 fr, .int .i64 old, .int .i64 nw], .slice A2 n2 c2] W' fun e w' =>
      ∃ v0 v1, e = .returned (.tuple #[.agg #[v0, v1, .int .i64 (repT xs ins sw fr old nw ls).2.2.1], .int .i64 (repT xs ins sw fr old nw ls).2.2.2]) ∧ Rd k51 w' v0 (repT xs ins sw fr old nw ls).1 ∧ Rd (Kd.int .i64) w' v1 (repT xs ins sw fr old nw ls).2.1 ∧ Below W'.heap.size W' w' := by
    intro f1 f2 W' h
    obtain ⟨a1, a2, a3⟩ := fewB_ok f1
    obtain ⟨b1, b2, b3⟩ := fewB_ok f2
    have hbw := below_step hb h
    rw [hn0, hn1, hn2]
    exact rreplace_calls A0 c0 xs A1 c1 ins sw fr old nw A2 c2 ls W' (Kd.C_below hx hbw) hxc (Kd.C_below hi hbw) hic (Kd.C_below hl hbw) hlc (by omega) (by omega) (fun c hc => by have := a3 c hc; omega) (fun c hc => by have := b3 c hc; omega) (by omega)
  have hok := repT_ok xs ins sw fr old nw ls
  have hn1' : (ins.length : Int) = n1 := by omega
  rw [hn1'] at hok
  rw [← hn0, ← hn1] at hcall
  rw [← hn0, ← hn1, ← hn2]
  generalize repT xs ins sw fr old nw ls = rt at hP hQ hok
  obtain ⟨o1, o2, o3, o4⟩ := rt
  dsimp only at hP hQ hok
  generalize fewB xs ins 70 20 = f1 at hcall hP hQ hok
  generalize fewB ls [] 70 20 = f2 at hF hP hQ hok
  have HF := Aside0.mk hF
  have HP := Aside0.mk hP
  have HQ := Aside0.mk hQ
  have HO := Aside0.mk hok
  clear hb BA BB hx hxc hi hic hl hlc hk hk' hn0 hn1 hn2 hn1' hF hP hQ hok
  go_enter Try.func6, Try.ntmps6
  cases f1
  · go_upto_region 1 with fail
    rw [← hwa, ← hbb]
    clear hwa hbb
    go_wp2_with fail
    (with_reducible refine hcall.mono ?_)
    rintro e w2 ⟨rfl, hd⟩
    have HB2 := Aside0.mk (below_step HB.out hd)
    have haw := awake_calls w2
    clear hcall hd p0 p1 p2
    dsimp only
    go_wp2_with fail
    (with_reducible refine haw.mono ?_)
    rintro e w3 ⟨rfl, hb3⟩
    have HB3 := Aside0.mk (below_step HB2.out hb3)
    clear haw hb3
    dsimp only
    go_wp2_with fail
    go_ret
    exact ⟨rfl, HB3.out⟩
  · go_upto_region 1 with fail
    rw [← hwa, ← hbb]
    clear hwa hbb
    go_wp2_with fail
    (with_reducible refine hcall.mono ?_)
    rintro e w2 ⟨rfl, hd⟩
    have hcall2 := HF.out w2 hd
    have HB2 := Aside0.mk hd
    clear hcall hd p0 p1 p2 HF
    dsimp only
    cases f2
    · go_wp2_with fail
      (with_reducible refine hcall2.mono ?_)
      rintro e w3 ⟨rfl, hd⟩
      have HB3 := Aside0.mk (below_step HB.out (below_step HB2.out hd))
      have haw := awake_calls w3
      clear hcall2 hd HB2
      dsimp only
      go_wp2_with fail
      (with_reducible refine haw.mono ?_)
      rintro e w4 ⟨rfl, hb3⟩
      have HB4 := Aside0.mk (below_step HB3.out hb3)
      clear haw hb3
      dsimp only
      go_wp2_with fail
      go_ret
      exact ⟨rfl, HB4.out⟩
    · go_wp2_with fail
      (with_reducible refine hcall2.mono ?_)
      rintro e w3 ⟨rfl, hd⟩
      have hd3 := below_step HB2.out hd
      have HB3 := Aside0.mk hd3
      have hcall := HP.out trivial trivial w3 hd3
      obtain ⟨_, p0, p1, p2⟩ := B3 HBA.out hd3
      obtain ⟨_, q0, q1, q2⟩ := B3 HBB.out hd3
      clear hcall2 hd hd3 HB2 HP
      dsimp only
      go_wp2_with fail
      (with_reducible refine hcall.mono ?_)
      rintro e w4 ⟨v0, v1, rfl, hR0, hR1, hd⟩
      obtain ⟨E0, d0, rfl, l0, C0⟩ := hR0
      obtain ⟨E1, d1, rfl, l1, C1⟩ := hR1
      have hd4 := below_step HB3.out hd
      have HB4 := Aside0.mk hd4
      have HR0 := Aside0.mk (And.intro C0 l0)
      have HR1 := Aside0.mk (And.intro C1 l1)
      have hm0 : ∃ m0, m0 = o1.length := ⟨_, rfl⟩
      have hm1 : ∃ m1, m1 = o2.length := ⟨_, rfl⟩
      obtain ⟨m0, hm0⟩ := hm0
      obtain ⟨m1, hm1⟩ := hm1
      rw [← hm0, ← hm1]
      have HM := Aside0.mk (And.intro hm0 hm1)
      have HN := Aside0.mk (nb25 w4 (.slice E0 m0 d0) (.slice E1 m1 d1) (.int .i64 o3))
      clear hcall hd hd4 p0 p1 p2 q0 q1 q2 HB3 C0 C1 l0 l1 hm0 hm1
      dsimp only
      go_upto_region 4 with fail
      obtain ⟨w5, hw5⟩ : ∃ w5 : World, w5 = w4.alloc (Obj.cells #[.slice E0 m0 d0, .slice E1 m1 d1, .int .i64 o3] 25) := ⟨_, rfl⟩
      obtain ⟨g, hg⟩ : ∃ g, g = w4.heap.size := ⟨_, rfl⟩
      rw [← hw5, ← hg]
      obtain ⟨BG, hd⟩ := HN.out
      rw [← hw5] at BG hd
      rw [← hg] at BG
      have HBG := Aside0.mk BG
      have hd5 := below_step HB4.out hd
      have HB5 := Aside0.mk hd5
      have HR05 := Aside0.mk (And.intro (Kd.C_below HR0.out.1 hd) HR0.out.2)
      have HR15 := Aside0.mk (And.intro (Kd.C_below HR1.out.1 hd) HR1.out.2)
      have hcall := HQ.out trivial trivial w5 hd5
      obtain ⟨_, p0, p1, p2⟩ := B3 HBA.out hd5
      obtain ⟨_, q0, q1, q2⟩ := B3 HBB.out hd5
      clear hw5 hg hd BG HB4 hd5 HR0 HR1 HQ HN
      go_wp2_with fail
      (with_reducible refine hcall.mono ?_)
      rintro e w6 ⟨u0, u1, rfl, hU0, hU1, hd⟩
      obtain ⟨E2, d2, rfl, l2, C2⟩ := hU0
      obtain ⟨E3, d3, rfl, l3, C3⟩ := hU1
      have hd6 := below_step HB5.out hd
      have HB6 := Aside0.mk hd6
      obtain ⟨BG, _, _, _⟩ := B3 HBG.out hd
      have HG6 := Aside0.mk BG
      have HR06 := Aside0.mk (And.intro (Kd.C_below HR05.out.1 hd) HR05.out.2)
      have HR16 := Aside0.mk (And.intro (Kd.C_below HR15.out.1 hd) HR15.out.2)
      have HU0 := Aside0.mk (And.intro C2 l2)
      have HU1 := Aside0.mk (And.intro C3 l3)
      rw [← HM.out.1, ← HM.out.2]
      have HN := Aside0.mk (nb25 w6 (.slice E2 m0 d2) (.slice E3 m1 d3) (.int .i64 o3))
      clear hcall hd hd6 BG p0 p1 p2 q0 q1 q2 HB5 HR05 HR15 HBG C2 l2 C3 l3
      dsimp only
      go_upto_region 5 with fail
      obtain ⟨w7, hw7⟩ : ∃ w7 : World, w7 = w6.alloc (Obj.cells #[.slice E2 m0 d2, .slice E3 m1 d3, .int .i64 o3] 25) := ⟨_, rfl⟩
      obtain ⟨h, hh⟩ : ∃ h, h = w6.heap.size := ⟨_, rfl⟩
      rw [← hw7, ← hh]
      obtain ⟨BH, hd⟩ := HN.out
      rw [← hw7] at BH hd
      rw [← hh] at BH
      obtain ⟨BG, _, _, _⟩ := B3 HG6.out hd
      have HG7 := Aside0.mk BG
      have HH7 := Aside0.mk BH
      have HB7 := Aside0.mk (below_step HB6.out hd)
      have HR07 := Aside0.mk (And.intro (Kd.C_below HR06.out.1 hd) HR06.out.2)
      have HR17 := Aside0.mk (And.intro (Kd.C_below HR16.out.1 hd) HR16.out.2)
      have HU07 := Aside0.mk (And.intro (Kd.C_below HU0.out.1 hd) HU0.out.2)
      have HU17 := Aside0.mk (And.intro (Kd.C_below HU1.out.1 hd) HU1.out.2)
      have haw := awake_calls w7
      clear hw7 hh hd BH BG HB6 HR06 HR16 HU0 HU1 HG6 HN
      go_wp2_with fail
      (with_reducible refine haw.mono ?_)
      rintro e w8 ⟨rfl, hd⟩
      have hd8 := below_step HB7.out hd
      have HB8 := Aside0.mk hd8
      obtain ⟨BG, g0, g1, g2⟩ := B3 HG7.out hd
      obtain ⟨BH, h0, h1, h2⟩ := B3 HH7.out hd
      have HG8 := Aside0.mk BG
      have HH8 := Aside0.mk BH
      have C0 := Kd.C_below HR07.out.1 hd
      have C1 := Kd.C_below HR17.out.1 hd
      have C2 := Kd.C_below HU07.out.1 hd
      have C3 := Kd.C_below HU17.out.1 hd
      have l0 := HR07.out.2
      have l1 := HR17.out.2
      have l2 := HU07.out.2
      have l3 := HU17.out.2
      have hE : (o4 == o4) = true := by simp
      obtain ⟨z1, z2, z3, z4⟩ := HO.out trivial trivial
      obtain ⟨kk, hkk⟩ := sameIn_ex o1 o2 o3 o1 o2 o3 z1 z2 z3
      rw [eqI_refl, eqC_refl, decide_eq_true rfl] at hkk
      have hcall := emendateref35_Same.calls kk E0 d0 o1 E1 d1 o2 o3 E2 d2 o1 E3 d3 o2 o3 _ w8 C0 l0 C1 l1 C2 l2 C3 l3 hkk
      have hv : o4 = 0 → ∀ W', Below w8.heap.size w8 W' → Calls Try.prog 11 #[.agg #[.slice E0 o1.length d0, .slice E1 o2.length d1, .int .i64 o3], .int .i64 n1] W' fun e w' => e = .returned (.bool true) ∧ Below W'.heap.size W' w' :=
        fun ho W' hb => columns_Valid.calls E0 d0 o1 E1 d1 o2 o3 n1 _ W' (Kd.C_below C0 hb) l0 (Kd.C_below C1 hb) l1 (congrArg some (z4 ho))
      rw [← HM.out.1, ← HM.out.2] at hcall hv
      have HV := Aside0.mk hv
      clear haw hd hd8 BG BH HB7 HG7 HH7 HR07 HR17 HU07 HU17 C0 C1 C2 C3 l0 l1 l2 l3 z1 z2 z3 z4 HO hkk hv
      dsimp only
      go_wp2_with fail
      (with_reducible refine hcall.mono ?_)
      rintro e w9 ⟨rfl, hd⟩
      have hd9 := below_step HB8.out hd
      have HB9 := Aside0.mk hd9
      obtain ⟨_, p0, p1, p2⟩ := B3 HBA.out hd9
      obtain ⟨_, g0, g1, g2⟩ := B3 HG8.out hd
      by_cases ho : o4 = 0
      · have hcall := HV.out ho w9 hd
        subst ho
        clear hd hd9 HV
        dsimp only
        go_wp2_with fail
        (with_reducible refine hcall.mono ?_)
        rintro e w10 ⟨rfl, hd⟩
        have HB10 := Aside0.mk (below_step HB9.out hd)
        clear hcall hd
        dsimp only
        go_wp2_with fail
        go_ret
        exact ⟨rfl, below_step HB.out HB10.out⟩
      · have ho1 : decide (o4 = 0) = false := by simp [ho]
        have ho2 : (o4 != 0) = true := by simp [ho]
        have ho3 : (o4 == 0) = false := by simp [ho]
        clear hcall hd hd9 HV
        dsimp only
        go_wp2_with fail
        go_ret
        exact ⟨rfl, below_step HB.out HB9.out⟩
end Go.Proofs.Ytcigcacjjdpgfaa.Hand
