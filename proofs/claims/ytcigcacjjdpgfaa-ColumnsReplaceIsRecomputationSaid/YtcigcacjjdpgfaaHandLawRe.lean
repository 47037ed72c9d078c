import Derived.Test.YtcigcacjjdpgfaaHandApp
import Derived.Test.YtcigcacjjdpgfaaPureLocal
/- The law ColumnsReplaceIsRecomputation returns true: by hand. -/
namespace Go.Proofs.Ytcigcacjjdpgfaa.Hand
open Go.RowKit Go.Proofs.YtcigcacjjdpgfaaW.PrintWords Go.Proofs.YtcigcacjjdpgfaaW.PrintLast Go.Proofs.YtcigcacjjdpgfaaW.PrintMore Go.Proofs.Ytcigcacjjdpgfaa.PA
set_option linter.unusedVariables false
set_option linter.unusedSimpArgs false
set_option maxHeartbeats 8000000 in
set_option maxRecDepth 100000 in
theorem lawRe_calls (A0 : Option Addr) (c0 : Nat) (kinds : List Int) (A1 : Option Addr) (c1 : Nat) (conf : List (List S53)) (A2 A3 A4 : Option Addr) (c2 c3 c4 : Nat) (ins del : List Int) (rep : List (List Int)) (sw unk : Int) (x0 x1 x2 : Int) (hx0 : 0 ≤ x0) (hx0' : x0 ≤ 255) (hx1 : 0 ≤ x1) (hx1' : x1 ≤ 255) (w : World)
    (hk : Kd.C (Kd.int .i64) w A0 kinds.length kinds) (hkc : kinds.length ≤ c0) (hC : Kd.C (Kd.slice 53 k53) w A1 conf.length conf) (hCc : conf.length ≤ c1)
    (hi : Kd.C (Kd.int .i64) w A2 ins.length ins) (hic : ins.length ≤ c2) (hd : Kd.C (Kd.int .i64) w A3 del.length del) (hdc : del.length ≤ c3) (hr : Kd.C (Kd.slice 3 (Kd.int .i64)) w A4 rep.length rep) (hrc : rep.length ≤ c4) :
    Calls Try.prog 7 #[.agg #[.slice A0 kinds.length c0, .slice A1 conf.length c1], .agg #[.slice A2 ins.length c2, .slice A3 del.length c3, .slice A4 rep.length c4, .int .i64 sw, .int .i64 unk], .agg #[.int .u8 x0, .int .u8 x1, .int .u8 x2]] w fun e w' => e = .returned (.bool true) ∧ Below w.heap.size w w' := by
  have hu25 := Try.underlying25
  have hu31 := Try.underlying31
  have hu34 := Try.underlying34
  have hu23 := Try.underlying23
  have hu29 := Try.underlying29
  have hu45 := Try.underlying45
  have hu48 := Try.underlying48
  have hu5 := Try.underlying5
  have hu38 := Try.underlying38
  obtain ⟨k, hk1⟩ := tok_ex kinds conf
  obtain ⟨k', hk2⟩ := pr_ex ins del rep sw unk 20 (by omega)
  obtain ⟨n0, hn0⟩ : ∃ n0, n0 = kinds.length := ⟨_, rfl⟩
  obtain ⟨n1, hn1⟩ : ∃ n1, n1 = conf.length := ⟨_, rfl⟩
  obtain ⟨n2, hn2⟩ : ∃ n2, n2 = ins.length := ⟨_, rfl⟩
  obtain ⟨n3, hn3⟩ : ∃ n3, n3 = del.length := ⟨_, rfl⟩
  obtain ⟨n4, hn4⟩ : ∃ n4, n4 = rep.length := ⟨_, rfl⟩
  obtain ⟨wa, hwa⟩ : ∃ wa : World, wa = ((w.alloc (Obj.cells #[.slice A0 n0 c0, .slice A1 n1 c1] 31)).alloc (Obj.cells #[.slice A2 n2 c2, .slice A3 n3 c3, .slice A4 n4 c4, .int .i64 sw, .int .i64 unk] 34)).alloc (Obj.cells #[.int .u8 x0, .int .u8 x1, .int .u8 x2] 48) := ⟨_, rfl⟩
  obtain ⟨b, hbb⟩ : ∃ b, b = w.heap.size := ⟨_, rfl⟩
  have hb : Below w.heap.size w wa := by rw [hwa]; exact below_alloc (below_alloc (below_alloc (Below.refl _ _) _) _) _
  have BA : wa.heap[b]? = some (Obj.cells #[.slice A0 n0 c0, .slice A1 n1 c1] 31 (0, 0)) := by rw [hwa]; exact blk_old (blk_old (blk_new hbb))
  have BB : wa.heap[b + 1]? = some (Obj.cells #[.slice A2 n2 c2, .slice A3 n3 c3, .slice A4 n4 c4, .int .i64 sw, .int .i64 unk] 34 (0, 0)) := by rw [hwa]; exact blk_old (blk_new (by rw [hbb]; simp))
  have BC : wa.heap[b + 1 + 1]? = some (Obj.cells #[.int .u8 x0, .int .u8 x1, .int .u8 x2] 48 (0, 0)) := by rw [hwa]; exact blk_new (by rw [hbb]; simp)
  have HBC := Aside0.mk BC
  obtain ⟨p0, p1⟩ := B2 BA (Below.refl _ _)
  have hcall := emendatelaw35_few.calls k A0 c0 kinds A1 c1 conf _ wa (Kd.C_below hk hb) hkc (Kd.C_below hC hb) hCc hk1
  have HB := Aside0.mk hb
  have HBA := Aside0.mk BA
  have HBB := Aside0.mk BB
  have hF : ∀ W', Below wa.heap.size wa W' → Calls Try.prog 14 #[.agg #[.slice A2 n2 c2, .slice A3 n3 c3, .slice A4 n4 c4, .int .i64 sw, .int .i64 unk], .int .i64 20] W' fun e w' => e = .returned (.bool (prB ins del rep 20)) ∧ Below W'.heap.size W' w' := by
    intro W' h
    have hbw := below_step hb h
    rw [hn2, hn3, hn4]
    exact emendateref34_Few.calls k' A2 c2 ins A3 c3 del A4 c4 rep sw unk 20 _ W' (Kd.C_below hi hbw) hic (Kd.C_below hd hbw) hdc (Kd.C_below hr hbw) hrc hk2
  -- the parts
  obtain ⟨ii, hii⟩ : ∃ ii : Nat, x0.tmod ((n0 : Int) + 1) = ii := ⟨(x0.tmod ((n0 : Int) + 1)).toNat, by have := Int.tmod_nonneg (b := (n0 : Int) + 1) hx0; omega⟩
  have hin : ii ≤ n0 := by have := Int.tmod_lt_of_pos x0 (show 0 < (n0 : Int) + 1 by omega); omega
  obtain ⟨jj, hjj⟩ : ∃ jj : Nat, x1.tmod ((n0 : Int) - (ii : Int) + 1) = jj := ⟨(x1.tmod ((n0 : Int) - (ii : Int) + 1)).toNat, by have := Int.tmod_nonneg (b := (n0 : Int) - (ii : Int) + 1) hx1; omega⟩
  have hjn : ii + jj ≤ n0 := by have := Int.tmod_lt_of_pos x1 (show 0 < (n0 : Int) - (ii : Int) + 1 by omega); omega
  obtain ⟨kk, hkk⟩ : ∃ kk, kk = ii + jj := ⟨_, rfl⟩
  have hik : ii ≤ kk := by omega
  have hkn : kk ≤ n0 := by omega
  obtain ⟨i23, hi23, hz0, hz1, hz2⟩ := info_parts info3
  obtain ⟨i54, hi54, hz3, hz4, hz5⟩ := info_parts info54
  have cut1 := cut_to (P := Try.prog) 23 3 .i64 hu23 hi23 A0 n0 c0 (ii : Int) (by omega) (by omega) (by omega)
  have cut2 := cut_to (P := Try.prog) 29 54 .i64 hu29 hi54 A1 n0 c1 (ii : Int) (by omega) (by omega)
  have cut3 := cut_from (P := Try.prog) 23 3 .i64 hu23 hi23 1 hz1 A0 n0 c0 (kk : Int) (by omega) (by omega)
  have cut4 := cut_from (P := Try.prog) 29 54 .i64 hu29 hi54 1 hz4 A1 n0 c1 (kk : Int) (by omega) (by omega)
  have cut5 := cut_mid (P := Try.prog) 23 3 .i64 .i64 hu23 hi23 1 hz1 A0 n0 c0 (ii : Int) (kk : Int) (by omega) (by omega) (by omega) (by omega)
  have cut6 := cut_mid (P := Try.prog) 29 54 .i64 .i64 hu29 hi54 1 hz4 A1 n0 c1 (ii : Int) (kk : Int) (by omega) (by omega) (by omega)
  rw [Int.toNat_natCast] at cut1 cut2 cut3 cut4
  rw [Int.toNat_natCast, Int.toNat_natCast] at cut5 cut6
  have rk1 := Kd.C_take hk (m := ii) (by omega)
  have rk2 := Kd.C_drop (c := c0) hk (m := kk) (by omega) (by omega)
  have rk3 := Kd.C_mid (c := c0) hk (lo := ii) (hi := kk) (by omega) (by omega) (by omega)
  have rc1 : n1 = n0 → Kd.C (Kd.slice 53 k53) w A1 (conf.take ii).length (conf.take ii) := fun e => Kd.C_take hC (m := ii) (by omega)
  have rc2 : n1 = n0 → Kd.C (Kd.slice 53 k53) w (if c1 = kk then A1 else A1.map (·.add (kk * 1))) (conf.drop kk).length (conf.drop kk) := fun e => Kd.C_drop (c := c1) hC (m := kk) (by omega) (by omega)
  have rc3 : n1 = n0 → Kd.C (Kd.slice 53 k53) w (if c1 = ii then A1 else A1.map (·.add (ii * 1))) ((conf.take kk).drop ii).length ((conf.take kk).drop ii) := fun e => Kd.C_mid (c := c1) hC (lo := ii) (hi := kk) (by omega) (by omega) (by omega)
  replace rk2 : Kd.C (Kd.int .i64) w (if c0 = kk then A0 else A0.map (·.add (kk * 1))) (kinds.drop kk).length (kinds.drop kk) := rk2
  replace rk3 : Kd.C (Kd.int .i64) w (if c0 = ii then A0 else A0.map (·.add (ii * 1))) ((kinds.take kk).drop ii).length ((kinds.take kk).drop ii) := rk3
  generalize (if c0 = kk then A0 else A0.map (·.add (kk * 1))) = K2 at cut3 rk2
  generalize (if c1 = kk then A1 else A1.map (·.add (kk * 1))) = C2 at cut4 rc2
  generalize (if c0 = ii then A0 else A0.map (·.add (ii * 1))) = K3 at cut5 rk3
  generalize (if c1 = ii then A1 else A1.map (·.add (ii * 1))) = C3 at cut6 rc3
  rw [show (kinds.take ii).length = ii by simp; omega] at rk1
  rw [show (kinds.drop kk).length = n0 - kk by simp; omega] at rk2
  rw [show ((kinds.take kk).drop ii).length = kk - ii by simp; omega, List.drop_take] at rk3
  replace rc1 : n1 = n0 → Kd.C (Kd.slice 53 k53) w A1 ii (conf.take ii) := fun e => by have := rc1 e; rwa [show (conf.take ii).length = ii by simp; omega] at this
  replace rc2 : n1 = n0 → Kd.C (Kd.slice 53 k53) w C2 (n0 - kk) (conf.drop kk) := fun e => by have := rc2 e; rwa [show (conf.drop kk).length = n0 - kk by simp; omega] at this
  replace rc3 : n1 = n0 → Kd.C (Kd.slice 53 k53) w C3 (kk - ii) ((conf.drop ii).take (kk - ii)) := fun e => by have := rc3 e; rwa [show ((conf.take kk).drop ii).length = kk - ii by simp; omega, List.drop_take] at this
  have rmid : (kinds.drop ii).take (kk - ii) = (kinds.drop ii).take (kk - ii) := rfl
  -- Of, where no error is told
  have hO : tokB kinds conf = true → prB ins del rep 20 = true → ∀ (K : List Int) (B : Option Addr) (c : Nat) (C : List (List S53)) (B' : Option Addr) (c' : Nat) (W' : World), Below wa.heap.size wa W' → Kd.C (Kd.int .i64) W' B K.length K → Kd.C (Kd.slice 53 k53) W' B' C.length C → K.length ≤ 1000 → (∀ l ∈ C, l ∈ conf) → ∀ (xs : List S51) (m n n' : Nat), ofT K C ins del rep sw unk = (xs, ins, sw, 0) → xs.length = m → n = K.length → n' = C.length →
      Calls Try.prog 15 #[.slice B n c, .slice B' n' c', .agg #[.slice A2 n2 c2, .slice A3 n3 c3, .slice A4 n4 c4, .int .i64 sw, .int .i64 unk]] W' fun e w' =>
      ∃ F f, e = .returned (.tuple #[.agg #[.slice F m f, .slice A2 n2 c2, .int .i64 sw], .int .i64 0]) ∧ Aside0 (Kd.R k51 51 w' W'.heap.size (fun _ => True) (.slice F m f) xs) ∧ Below W'.heap.size W' w' := by
    intro f1 f2 K B c C B' c' W' h kK kC kn kl xs m n n' ho hm hn hn'
    obtain ⟨a1, a2, a3⟩ := tokB_ok f1
    have b1 := prB_ok f2
    have hbw := below_step hb h
    subst hn hn'
    rw [hn2, hn3, hn4]
    have := of_calls_ok B c K B' c' C A2 A3 A4 c2 c3 c4 ins del rep sw unk W' kK (by omega) kC (fun l hl => by have := a3 l (kl l hl); omega) (Kd.C_below hi hbw) hic (Kd.C_below hd hbw) hdc (Kd.C_below hr hbw) hrc (by omega) (by rw [ho])
    rw [ho] at this
    refine this.mono ?_
    rintro e w' ⟨v0, rfl, hR, hb'⟩
    obtain ⟨F, f, rfl, hl, hC⟩ := Kd.R_reads hR
    rw [hm] at hR ⊢
    exact ⟨F, f, rfl, ⟨hR⟩, hb'⟩
  -- Of, whatever it tells
  have hG : tokB kinds conf = true → prB ins del rep 20 = true → ∀ (K : List Int) (B : Option Addr) (c : Nat) (C : List (List S53)) (B' : Option Addr) (c' : Nat) (W' : World), Below wa.heap.size wa W' → Kd.C (Kd.int .i64) W' B K.length K → Kd.C (Kd.slice 53 k53) W' B' C.length C → K.length ≤ 1000 → (∀ l ∈ C, l ∈ conf) → ∀ (n n' : Nat), n = K.length → n' = C.length →
      Calls Try.prog 15 #[.slice B n c, .slice B' n' c', .agg #[.slice A2 n2 c2, .slice A3 n3 c3, .slice A4 n4 c4, .int .i64 sw, .int .i64 unk]] W' fun e w' =>
      ∃ F m f F' m' f' z, e = .returned (.tuple #[.agg #[.slice F m f, .slice F' m' f', .int .i64 z], .int .i64 (ofT K C ins del rep sw unk).2.2.2]) ∧ Below W'.heap.size W' w' := by
    intro f1 f2 K B c C B' c' W' h kK kC kn kl n n' hn hn'
    obtain ⟨a1, a2, a3⟩ := tokB_ok f1
    have b1 := prB_ok f2
    have hbw := below_step hb h
    subst hn hn'
    rw [hn2, hn3, hn4]
    refine (of_calls B c K B' c' C A2 A3 A4 c2 c3 c4 ins del rep sw unk W' kK (by omega) kC (fun l hl => by have := a3 l (kl l hl); omega) (Kd.C_below hi hbw) hic (Kd.C_below hd hbw) hdc (Kd.C_below hr hbw) hrc (by omega)).mono ?_
    rintro e w' ⟨v0, v1, rfl, ⟨F, f, rfl, _, _⟩, ⟨F', f', rfl, _, _⟩, hb'⟩
    exact ⟨F, _, f, F', _, f', _, rfl, hb'⟩
  have hlk : (kinds.take ii ++ kinds.drop kk).length = ii + (n0 - kk) := by simp; omega
  have hlc : n1 = n0 → (conf.take ii ++ conf.drop kk).length = ii + (n0 - kk) := fun e => by simp; omega
  have hlm : ((kinds.drop ii).take (kk - ii)).length = kk - ii := by simp; omega
  have hlm' : n1 = n0 → ((conf.drop ii).take (kk - ii)).length = kk - ii := fun e => by simp; omega
  have hmem1 : ∀ l ∈ conf.take ii ++ conf.drop kk, l ∈ conf := fun l hl => by
    rcases List.mem_append.1 hl with h | h
    · exact List.mem_of_mem_take h
    · exact List.mem_of_mem_drop h
  have hmem2 : ∀ l ∈ (conf.drop ii).take (kk - ii), l ∈ conf := fun l hl => List.mem_of_mem_drop (List.mem_of_mem_take hl)
  have hA : tokB kinds conf = true → prB ins del rep 20 = true → n1 = n0 → (ofT kinds conf ins del rep sw unk).2.2.2 = 0 → ∀ W', Below wa.heap.size wa W' → Calls Try.prog 15 #[.slice A0 (n0) (c0), .slice A1 (n0) (c1), .agg #[.slice A2 n2 c2, .slice A3 n3 c3, .slice A4 n4 c4, .int .i64 sw, .int .i64 unk]] W' fun e w' =>
      ∃ F f, e = .returned (.tuple #[.agg #[.slice F (n0) f, .slice A2 n2 c2, .int .i64 sw], .int .i64 0]) ∧ Aside0 (Kd.R k51 51 w' W'.heap.size (fun _ => True) (.slice F (n0) f) ((ofT kinds conf ins del rep sw unk).1)) ∧ Below W'.heap.size W' w' := by
    intro f1 f2 e1 e2 W' h
    obtain ⟨a1, a2, a3⟩ := tokB_ok f1
    have hl : conf.length = kinds.length := by omega
    have hbw := below_step hb h
    obtain ⟨e, _, _, _⟩ := ofT_whole hl e2
    exact hO f1 f2 kinds _ c0 conf _ c1 W' h (Kd.C_below hk hbw) (Kd.C_below hC hbw) (by omega) (fun l h => h) _ _ _ _ (by rw [e]) (by rw [ofT_len hl e2, hn0]) (by omega) (by omega)
  have hA0 : tokB kinds conf = true → prB ins del rep 20 = true → n1 = n0 → ∀ W', Below wa.heap.size wa W' → Calls Try.prog 15 #[.slice A0 (n0) (c0), .slice A1 (n0) (c1), .agg #[.slice A2 n2 c2, .slice A3 n3 c3, .slice A4 n4 c4, .int .i64 sw, .int .i64 unk]] W' fun e w' =>
      ∃ F m f F' m' f' z, e = .returned (.tuple #[.agg #[.slice F m f, .slice F' m' f', .int .i64 z], .int .i64 (ofT (kinds) (conf) ins del rep sw unk).2.2.2]) ∧ Below W'.heap.size W' w' := by
    intro f1 f2 e1 W' h
    obtain ⟨a1, a2, a3⟩ := tokB_ok f1
    have hbw := below_step hb h
    exact hG f1 f2 kinds _ c0 conf _ c1 W' h (Kd.C_below hk hbw) (Kd.C_below hC hbw) (by omega) (fun l h => h) _ _ (by omega) (by omega)
  have hB : tokB kinds conf = true → prB ins del rep 20 = true → n1 = n0 → (ofT kinds conf ins del rep sw unk).2.2.2 = 0 → ∀ B d B' d' W', Below wa.heap.size wa W' → Kd.C (Kd.int .i64) W' B (ii + (n0 - kk)) (kinds.take ii ++ kinds.drop kk) → Kd.C (Kd.slice 53 k53) W' B' (ii + (n0 - kk)) (conf.take ii ++ conf.drop kk) → Calls Try.prog 15 #[.slice B (ii + (n0 - kk)) (d), .slice B' (ii + (n0 - kk)) (d'), .agg #[.slice A2 n2 c2, .slice A3 n3 c3, .slice A4 n4 c4, .int .i64 sw, .int .i64 unk]] W' fun e w' =>
      ∃ F f, e = .returned (.tuple #[.agg #[.slice F (ii + (n0 - kk)) f, .slice A2 n2 c2, .int .i64 sw], .int .i64 0]) ∧ Aside0 (Kd.R k51 51 w' W'.heap.size (fun _ => True) (.slice F (ii + (n0 - kk)) f) ((ofT kinds conf ins del rep sw unk).1.take ii ++ (ofT kinds conf ins del rep sw unk).1.drop kk)) ∧ Below W'.heap.size W' w' := by
    intro f1 f2 e1 e2 B d B' d' W' h r1 r2
    obtain ⟨a1, a2, a3⟩ := tokB_ok f1
    have hl : conf.length = kinds.length := by omega
    have hol := ofT_len hl e2
    exact hO f1 f2 (kinds.take ii ++ kinds.drop kk) B d (conf.take ii ++ conf.drop kk) B' d' W' h (by rw [hlk]; exact r1) (by rw [hlc e1]; exact r2) (by rw [hlk]; omega) hmem1 _ _ _ _ (ofT_cut hl e2 ii kk hik) (by simp [hol]; omega) hlk.symm (hlc e1).symm
  have hB0 : tokB kinds conf = true → prB ins del rep 20 = true → n1 = n0 → ∀ B d B' d' W', Below wa.heap.size wa W' → Kd.C (Kd.int .i64) W' B (ii + (n0 - kk)) (kinds.take ii ++ kinds.drop kk) → Kd.C (Kd.slice 53 k53) W' B' (ii + (n0 - kk)) (conf.take ii ++ conf.drop kk) → Calls Try.prog 15 #[.slice B (ii + (n0 - kk)) (d), .slice B' (ii + (n0 - kk)) (d'), .agg #[.slice A2 n2 c2, .slice A3 n3 c3, .slice A4 n4 c4, .int .i64 sw, .int .i64 unk]] W' fun e w' =>
      ∃ F m f F' m' f' z, e = .returned (.tuple #[.agg #[.slice F m f, .slice F' m' f', .int .i64 z], .int .i64 (ofT (kinds.take ii ++ kinds.drop kk) (conf.take ii ++ conf.drop kk) ins del rep sw unk).2.2.2]) ∧ Below W'.heap.size W' w' := by
    intro f1 f2 e1 B d B' d' W' h r1 r2
    obtain ⟨a1, a2, a3⟩ := tokB_ok f1
    exact hG f1 f2 (kinds.take ii ++ kinds.drop kk) B d (conf.take ii ++ conf.drop kk) B' d' W' h (by rw [hlk]; exact r1) (by rw [hlc e1]; exact r2) (by rw [hlk]; omega) hmem1 _ _ hlk.symm (hlc e1).symm
  have hM : tokB kinds conf = true → prB ins del rep 20 = true → n1 = n0 → (ofT kinds conf ins del rep sw unk).2.2.2 = 0 → ∀ W', Below wa.heap.size wa W' → Calls Try.prog 15 #[.slice K3 (kk - ii) (c0 - ii), .slice C3 (kk - ii) (c1 - ii), .agg #[.slice A2 n2 c2, .slice A3 n3 c3, .slice A4 n4 c4, .int .i64 sw, .int .i64 unk]] W' fun e w' =>
      ∃ F f, e = .returned (.tuple #[.agg #[.slice F (kk - ii) f, .slice A2 n2 c2, .int .i64 sw], .int .i64 0]) ∧ Aside0 (Kd.R k51 51 w' W'.heap.size (fun _ => True) (.slice F (kk - ii) f) (((ofT kinds conf ins del rep sw unk).1.drop ii).take (kk - ii))) ∧ Below W'.heap.size W' w' := by
    intro f1 f2 e1 e2 W' h
    obtain ⟨a1, a2, a3⟩ := tokB_ok f1
    have hl : conf.length = kinds.length := by omega
    have hol := ofT_len hl e2
    have hbw := below_step hb h
    exact hO f1 f2 ((kinds.drop ii).take (kk - ii)) _ _ ((conf.drop ii).take (kk - ii)) _ _ W' h (by rw [hlm]; exact Kd.C_below rk3 hbw) (by rw [hlm' e1]; exact Kd.C_below (rc3 e1) hbw) (by rw [hlm]; omega) hmem2 _ _ _ _ (ofT_mid hl e2 ii (kk - ii)) (by simp [hol]; omega) hlm.symm (hlm' e1).symm
  have hM0 : tokB kinds conf = true → prB ins del rep 20 = true → n1 = n0 → ∀ W', Below wa.heap.size wa W' → Calls Try.prog 15 #[.slice K3 (kk - ii) (c0 - ii), .slice C3 (kk - ii) (c1 - ii), .agg #[.slice A2 n2 c2, .slice A3 n3 c3, .slice A4 n4 c4, .int .i64 sw, .int .i64 unk]] W' fun e w' =>
      ∃ F m f F' m' f' z, e = .returned (.tuple #[.agg #[.slice F m f, .slice F' m' f', .int .i64 z], .int .i64 (ofT ((kinds.drop ii).take (kk - ii)) ((conf.drop ii).take (kk - ii)) ins del rep sw unk).2.2.2]) ∧ Below W'.heap.size W' w' := by
    intro f1 f2 e1 W' h
    obtain ⟨a1, a2, a3⟩ := tokB_ok f1
    have hbw := below_step hb h
    exact hG f1 f2 ((kinds.drop ii).take (kk - ii)) _ _ ((conf.drop ii).take (kk - ii)) _ _ W' h (by rw [hlm]; exact Kd.C_below rk3 hbw) (by rw [hlm' e1]; exact Kd.C_below (rc3 e1) hbw) (by rw [hlm]; omega) hmem2 _ _ hlm.symm (hlm' e1).symm
  have hval : prB ins del rep 20 = true → n1 = n0 → (ofT kinds conf ins del rep sw unk).2.2.2 = 0 → validB (ofT kinds conf ins del rep sw unk).1 ins sw ins.length = true ∧ (ofT kinds conf ins del rep sw unk).1.length = n0 ∧ (∀ c ∈ (ofT kinds conf ins del rep sw unk).1, c.f1.length ≤ 20) := fun f2 e1 e2 =>
    ⟨ofT_valid (by omega) e2 (prB_ok f2), by rw [ofT_len (by omega) e2, hn0], (ofT_ok kinds conf ins del rep sw unk (prB_ok f2)).2.1⟩
  generalize ofT kinds conf ins del rep sw unk = rt at hA hA0 hB hM hval
  obtain ⟨o1, o2, o3, o4⟩ := rt
  dsimp only at hA hA0 hB hM hval
  have hR1 : prB ins del rep 20 = true → n1 = n0 → o4 = 0 → ∀ F f G g W', Below wa.heap.size wa W' → (Kd.C k51 W' F (ii + (n0 - kk)) (o1.take ii ++ o1.drop kk) ∧ ii + (n0 - kk) ≤ f) → (Kd.C k51 W' G (kk - ii) ((o1.drop ii).take (kk - ii)) ∧ kk - ii ≤ g) →
      Calls Try.prog 19 #[.agg #[.slice F (ii + (n0 - kk)) f, .slice A2 n2 c2, .int .i64 sw], .agg #[.int .i64 ii, .int .i64 0, .int .i64 ((kk : Int) - ii)], .slice G (kk - ii) g] W' fun e w' =>
      ∃ H h H' h', e = .returned (.tuple #[.agg #[.slice H n0 h, .slice H' n2 h', .int .i64 sw], .int .i64 0]) ∧ Aside0 ((Kd.C k51 w' H n0 o1 ∧ n0 ≤ h) ∧ (Kd.C (Kd.int .i64) w' H' n2 ins ∧ n2 ≤ h')) ∧ Below W'.heap.size W' w' := by
    intro f2 e1 e2 F f G g W' h r1 r2
    obtain ⟨hv, hol, _⟩ := hval f2 e1 e2
    have hbw := below_step hb h
    have l1 : (o1.take ii ++ o1.drop kk).length = ii + (n0 - kk) := by simp [hol]; omega
    have l2 : ((o1.drop ii).take (kk - ii)).length = kk - ii := by simp [hol]; omega
    have hv60 : n0 ≤ 60 := by simp only [validB, Bool.and_eq_true, decide_eq_true_eq] at hv; omega
    have := replace_calls F f (o1.take ii ++ o1.drop kk) A2 c2 ins sw ii 0 ((kk : Int) - ii) G g ((o1.drop ii).take (kk - ii)) W' (by rw [l1]; exact r1.1) (by rw [l1]; exact r1.2) (Kd.C_below hi hbw) hic (by rw [l2]; exact r2.1) (by rw [l2]; exact r2.2) (by rw [l2]; omega) (by rw [l1]; omega)
    rw [rep_back hv ii kk hik (by omega), l1, l2, ← hn2] at this
    refine this.mono ?_
    rintro e w' ⟨v0, v1, rfl, q0, q1, hb'⟩
    obtain ⟨H, h, rfl, x⟩ := rdK q0 hol
    obtain ⟨H', h', rfl, x'⟩ := rdK q1 hn2.symm
    exact ⟨H, h, H', h', rfl, ⟨x, x'⟩, hb'⟩
  have hR2 : prB ins del rep 20 = true → n1 = n0 → o4 = 0 → ∀ F f W', Below wa.heap.size wa W' → (Kd.C k51 W' F n0 o1 ∧ n0 ≤ f) →
      Calls Try.prog 19 #[.agg #[.slice F n0 f, .slice A2 n2 c2, .int .i64 sw], .agg #[.int .i64 ii, .int .i64 ((kk : Int) - ii), .int .i64 0], .slice none 0 0] W' fun e w' =>
      ∃ H h H' h', e = .returned (.tuple #[.agg #[.slice H (ii + (n0 - kk)) h, .slice H' n2 h', .int .i64 sw], .int .i64 0]) ∧ Aside0 ((Kd.C k51 w' H (ii + (n0 - kk)) (o1.take ii ++ o1.drop kk) ∧ ii + (n0 - kk) ≤ h) ∧ (Kd.C (Kd.int .i64) w' H' n2 ins ∧ n2 ≤ h')) ∧ Below W'.heap.size W' w' := by
    intro f2 e1 e2 F f W' h r1
    obtain ⟨hv, hol, _⟩ := hval f2 e1 e2
    have hbw := below_step hb h
    have l1 : (o1.take ii ++ o1.drop kk).length = ii + (n0 - kk) := by simp [hol]; omega
    have hv60 : n0 ≤ 60 := by simp only [validB, Bool.and_eq_true, decide_eq_true_eq] at hv; omega
    have := replace_calls F f o1 A2 c2 ins sw ii ((kk : Int) - ii) 0 none 0 [] W' (by rw [hol]; exact r1.1) (by rw [hol]; exact r1.2) (Kd.C_below hi hbw) hic (Kd.C_nil _ _) (Nat.le_refl _) (by simp) (by omega)
    rw [rep_out hv ii kk hik (by omega), hol, ← hn2] at this
    refine this.mono ?_
    rintro e w' ⟨v0, v1, rfl, q0, q1, hb'⟩
    obtain ⟨H, h, rfl, x⟩ := rdK q0 l1
    obtain ⟨H', h', rfl, x'⟩ := rdK q1 hn2.symm
    exact ⟨H, h, H', h', rfl, ⟨x, x'⟩, hb'⟩
  have hS : prB ins del rep 20 = true → n1 = n0 → o4 = 0 → ∀ (xs : List S51) (m : Nat) F f F' f' G g G' g' W', xs.length = m → xs.length ≤ 100 → (∀ c ∈ xs, c ∈ o1) → (Kd.C k51 W' F m xs ∧ m ≤ f) → (Kd.C (Kd.int .i64) W' F' n2 ins ∧ n2 ≤ f') → (Kd.C k51 W' G m xs ∧ m ≤ g) → (Kd.C (Kd.int .i64) W' G' n2 ins ∧ n2 ≤ g') →
      Calls Try.prog 17 #[.agg #[.slice F m f, .slice F' n2 f', .int .i64 sw], .agg #[.slice G m g, .slice G' n2 g', .int .i64 sw]] W' fun e w' => e = .returned (.bool true) ∧ Below W'.heap.size W' w' := by
    intro f2 e1 e2 xs m F f F' f' G g G' g' W' hm hx hc r1 r2 r3 r4
    have b1 := prB_ok f2
    obtain ⟨q, hq⟩ := sameIn_ex xs ins sw xs ins sw (by omega) (fun c h => by have := (hval f2 e1 e2).2.2 c (hc c h); omega) (by omega)
    rw [eqI_refl, eqC_refl, decide_eq_true rfl] at hq
    subst hm
    rw [hn2] at r2 r4 ⊢
    exact emendateref35_Same.calls q F f xs F' f' ins sw G g xs G' g' ins sw _ W' r1.1 r1.2 r2.1 r2.2 r3.1 r3.2 r4.1 r4.2 hq
  have hL : prB ins del rep 20 = true → n1 = n0 → o4 = 0 → o1.length = n0 := fun f2 e1 e2 => (hval f2 e1 e2).2.1
  have hn70 : tokB kinds conf = true → n0 ≤ 70 := fun f1 => by have := (tokB_ok f1).1; omega
  have hc1 : n1 ≤ c1 := by omega
  have hins : ∀ W', Below wa.heap.size wa W' → Kd.C (Kd.int .i64) W' A2 n2 ins ∧ n2 ≤ c2 := fun W' h => by rw [hn2]; exact ⟨Kd.C_below hi (below_step hb h), hic⟩
  have hrk : ∀ W', Below wa.heap.size wa W' → Kd.C (Kd.int .i64) W' A0 ii (kinds.take ii) ∧ Kd.C (Kd.int .i64) W' K2 (n0 - kk) (kinds.drop kk) := fun W' h => ⟨Kd.C_below rk1 (below_step hb h), Kd.C_below rk2 (below_step hb h)⟩
  have hrc' : n1 = n0 → ∀ W', Below wa.heap.size wa W' → Kd.C (Kd.slice 53 k53) W' A1 ii (conf.take ii) ∧ Kd.C (Kd.slice 53 k53) W' C2 (n0 - kk) (conf.drop kk) := fun e W' h => ⟨Kd.C_below (rc1 e) (below_step hb h), Kd.C_below (rc2 e) (below_step hb h)⟩
  rw [← hn0, ← hn1] at hcall
  rw [← hn0, ← hn1, ← hn2, ← hn3, ← hn4]
  generalize hz1' : (ofT (kinds.take ii ++ kinds.drop kk) (conf.take ii ++ conf.drop kk) ins del rep sw unk).2.2.2 = ze1 at hB0
  generalize hz2' : (ofT ((kinds.drop ii).take (kk - ii)) ((conf.drop ii).take (kk - ii)) ins del rep sw unk).2.2.2 = ze2 at hM0
  generalize tokB kinds conf = f1 at hcall hA hA0 hB hB0 hM hM0 hn70
  generalize prB ins del rep 20 = f2 at hF hA hA0 hB hB0 hM hM0 hR1 hR2 hS hL
  have hlk' : (kinds.take ii).length = ii ∧ (kinds.drop kk).length = n0 - kk := by constructor <;> (simp; try omega)
  have hlc' : n1 = n0 → (conf.take ii).length = ii ∧ (conf.drop kk).length = n0 - kk := fun e => by constructor <;> (simp; try omega)
  generalize kinds.take ii = KA at hlk hrk hB hB0 hlk'
  generalize kinds.drop kk = KB at hlk hrk hB hB0 hlk'
  generalize conf.take ii = CA at hlc hrc' hB hB0 hlc'
  generalize conf.drop kk = CB at hlc hrc' hB hB0 hlc'
  have HF := Aside0.mk hF
  have HA := Aside0.mk hA
  have HA0 := Aside0.mk hA0
  have HB1 := Aside0.mk hB
  have HB0 := Aside0.mk hB0
  have HM := Aside0.mk hM
  have HM0 := Aside0.mk hM0
  have HR1 := Aside0.mk hR1
  have HR2 := Aside0.mk hR2
  have HS := Aside0.mk hS
  have HL := Aside0.mk hL
  have HN70 := Aside0.mk hn70
  have HC1 := Aside0.mk hc1
  have HINS := Aside0.mk hins
  have HRK := Aside0.mk hrk
  have HRC := Aside0.mk hrc'
  have HLK := Aside0.mk hlk
  have HLC := Aside0.mk hlc
  have HLK' := Aside0.mk hlk'
  have HLC' := Aside0.mk hlc'
  have HCU := Aside0.mk (And.intro cut1 (And.intro cut2 (And.intro cut3 (And.intro cut4 (And.intro cut5 cut6)))))
  clear hF hA hA0 hB hB0 hM hM0 hR1 hR2 hS hL hn70 hc1 hins hrk hrc' hlk hlc hlk' hlc' hb BA BB BC hk hkc hC hCc hi hic hd hdc hr hrc hk1 hk2 hn0 hn1 hn2 hn3 hn4 hO hG hval hmem1 hmem2 hlm hlm' rmid rk1 rk2 rk3 rc1 rc2 rc3 hz1' hz2' hi23 hz0 hz1 hz2 hi54 hz3 hz4 hz5 cut1 cut2 cut3 cut4 cut5 cut6
  go_enter Try.func7, Try.ntmps7
  cases f1
  · go_upto_region 1 with fail
    rw [← hwa, ← hbb]
    clear hwa hbb
    go_wp2_with fail
    (with_reducible refine hcall.mono ?_)
    rintro e w2 ⟨rfl, hd⟩
    have HB2 := Aside0.mk (below_step HB.out hd)
    have haw := awake_calls w2
    clear hcall hd p0 p1
    dsimp only
    go_wp2_with fail
    (with_reducible refine haw.mono ?_)
    rintro e w3 ⟨rfl, hb3⟩
    have HB3 := Aside0.mk (below_step HB2.out hb3)
    clear haw hb3
    dsimp only
    go_wp2_with fail
    go_ret
    exact ⟨rfl, HB3.out⟩
  · go_upto_region 1 with fail
    rw [← hwa, ← hbb]
    clear hwa hbb
    go_wp2_with fail
    (with_reducible refine hcall.mono ?_)
    rintro e w2 ⟨rfl, hd⟩
    have hcall2 := HF.out w2 hd
    have HB2 := Aside0.mk hd
    obtain ⟨q0, q1, q2, q3, q4⟩ := B5 HBB.out hd
    clear hcall hd p0 p1 HF
    dsimp only
    cases f2
    · go_wp2_with fail
      (with_reducible refine hcall2.mono ?_)
      rintro e w3 ⟨rfl, hd⟩
      have HB3 := Aside0.mk (below_step HB.out (below_step HB2.out hd))
      have haw := awake_calls w3
      clear hcall2 hd HB2 q0 q1 q2 q3 q4
      dsimp only
      go_wp2_with fail
      (with_reducible refine haw.mono ?_)
      rintro e w4 ⟨rfl, hb3⟩
      have HB4 := Aside0.mk (below_step HB3.out hb3)
      clear haw hb3
      dsimp only
      go_wp2_with fail
      go_ret
      exact ⟨rfl, HB4.out⟩
    · by_cases hnn : n1 = n0
      · subst hnn
        have e1 : ((n1 : Int) != (n1 : Int)) = false := by simp
        obtain ⟨p0, p1⟩ := B2 HBA.out HB2.out
        by_cases hn60 : (n1 : Int) > 60
        · have e2 : decide ((60 : Int) < (n1 : Int)) = true := decide_eq_true hn60
          go_wp2_with fail
          (with_reducible refine hcall2.mono ?_)
          rintro e w3 ⟨rfl, hd⟩
          have hd3 := below_step HB2.out hd
          obtain ⟨p0, p1⟩ := B2 HBA.out hd3
          have HB3 := Aside0.mk (below_step HB.out hd3)
          have haw := awake_calls w3
          clear hcall2 hd HB2 q0 q1 q2 q3 q4 hd3
          dsimp only
          go_wp2_with fail
          (with_reducible refine haw.mono ?_)
          rintro e w4 ⟨rfl, hb3⟩
          have HB4 := Aside0.mk (below_step HB3.out hb3)
          clear haw hb3
          dsimp only
          go_wp2_with fail
          go_ret
          exact ⟨rfl, HB4.out⟩
        · have e2 : decide ((60 : Int) < (n1 : Int)) = false := decide_eq_false (by omega)
          go_wp2_with fail
          (with_reducible refine hcall2.mono ?_)
          rintro e w3 ⟨rfl, hd⟩
          have hd3 := below_step HB2.out hd
          have HB3 := Aside0.mk hd3
          obtain ⟨p0, p1⟩ := B2 HBA.out hd3
          obtain ⟨_, a0, a1, a2⟩ := B3 HBC.out hd3
          have hn71 := HN70.out trivial
          clear hcall2 hd hd3 HB2 HN70 q0 q1 q2 q3 q4
          dsimp only
          go_upto_region 6 with fail
          rw [show (ii : Int) + (jj : Int) = (kk : Int) by omega]
          obtain ⟨cut1, cut2, cut3, cut4, cut5, cut6⟩ := HCU.out
          replace cut2 := cut2 HC1.out
          replace cut6 := cut6 HC1.out
          have HNN := Aside0.mk (show ii + (n1 - kk) ≤ 1000 ∧ ii ≤ 1000 by omega)
          have HLCC := Aside0.mk (HLC.out (by trivial))
          have HLK2 := HLK'.out
          have hn60' : n1 ≤ 60 := by omega
          have HLC2 := HLC'.out (by trivial)
          have HIKN := Aside0.mk (show ii ≤ kk ∧ kk ≤ n1 from ⟨hik, hkn⟩)
          have g1 : (0 : Int) ≤ (ii : Int) := by omega
          have g2 : (0 : Int) ≤ (kk : Int) := by omega
          have g3 : (ii : Int) ≤ (kk : Int) := by omega
          have g4 : (kk : Int) ≤ (n1 : Int) := by omega
          clear p0 p1 a0 a1 a2 hii hjj hkk hjn hik hkn hn71 hn60 e1 e2 HCU HC1 HLC HLC' HLK'
          clear HLK2 HLC2
          have HLOW := Aside0.mk (show ∀ w', (w'.cell? ⟨b, 0, none⟩ = some (.slice A0 n1 c0) ∧ Aside0 (Below w3.heap.size w3 w')) → Below w3.heap.size w3 w' from fun w' h => h.2.out)
          have HMK := Aside0.mk (show ∀ w', Below w3.heap.size w3 w' → (w'.cell? ⟨b, 0, none⟩ = some (.slice A0 n1 c0) ∧ Aside0 (Below w3.heap.size w3 w')) from fun w' h => ⟨(B2 HBA.out (below_step HB3.out h)).1, ⟨h⟩⟩)
          have HT1 := Aside0.mk (show (Kd.fixed (Kd.int .i64) w3).C w3 A0 ii KA from (HRK.out w3 HB3.out).1)
          have HT2 := Aside0.mk (show (Kd.fixed (Kd.int .i64) w3).C w3 K2 (n1 - kk) KB from (HRK.out w3 HB3.out).2)
          have HRD := Aside0.mk (show ∀ v w', Kd.R (Kd.fixed (Kd.int .i64) w3) 3 w' w3.heap.size (fun _ => True) v (([] ++ KA) ++ KB) → Below w3.heap.size w3 w' → ∃ A c, v = .slice A (ii + (n1 - kk)) c ∧ Aside0 (Kd.C (Kd.int .i64) w' A (ii + (n1 - kk)) (KA ++ KB) ∧ ii + (n1 - kk) ≤ c) by
            intro v w' hR hb
            rw [List.nil_append] at hR
            obtain ⟨A, c, e, x⟩ := rdK (Rd_fixed hR hb) HLK.out
            exact ⟨A, c, e, ⟨x⟩⟩)
          have HS := HMK.out w3 (Below.refl _ _)
          have hcA := cut1
          have hcB := cut3
          go_region_held3 (fun w' => w'.cell? ⟨b, 0, none⟩ = some (.slice A0 n1 c0) ∧ Aside0 (Below w3.heap.size w3 w'))
            (first | exact HMK.out _ (by assumption) | exact HMK.out _ (below_drew1 (Below.refl _ _)) | exact HMK.out _ (below_alloc (below_drew1 (Below.refl _ _)) _) | exact HMK.out _ (below_alloc (Below.refl _ _) _) | assumption)
            ((first | (refine app_gen (Kd.int .i64) (W0 := w3) (wb := w3) 23 3 (.int .i64 0) 8 Try.underlying23 info3 rfl (by decide) (by decide) (by decide) (by rfl) (.tmp 65) (.tmp 69) rfl (.slice (some ⟨w3.heap.size, 0, none⟩) 0 0) [] KA A0 ii c0 (by rfl) (by rfl) ?hR1 HT1.out ?hB1 (by have := HNN.out; simp; omega) ?_; (case hR1 => exact R_none (Kd.int .i64) 3 _ (Nat.le_refl _)); (case hB1 => exact HLOW.out _ (by assumption)); intro v1 w1 hR1 hb1) | (refine app_gen (Kd.int .i64) (W0 := w3) (wb := w3) 23 3 (.int .i64 0) 8 Try.underlying23 info3 rfl (by decide) (by decide) (by decide) (by rfl) (.tmp 70) (.tmp 74) rfl v1 ([] ++ KA) KB K2 (n1 - kk) (c0 - kk) (by rfl) (by rfl) ?hR2 HT2.out ?hB2 (by have := HNN.out; have := HLK.out; simp at this ⊢; omega) ?_; (case hR2 => exact hR1); (case hB2 => exact HLOW.out _ (by assumption)); intro v2 w2' hR2 hb2; (obtain ⟨V1, v1c, rfl, HC6⟩ := HRD.out v2 w2' hR2 hb2))))
          go_upto_region 7 with fail
          refine nameW ?_
          intro w4 hwn
          have hbn : Below w2'.heap.size w2' w4 := by rw [hwn]; first | exact Below.refl _ _ | exact below_drew1 (Below.refl _ _)
          have HV1 := Aside0.mk (show ∀ W', Below w4.heap.size w4 W' → Kd.C (Kd.int .i64) W' V1 (ii + (n1 - kk)) (KA ++ KB) from fun W' h => Kd.C_below (Kd.C_below HC6.out.1 hbn) h)
          have HB4 := Aside0.mk (below_step HB3.out (below_step hb2 hbn))
          clear hwn hbn HC6 hb2 hR2 hb1 hR1 HLOW HMK HT1 HT2 HRD HS hcA hcB
          have HLOW := Aside0.mk (show ∀ w', (w'.cell? ⟨b, 1, none⟩ = some (.slice A1 n1 c1) ∧ Aside0 (Below w4.heap.size w4 w')) → Below w4.heap.size w4 w' from fun w' h => h.2.out)
          have HMK := Aside0.mk (show ∀ w', Below w4.heap.size w4 w' → (w'.cell? ⟨b, 1, none⟩ = some (.slice A1 n1 c1) ∧ Aside0 (Below w4.heap.size w4 w')) from fun w' h => ⟨(B2 HBA.out (below_step HB4.out h)).2, ⟨h⟩⟩)
          have HT1 := Aside0.mk (show (Kd.fixed (Kd.slice 53 k53) w4).C w4 A1 ii CA from (HRC.out (by trivial) w4 HB4.out).1)
          have HT2 := Aside0.mk (show (Kd.fixed (Kd.slice 53 k53) w4).C w4 C2 (n1 - kk) CB from (HRC.out (by trivial) w4 HB4.out).2)
          have HRD := Aside0.mk (show ∀ v w', Kd.R (Kd.fixed (Kd.slice 53 k53) w4) 54 w' w4.heap.size (fun _ => True) v (([] ++ CA) ++ CB) → Below w4.heap.size w4 w' → ∃ A c, v = .slice A (ii + (n1 - kk)) c ∧ Aside0 (Kd.C (Kd.slice 53 k53) w' A (ii + (n1 - kk)) (CA ++ CB) ∧ ii + (n1 - kk) ≤ c) by
            intro v w' hR hb
            rw [List.nil_append] at hR
            obtain ⟨A, c, e, x⟩ := rdK (Rd_fixed hR hb) HLCC.out
            exact ⟨A, c, e, ⟨x⟩⟩)
          have HS := HMK.out w4 (Below.refl _ _)
          have hcA := cut2
          have hcB := cut4
          go_region_held3 (fun w' => w'.cell? ⟨b, 1, none⟩ = some (.slice A1 n1 c1) ∧ Aside0 (Below w4.heap.size w4 w'))
            (first | exact HMK.out _ (by assumption) | exact HMK.out _ (below_drew1 (Below.refl _ _)) | exact HMK.out _ (below_alloc (below_drew1 (Below.refl _ _)) _) | exact HMK.out _ (below_alloc (Below.refl _ _) _) | assumption)
            ((first | (refine app_gen (Kd.slice 53 k53) (W0 := w4) (wb := w4) 29 54 (.slice none 0 0) 24 Try.underlying29 info54 rfl (by decide) (by decide) (by decide) (by rfl) (.tmp 76) (.tmp 80) rfl (.slice (some ⟨w4.heap.size, 0, none⟩) 0 0) [] CA A1 ii c1 (by rfl) (by rfl) ?hR1 HT1.out ?hB1 (by have := HNN.out; simp; omega) ?_; (case hR1 => exact R_none (Kd.slice 53 k53) 54 _ (Nat.le_refl _)); (case hB1 => exact HLOW.out _ (by assumption)); intro v1 w1 hR1 hb1) | (refine app_gen (Kd.slice 53 k53) (W0 := w4) (wb := w4) 29 54 (.slice none 0 0) 24 Try.underlying29 info54 rfl (by decide) (by decide) (by decide) (by rfl) (.tmp 81) (.tmp 85) rfl v1 ([] ++ CA) CB C2 (n1 - kk) (c1 - kk) (by rfl) (by rfl) ?hR2 HT2.out ?hB2 (by have := HNN.out; have := HLCC.out; simp at this ⊢; omega) ?_; (case hR2 => exact hR1); (case hB2 => exact HLOW.out _ (by assumption)); intro v2 w2' hR2 hb2; (obtain ⟨V2, v2c, rfl, HC6⟩ := HRD.out v2 w2' hR2 hb2))))
          go_upto_region 8 with fail
          refine nameW ?_
          intro w5 hwn
          have hbn : Below w2'.heap.size w2' w5 := by rw [hwn]; first | exact Below.refl _ _ | exact below_drew1 (Below.refl _ _)
          replace HV1 := Aside0.mk (show ∀ W', Below w5.heap.size w5 W' → Kd.C (Kd.int .i64) W' V1 (ii + (n1 - kk)) (KA ++ KB) from fun W' h => HV1.out W' (below_step (below_step hb2 hbn) h))
          have HV2 := Aside0.mk (And.intro (Kd.C_below HC6.out.1 hbn) HC6.out.2)
          have HB5 := Aside0.mk (below_step HB4.out (below_step hb2 hbn))
          clear hwn hbn HC6 hb2 hR2 hb1 hR1 HLOW HMK HT1 HT2 HRD HS hcA hcB
          -- the readings of the joined rows, kept
          have HK1 := Aside0.mk (show ∀ W', Below w5.heap.size w5 W' → Kd.C (Kd.int .i64) W' V1 (ii + (n1 - kk)) (KA ++ KB) ∧ Kd.C (Kd.slice 53 k53) W' V2 (ii + (n1 - kk)) (CA ++ CB) from fun W' h => ⟨Kd.C_below (HV1.out w5 (Below.refl _ _)) h, Kd.C_below HV2.out.1 h⟩)
          clear HV1 HV2
          by_cases ho : o4 = 0
          · subst ho
            have hcall := HA.out (by trivial) (by trivial) (by trivial) (by trivial) w5 HB5.out
            obtain ⟨p0, p1⟩ := B2 HBA.out HB5.out
            obtain ⟨q0, q1, q2, q3, q4⟩ := B5 HBB.out HB5.out
            go_wp2_with fail
            (with_reducible refine hcall.mono ?_)
            rintro e w6 ⟨F, f, rfl, HFR, hd⟩
            have HN := Aside0.mk (nb25 w6 (.slice F n1 f) (.slice A2 n2 c2) (.int .i64 sw))
            have HB6 := Aside0.mk (below_step HB5.out hd)
            have HD6 := Aside0.mk hd
            clear hcall hd p0 p1 q0 q1 q2 q3 q4 HA HA0
            dsimp only
            go_upto_region 9 with fail
            obtain ⟨w7, hwb⟩ : ∃ w7 : World, w7 = w6.alloc (Obj.cells #[.slice F n1 f, .slice A2 n2 c2, .int .i64 sw] 25) := ⟨_, rfl⟩
            obtain ⟨g, hg⟩ : ∃ g, g = w6.heap.size := ⟨_, rfl⟩
            rw [← hwb, ← hg]
            obtain ⟨BG, hd⟩ := HN.out
            rw [← hwb] at BG hd
            rw [← hg] at BG
            have HXg := Aside0.mk BG
            have HB7 := Aside0.mk (below_step HB6.out hd)
            have HRF := Aside0.mk (rdR HFR.out hd)
            have HK7 := Aside0.mk (fun W' (h : Below w7.heap.size w7 W') => HK1.out W' (below_step HD6.out (below_step hd h)))
            clear hwb hg hd BG HN HB6 HFR HD6 HK1
            have hcall := HB1.out (by trivial) (by trivial) (by trivial) (by trivial) V1 v1c V2 v2c w7 HB7.out (HK7.out w7 (Below.refl _ _)).1 (HK7.out w7 (Below.refl _ _)).2
            obtain ⟨p0, p1⟩ := B2 HBA.out HB7.out
            obtain ⟨q0, q1, q2, q3, q4⟩ := B5 HBB.out HB7.out
            go_wp2_with fail
            (with_reducible refine hcall.mono ?_)
            rintro e w8 ⟨L, l, rfl, HLR, hd⟩
            have HN := Aside0.mk (nb25 w8 (.slice L (ii + (n1 - kk)) l) (.slice A2 n2 c2) (.int .i64 sw))
            have HB8 := Aside0.mk (below_step HB7.out hd)
            have HG8 := Aside0.mk (B3 HXg.out hd).1
            have HF8 := Aside0.mk (And.intro (Kd.C_below HRF.out.1 hd) HRF.out.2)
            clear hcall hd p0 p1 q0 q1 q2 q3 q4 HB1 HB0 HK7 HXg HRF
            dsimp only
            go_upto_region 10 with fail
            obtain ⟨w9, hwb⟩ : ∃ w9 : World, w9 = w8.alloc (Obj.cells #[.slice L (ii + (n1 - kk)) l, .slice A2 n2 c2, .int .i64 sw] 25) := ⟨_, rfl⟩
            obtain ⟨h, hg⟩ : ∃ h, h = w8.heap.size := ⟨_, rfl⟩
            rw [← hwb, ← hg]
            obtain ⟨BG, hd⟩ := HN.out
            rw [← hwb] at BG hd
            rw [← hg] at BG
            have HXh := Aside0.mk BG
            have HB9 := Aside0.mk (below_step HB8.out hd)
            have HRL := Aside0.mk (rdR HLR.out hd)
            have HG9 := Aside0.mk ((B3 HG8.out hd).1)
            have HF9 := Aside0.mk (And.intro (Kd.C_below HF8.out.1 hd) HF8.out.2)
            clear hwb hg hd BG HN HB8 HLR HG8 HF8
            have HST := Aside0.mk (show ∀ w' w2, BxT b (.slice A0 n1 c0) (.slice A1 n1 c1) (.slice A2 n2 c2) (.slice A3 n3 c3) (.slice A4 n4 c4) (.int .i64 sw) (.int .i64 unk) w9 w' → Below w'.heap.size w' w2 → BxT b (.slice A0 n1 c0) (.slice A1 n1 c1) (.slice A2 n2 c2) (.slice A3 n3 c3) (.slice A4 n4 c4) (.int .i64 sw) (.int .i64 unk) w9 w2 from fun w' w2 h hb => BxT.of HBA.out HBB.out HB9.out (below_step h.2.2.2.2.2.2.2.out hb))
            have HSL := Aside0.mk (show ∀ w' w2, BxT b (.slice A0 n1 c0) (.slice A1 n1 c1) (.slice A2 n2 c2) (.slice A3 n3 c3) (.slice A4 n4 c4) (.int .i64 sw) (.int .i64 unk) w9 w' → Below w'.heap.size w' w2 → Aside0 (Below w9.heap.size w9 w2) from fun w' w2 h hb => ⟨below_step h.2.2.2.2.2.2.2.out hb⟩)
            have HSS := Aside0.mk (show ∀ w' p u, p.block = w9.heap.size → BxT b (.slice A0 n1 c0) (.slice A1 n1 c1) (.slice A2 n2 c2) (.slice A3 n3 c3) (.slice A4 n4 c4) (.int .i64 sw) (.int .i64 unk) w9 w' → BxT b (.slice A0 n1 c0) (.slice A1 n1 c1) (.slice A2 n2 c2) (.slice A3 n3 c3) (.slice A4 n4 c4) (.int .i64 sw) (.int .i64 unk) w9 (w'.setCell p u) from fun w' p u hp h => BxT.set HBA.out HBB.out HB9.out h p u hp)
            have HTC := Aside0.mk (show ∀ w', BxT b (.slice A0 n1 c0) (.slice A1 n1 c1) (.slice A2 n2 c2) (.slice A3 n3 c3) (.slice A4 n4 c4) (.int .i64 sw) (.int .i64 unk) w9 w' → _ from fun w' h => HM.out (by trivial) (by trivial) (by trivial) (by trivial) w' (below_step HB9.out h.2.2.2.2.2.2.2.out))
            have HZB := Aside0.mk (show ∀ w', Below (w9.drew.alloc (Obj.cells #[.slice none 0 0, .slice none 0 0, .int .i64 0] 25)).heap.size (w9.drew.alloc (Obj.cells #[.slice none 0 0, .slice none 0 0, .int .i64 0] 25)) w' → w'.heap[w9.heap.size]? = some (.cells #[.slice none 0 0, .slice none 0 0, .int .i64 0] 25 (0, 0)) from fun w' hb => blk_Kp (S := fun _ => False) (nb25 w9.drew _ _ _).1 (Kp.of_below hb) (fun h => h))
            have HS := BxT.of HBA.out HBB.out HB9.out (Below.refl w9.heap.size w9)
            unfold BxT at HS
            go_cut [16, 17] from 103 to 117 (fun sa sb wx => ∃ i G gc, sa = .pointer (some ⟨i, 0, none⟩) ∧ sb = .int .i64 0 ∧ BoxR w9 wx i G gc (kk - ii) A2 n2 c2 sw ((o1.drop ii).take (kk - ii)))
            case first =>
              go_region_held3 (fun w' => w'.cell? ⟨b, 0, none⟩ = some (.slice A0 n1 c0) ∧ w'.cell? ⟨b, 1, none⟩ = some (.slice A1 n1 c1) ∧ w'.cell? ⟨b + 1, 0, none⟩ = some (.slice A2 n2 c2) ∧ w'.cell? ⟨b + 1, 1, none⟩ = some (.slice A3 n3 c3) ∧ w'.cell? ⟨b + 1, 2, none⟩ = some (.slice A4 n4 c4) ∧ w'.cell? ⟨b + 1, 3, none⟩ = some (.int .i64 sw) ∧ w'.cell? ⟨b + 1, 4, none⟩ = some (.int .i64 unk) ∧ Aside0 (Below w9.heap.size w9 w'))
                (first | exact HST.out _ _ (by assumption) (below_drew1 (Below.refl _ _)) | exact HST.out _ _ (by assumption) (by assumption) | exact HST.out _ _ (by assumption) (below_alloc (Below.refl _ _) _) | exact BxT.of HBA.out HBB.out HB9.out (below_alloc HBN.out _) | exact HSS.out _ _ _ rfl (HSS.out _ _ _ rfl (HSS.out _ _ _ rfl (by assumption))))
                ((first | (go_at_call 15; refine (HTC.out _ ?c1).mono ?_; (case c1 => assumption); rintro e wn ⟨G, gc, rfl, HGR, hbn⟩; have HBN := HSL.out _ _ (by assumption) hbn; (try (have hzb := HZB.out wn hbn; have z0 := cell_of_block hzb 0 _ rfl; have z1 := cell_of_block hzb 1 _ rfl; have z2 := cell_of_block hzb 2 _ rfl; have y0 := blk_frozen hzb 0; have y1 := blk_frozen hzb 1; have y2 := blk_frozen hzb 2; have HZ5 := Aside0.mk hzb; clear hzb)))))
              all_goals (go_wp2_with fail; go_meet)
              all_goals first
                | exact ⟨_, _, _, rfl, rfl, BoxR.below (BoxR.late HGR.out HBN.out) (by first | exact Below.refl _ _ | exact below_drew1 (Below.refl _ _))⟩
                | exact ⟨_, _, _, rfl, rfl, BoxR.below (BoxR.early HGR.out HBN.out (by simp) HZ5.out) (by first | exact Below.refl _ _ | exact below_drew1 (Below.refl _ _))⟩
            case rest =>
              obtain ⟨i, G, gc, rfl, rfl, hX⟩ := hcut
              obtain ⟨w10, hw10⟩ : ∃ w10, w10 = wc := ⟨_, rfl⟩
              rw [← hw10] at hX ⊢
              have hd := hX.2.2
              have HB10 := Aside0.mk (below_step HB9.out hd)
              have HGb := Aside0.mk (B3 HG9.out hd).1
              have HHb := Aside0.mk (B3 HXh.out hd).1
              have HIb := Aside0.mk hX.1
              have HFr := Aside0.mk (And.intro (Kd.C_below HF9.out.1 hd) HF9.out.2)
              have HLr := Aside0.mk (And.intro (Kd.C_below HRL.out.1 hd) HRL.out.2)
              have HGr := Aside0.mk hX.2.1
              clear hw10 hX hd HM HM0 HTC HST HSS HSL HZB HG9 HXh HF9 HRL HS HB9
              have hcall := HR1.out (by trivial) (by trivial) (by trivial) L l G gc w10 HB10.out HLr.out HGr.out
              obtain ⟨_, h0, h1, h2⟩ := B3 HHb.out (Below.refl _ _)
              obtain ⟨_, i0, i1, i2⟩ := B3 HIb.out (Below.refl _ _)
              go_wp2_with fail
              (with_reducible refine hcall.mono ?_)
              rintro e w11 ⟨H, hc, H', hc', rfl, HHR, hd⟩
              have HN := Aside0.mk (nb25 w11 (.slice H n1 hc) (.slice H' n2 hc') (.int .i64 sw))
              have HB11 := Aside0.mk (below_step HB10.out hd)
              have HG11 := Aside0.mk (B3 HGb.out hd).1
              have HH11 := Aside0.mk (B3 HHb.out hd).1
              have HF11 := Aside0.mk (And.intro (Kd.C_below HFr.out.1 hd) HFr.out.2)
              have HL11 := Aside0.mk (And.intro (Kd.C_below HLr.out.1 hd) HLr.out.2)
              clear hcall hd h0 h1 h2 i0 i1 i2 HR1 HGb HHb HIb HFr HLr HGr HB10
              dsimp only
              go_upto_region 16 with fail
              obtain ⟨w12, hwb⟩ : ∃ w12 : World, w12 = w11.alloc (Obj.cells #[.slice H n1 hc, .slice H' n2 hc', .int .i64 sw] 25) := ⟨_, rfl⟩
              obtain ⟨j, hg⟩ : ∃ j, j = w11.heap.size := ⟨_, rfl⟩
              rw [← hwb, ← hg]
              obtain ⟨BG, hd⟩ := HN.out
              rw [← hwb] at BG hd
              rw [← hg] at BG
              have HXj := Aside0.mk BG
              have HB12 := Aside0.mk (below_step HB11.out hd)
              have HG12 := Aside0.mk ((B3 HG11.out hd).1)
              have HH12 := Aside0.mk ((B3 HH11.out hd).1)
              have HF12 := Aside0.mk (And.intro (Kd.C_below HF11.out.1 hd) HF11.out.2)
              have HL12 := Aside0.mk (And.intro (Kd.C_below HL11.out.1 hd) HL11.out.2)
              have HR12 := Aside0.mk (And.intro (And.intro (Kd.C_below HHR.out.1.1 hd) HHR.out.1.2) (And.intro (Kd.C_below HHR.out.2.1 hd) HHR.out.2.2))
              clear hwb hg hd BG HN HB11 HG11 HH11 HF11 HL11 HHR
              have hcall := HR2.out (by trivial) (by trivial) (by trivial) F f w12 HB12.out HF12.out
              obtain ⟨_, g0, g1', g2'⟩ := B3 HG12.out (Below.refl _ _)
              go_wp2_with fail
              (with_reducible refine hcall.mono ?_)
              rintro e w13 ⟨Q, qc, Q', qc', rfl, HQR, hd⟩
              have HN := Aside0.mk (nb25 w13 (.slice Q (ii + (n1 - kk)) qc) (.slice Q' n2 qc') (.int .i64 sw))
              have HB13 := Aside0.mk (below_step HB12.out hd)
              have HG13 := Aside0.mk (B3 HG12.out hd).1
              have HH13 := Aside0.mk (B3 HH12.out hd).1
              have HJ13 := Aside0.mk (B3 HXj.out hd).1
              have HF13 := Aside0.mk (And.intro (Kd.C_below HF12.out.1 hd) HF12.out.2)
              have HL13 := Aside0.mk (And.intro (Kd.C_below HL12.out.1 hd) HL12.out.2)
              have HR13 := Aside0.mk (And.intro (And.intro (Kd.C_below HR12.out.1.1 hd) HR12.out.1.2) (And.intro (Kd.C_below HR12.out.2.1 hd) HR12.out.2.2))
              clear hcall hd g0 g1' g2' HR2 HG12 HH12 HXj HF12 HL12 HR12 HB12
              dsimp only
              go_upto_region 17 with fail
              obtain ⟨w14, hwb⟩ : ∃ w14 : World, w14 = w13.alloc (Obj.cells #[.slice Q (ii + (n1 - kk)) qc, .slice Q' n2 qc', .int .i64 sw] 25) := ⟨_, rfl⟩
              obtain ⟨q, hg⟩ : ∃ q, q = w13.heap.size := ⟨_, rfl⟩
              rw [← hwb, ← hg]
              obtain ⟨BG, hd⟩ := HN.out
              rw [← hwb] at BG hd
              rw [← hg] at BG
              have HXq := Aside0.mk BG
              have HB14 := Aside0.mk (below_step HB13.out hd)
              have HG14 := Aside0.mk ((B3 HG13.out hd).1)
              have HH14 := Aside0.mk ((B3 HH13.out hd).1)
              have HJ14 := Aside0.mk ((B3 HJ13.out hd).1)
              have HF14 := Aside0.mk (And.intro (Kd.C_below HF13.out.1 hd) HF13.out.2)
              have HL14 := Aside0.mk (And.intro (Kd.C_below HL13.out.1 hd) HL13.out.2)
              have HR14 := Aside0.mk (And.intro (And.intro (Kd.C_below HR13.out.1.1 hd) HR13.out.1.2) (And.intro (Kd.C_below HR13.out.2.1 hd) HR13.out.2.2))
              have HQ14 := Aside0.mk (And.intro (And.intro (Kd.C_below HQR.out.1.1 hd) HQR.out.1.2) (And.intro (Kd.C_below HQR.out.2.1 hd) HQR.out.2.2))
              clear hwb hg hd BG HN HB13 HG13 HH13 HJ13 HF13 HL13 HR13 HQR
              have hlo := HL.out (by trivial) (by trivial) (by trivial)
              have HS1 := Aside0.mk (show ∀ W', Below w14.heap.size w14 W' → Calls Try.prog 17 #[.agg #[.slice H n1 hc, .slice H' n2 hc', .int .i64 sw], .agg #[.slice F n1 f, .slice A2 n2 c2, .int .i64 sw]] W' fun e w' => e = .returned (.bool true) ∧ Below W'.heap.size W' w' from
                fun W' h => HS.out (by trivial) (by trivial) (by trivial) o1 n1 H hc H' hc' F f A2 c2 W' hlo (by omega) (fun c h => h) ⟨Kd.C_below HR14.out.1.1 h, HR14.out.1.2⟩ ⟨Kd.C_below HR14.out.2.1 h, HR14.out.2.2⟩ ⟨Kd.C_below HF14.out.1 h, HF14.out.2⟩ (HINS.out W' (below_step HB14.out h)))
              have HS2 := Aside0.mk (show ∀ W', Below w14.heap.size w14 W' → Calls Try.prog 17 #[.agg #[.slice Q (ii + (n1 - kk)) qc, .slice Q' n2 qc', .int .i64 sw], .agg #[.slice L (ii + (n1 - kk)) l, .slice A2 n2 c2, .int .i64 sw]] W' fun e w' => e = .returned (.bool true) ∧ Below W'.heap.size W' w' from
                fun W' h => HS.out (by trivial) (by trivial) (by trivial) (o1.take ii ++ o1.drop kk) (ii + (n1 - kk)) Q qc Q' qc' L l A2 c2 W' (by have := HIKN.out; simp [hlo]; omega) (by have := HIKN.out; simp [hlo]; omega) (fun c h => (List.mem_append.1 h).elim List.mem_of_mem_take List.mem_of_mem_drop) ⟨Kd.C_below HQ14.out.1.1 h, HQ14.out.1.2⟩ ⟨Kd.C_below HQ14.out.2.1 h, HQ14.out.2.2⟩ ⟨Kd.C_below HL14.out.1 h, HL14.out.2⟩ (HINS.out W' (below_step HB14.out h)))
              have haw := awake_calls w14
              clear hlo HS HL HF14 HL14 HR14 HQ14
              go_wp2_with fail
              (with_reducible refine haw.mono ?_)
              rintro e w15 ⟨rfl, hd⟩
              have HB15 := Aside0.mk hd
              have hcall := HS1.out w15 hd
              obtain ⟨_, g0, g1', g2'⟩ := B3 HG14.out hd
              obtain ⟨_, j0, j1, j2⟩ := B3 HJ14.out hd
              clear haw hd HS1
              dsimp only
              go_wp2_with fail
              (with_reducible refine hcall.mono ?_)
              rintro e w16 ⟨rfl, hd⟩
              have hd16 := below_step HB15.out hd
              have HB16 := Aside0.mk hd16
              have hcall := HS2.out w16 hd16
              obtain ⟨_, h0, h1, h2⟩ := B3 HH14.out hd16
              obtain ⟨_, q0, q1, q2⟩ := B3 HXq.out hd16
              clear hd hd16 HS2 g0 g1' g2' j0 j1 j2 HB15
              dsimp only
              go_wp2_with fail
              (with_reducible refine hcall.mono ?_)
              rintro e w17 ⟨rfl, hd⟩
              have HB17 := Aside0.mk (below_step HB16.out hd)
              clear hcall hd h0 h1 h2 q0 q1 q2
              dsimp only
              go_wp2_with fail
              go_ret
              exact ⟨rfl, below_step HB.out (below_step HB14.out HB17.out)⟩
          · have ho1 : decide (o4 = 0) = false := by simp [ho]
            have ho2 : (o4 != 0) = true := by simp [ho]
            have ho3 : (o4 == 0) = false := by simp [ho]
            have hcall := HA0.out (by trivial) (by trivial) (by trivial) w5 HB5.out
            obtain ⟨p0, p1⟩ := B2 HBA.out HB5.out
            obtain ⟨q0, q1, q2, q3, q4⟩ := B5 HBB.out HB5.out
            go_wp2_with fail
            (with_reducible refine hcall.mono ?_)
            rintro e w6 ⟨F, m6, f, F', m6', f', y6, rfl, hd⟩
            have HN := Aside0.mk (nb25 w6 (.slice F m6 f) (.slice F' m6' f') (.int .i64 y6))
            have HB6 := Aside0.mk (below_step HB5.out hd)
            have HD6 := Aside0.mk hd
            clear hcall hd p0 p1 q0 q1 q2 q3 q4 HA HA0
            dsimp only
            go_upto_region 9 with fail
            obtain ⟨w7, hwb⟩ : ∃ w7 : World, w7 = w6.alloc (Obj.cells #[.slice F m6 f, .slice F' m6' f', .int .i64 y6] 25) := ⟨_, rfl⟩
            obtain ⟨g, hg⟩ : ∃ g, g = w6.heap.size := ⟨_, rfl⟩
            rw [← hwb, ← hg]
            obtain ⟨BG, hd⟩ := HN.out
            rw [← hwb] at BG hd
            rw [← hg] at BG
            have HXg := Aside0.mk BG
            have HB7 := Aside0.mk (below_step HB6.out hd)
            have HK7 := Aside0.mk (fun W' (h : Below w7.heap.size w7 W') => HK1.out W' (below_step HD6.out (below_step hd h)))
            clear hwb hg hd BG HN HB6 HD6 HK1
            have hcall := HB0.out (by trivial) (by trivial) (by trivial) V1 v1c V2 v2c w7 HB7.out (HK7.out w7 (Below.refl _ _)).1 (HK7.out w7 (Below.refl _ _)).2
            obtain ⟨p0, p1⟩ := B2 HBA.out HB7.out
            obtain ⟨q0, q1, q2, q3, q4⟩ := B5 HBB.out HB7.out
            go_wp2_with fail
            (with_reducible refine hcall.mono ?_)
            rintro e w8 ⟨L, m8, l, L', m8', l', y8, rfl, hd⟩
            have HN := Aside0.mk (nb25 w8 (.slice L m8 l) (.slice L' m8' l') (.int .i64 y8))
            have HB8 := Aside0.mk (below_step HB7.out hd)
            clear hcall hd p0 p1 q0 q1 q2 q3 q4 HB1 HB0 HK7
            dsimp only
            go_upto_region 10 with fail
            obtain ⟨w9, hwb⟩ : ∃ w9 : World, w9 = w8.alloc (Obj.cells #[.slice L m8 l, .slice L' m8' l', .int .i64 y8] 25) := ⟨_, rfl⟩
            obtain ⟨h, hg⟩ : ∃ h, h = w8.heap.size := ⟨_, rfl⟩
            rw [← hwb, ← hg]
            obtain ⟨BG, hd⟩ := HN.out
            rw [← hwb] at BG hd
            rw [← hg] at BG
            have HXh := Aside0.mk BG
            have HB9 := Aside0.mk (below_step HB8.out hd)
            clear hwb hg hd BG HN HB8 
            have HST := Aside0.mk (show ∀ w' w2, BxT b (.slice A0 n1 c0) (.slice A1 n1 c1) (.slice A2 n2 c2) (.slice A3 n3 c3) (.slice A4 n4 c4) (.int .i64 sw) (.int .i64 unk) w9 w' → Below w'.heap.size w' w2 → BxT b (.slice A0 n1 c0) (.slice A1 n1 c1) (.slice A2 n2 c2) (.slice A3 n3 c3) (.slice A4 n4 c4) (.int .i64 sw) (.int .i64 unk) w9 w2 from fun w' w2 h hb => BxT.of HBA.out HBB.out HB9.out (below_step h.2.2.2.2.2.2.2.out hb))
            have HSL := Aside0.mk (show ∀ w' w2, BxT b (.slice A0 n1 c0) (.slice A1 n1 c1) (.slice A2 n2 c2) (.slice A3 n3 c3) (.slice A4 n4 c4) (.int .i64 sw) (.int .i64 unk) w9 w' → Below w'.heap.size w' w2 → Aside0 (Below w9.heap.size w9 w2) from fun w' w2 h hb => ⟨below_step h.2.2.2.2.2.2.2.out hb⟩)
            have HSS := Aside0.mk (show ∀ w' p u, p.block = w9.heap.size → BxT b (.slice A0 n1 c0) (.slice A1 n1 c1) (.slice A2 n2 c2) (.slice A3 n3 c3) (.slice A4 n4 c4) (.int .i64 sw) (.int .i64 unk) w9 w' → BxT b (.slice A0 n1 c0) (.slice A1 n1 c1) (.slice A2 n2 c2) (.slice A3 n3 c3) (.slice A4 n4 c4) (.int .i64 sw) (.int .i64 unk) w9 (w'.setCell p u) from fun w' p u hp h => BxT.set HBA.out HBB.out HB9.out h p u hp)
            have HTC := Aside0.mk (show ∀ w', BxT b (.slice A0 n1 c0) (.slice A1 n1 c1) (.slice A2 n2 c2) (.slice A3 n3 c3) (.slice A4 n4 c4) (.int .i64 sw) (.int .i64 unk) w9 w' → _ from fun w' h => HM0.out (by trivial) (by trivial) (by trivial) w' (below_step HB9.out h.2.2.2.2.2.2.2.out))
            have HZB := Aside0.mk (show ∀ w', Below (w9.drew.alloc (Obj.cells #[.slice none 0 0, .slice none 0 0, .int .i64 0] 25)).heap.size (w9.drew.alloc (Obj.cells #[.slice none 0 0, .slice none 0 0, .int .i64 0] 25)) w' → w'.heap[w9.heap.size]? = some (.cells #[.slice none 0 0, .slice none 0 0, .int .i64 0] 25 (0, 0)) from fun w' hb => blk_Kp (S := fun _ => False) (nb25 w9.drew _ _ _).1 (Kp.of_below hb) (fun h => h))
            have HS := BxT.of HBA.out HBB.out HB9.out (Below.refl w9.heap.size w9)
            unfold BxT at HS
            go_cut [16, 17] from 103 to 117 (fun sa sb wx => ∃ i, sa = .pointer (some ⟨i, 0, none⟩) ∧ sb = .int .i64 ze2 ∧ Below w9.heap.size w9 wx)
            case first =>
              go_region_held3 (fun w' => w'.cell? ⟨b, 0, none⟩ = some (.slice A0 n1 c0) ∧ w'.cell? ⟨b, 1, none⟩ = some (.slice A1 n1 c1) ∧ w'.cell? ⟨b + 1, 0, none⟩ = some (.slice A2 n2 c2) ∧ w'.cell? ⟨b + 1, 1, none⟩ = some (.slice A3 n3 c3) ∧ w'.cell? ⟨b + 1, 2, none⟩ = some (.slice A4 n4 c4) ∧ w'.cell? ⟨b + 1, 3, none⟩ = some (.int .i64 sw) ∧ w'.cell? ⟨b + 1, 4, none⟩ = some (.int .i64 unk) ∧ Aside0 (Below w9.heap.size w9 w'))
                (first | exact HST.out _ _ (by assumption) (below_drew1 (Below.refl _ _)) | exact HST.out _ _ (by assumption) (by assumption) | exact HST.out _ _ (by assumption) (below_alloc (Below.refl _ _) _) | exact BxT.of HBA.out HBB.out HB9.out (below_alloc HBN.out _) | exact HSS.out _ _ _ rfl (HSS.out _ _ _ rfl (HSS.out _ _ _ rfl (by assumption))))
                ((first | (go_at_call 15; refine (HTC.out _ ?c1).mono ?_; (case c1 => assumption); rintro e wn ⟨G, m9, gc, G', m9', gc', y9, rfl, hbn⟩; have HBN := HSL.out _ _ (by assumption) hbn; (try (have hzb := HZB.out wn hbn; have z0 := cell_of_block hzb 0 _ rfl; have z1 := cell_of_block hzb 1 _ rfl; have z2 := cell_of_block hzb 2 _ rfl; have y0 := blk_frozen hzb 0; have y1 := blk_frozen hzb 1; have y2 := blk_frozen hzb 2; have HZ5 := Aside0.mk hzb; clear hzb)))))
              all_goals (go_wp2_with fail; go_meet)
              all_goals first
                | exact ⟨_, rfl, rfl, below_drew1 (below_alloc HBN.out _)⟩
                | exact ⟨_, rfl, rfl, below_alloc HBN.out _⟩
                | exact ⟨_, rfl, rfl, below_set3 HBN.out _ _ _⟩
                | exact ⟨_, rfl, rfl, below_drew1 (below_set3 HBN.out _ _ _)⟩
            case rest =>
              obtain ⟨i, rfl, rfl, hX⟩ := hcut
              have HB10 := Aside0.mk (below_step HB9.out hX)
              have haw := awake_calls wc
              clear hX HM HM0 HTC HST HSS HSL HZB HS
              go_wp2_with fail
              (with_reducible refine haw.mono ?_)
              rintro e w11 ⟨rfl, hd⟩
              have HB11 := Aside0.mk (below_step HB10.out hd)
              clear haw hd
              dsimp only
              go_wp2_with fail
              go_ret
              exact ⟨rfl, below_step HB.out HB11.out⟩
      · have e1 : ((n1 : Int) != (n0 : Int)) = true := by simp; omega
        go_wp2_with fail
        (with_reducible refine hcall2.mono ?_)
        rintro e w3 ⟨rfl, hd⟩
        have hd3 := below_step HB2.out hd
        obtain ⟨p0, p1⟩ := B2 HBA.out hd3
        have HB3 := Aside0.mk (below_step HB.out hd3)
        have haw := awake_calls w3
        clear hcall2 hd HB2 q0 q1 q2 q3 q4 hd3
        dsimp only
        go_wp2_with fail
        (with_reducible refine haw.mono ?_)
        rintro e w4 ⟨rfl, hb3⟩
        have HB4 := Aside0.mk (below_step HB3.out hb3)
        clear haw hb3
        dsimp only
        go_wp2_with fail
        go_ret
        exact ⟨rfl, HB4.out⟩
end Go.Proofs.Ytcigcacjjdpgfaa.Hand
