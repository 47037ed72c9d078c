import Derived.Test.YtkaedhooccpniaaHandAwake
import Derived.Test.YtkaedhooccpniaaHandUseS
import Derived.Test.YtkaedhooccpniaaHandUseC
import Derived.Test.YtkaedhooccpniaaPureJoinC
/- The law AnalysisFirstAndFollow returns true: by hand. -/
namespace Go.Proofs.Ytkaedhooccpniaa.Hand
open Go.RowKit Go.Proofs.YtkaedhooccpniaaW.PrintWords Go.Proofs.YtkaedhooccpniaaW.PrintLast Go.Proofs.YtkaedhooccpniaaW.PrintMore Go.Proofs.Ytkaedhooccpniaa.PA
set_option linter.unusedVariables false
set_option linter.unusedSimpArgs false
set_option maxHeartbeats 4000000 in
set_option maxRecDepth 100000 in
theorem lawFF_calls (A0 : Option Addr) (c0 : Nat) (l0 : List ByteArray) (A1 : Option Addr) (c1 : Nat) (l1 : List ByteArray) (st : Int) (A3 : Option Addr) (c3 : Nat) (rules : List S41) (w : World) (h : GA A0 c0 l0 A1 c1 l1 A3 c3 rules w) :
    Calls Try.prog 6 #[.agg #[.slice A0 l0.length c0, .slice A1 l1.length c1, .int .i64 st, .slice A3 rules.length c3]] w fun e w' => e = .returned (.bool true) ∧ Below w.heap.size w w' := by
  have hu25 := Try.underlying25
  obtain ⟨b, hsm, hb⟩ := small_ex l0 l1 st rules
  obtain ⟨m0, hm0⟩ : ∃ m0, m0 = l0.length := ⟨_, rfl⟩
  obtain ⟨n, hn⟩ : ∃ n, n = l1.length := ⟨_, rfl⟩
  obtain ⟨mr, hmr⟩ : ∃ mr, mr = rules.length := ⟨_, rfl⟩
  obtain ⟨wa, hwa⟩ : ∃ wa : World, wa = w.alloc (Obj.cells #[.slice A0 m0 c0, .slice A1 n c1, .int .i64 st, .slice A3 mr c3] 25) := ⟨_, rfl⟩
  obtain ⟨gb, hgb⟩ : ∃ gb, gb = w.heap.size := ⟨_, rfl⟩
  have hba : Below w.heap.size w wa := by rw [hwa]; exact below_alloc (Below.refl _ _) _
  have BG : wa.heap[gb]? = some (Obj.cells #[.slice A0 m0 c0, .slice A1 n c1, .int .i64 st, .slice A3 mr c3] 25 (0, 0)) := by rw [hwa]; exact blk_new hgb
  have HBA := Aside0.mk hba
  have HBG := Aside0.mk BG
  have HST := Aside0.mk (show ∀ w' w2, GbT gb (.slice A0 m0 c0) (.slice A1 n c1) (.int .i64 st) (.slice A3 mr c3) wa w' → Below w'.heap.size w' w2 → GbT gb (.slice A0 m0 c0) (.slice A1 n c1) (.int .i64 st) (.slice A3 mr c3) wa w2 from fun w' w2 h hb => GbT.of BG (below_step h.2.2.2.2.out hb))
  have HS := Aside0.mk (show ∀ W', GbT gb (.slice A0 m0 c0) (.slice A1 n c1) (.int .i64 st) (.slice A3 mr c3) wa W' → Calls Try.prog 11 #[.agg #[.slice A0 m0 c0, .slice A1 n c1, .int .i64 st, .slice A3 mr c3]] W' fun e w' => e = .returned (.bool b) ∧ Below W'.heap.size W' w' from fun W' hg => by
    rw [hm0, hn, hmr]
    exact use11 (h.below (below_step hba hg.2.2.2.2.out)) b hsm)
  have haw := awake_calls wa
  have HN := Aside0.mk (show b = true → ∃ x1 x2 : List (List Int), n ≤ 1000 ∧ ((∀ l ∈ x1, l.length ≤ 1000000) ∧ ∀ l ∈ x2, l.length ≤ 1000000) ∧ ∀ W', GbT gb (.slice A0 m0 c0) (.slice A1 n c1) (.int .i64 st) (.slice A3 mr c3) wa W' → Calls Try.prog 22 #[.agg #[.slice A0 m0 c0, .slice A1 n c1, .int .i64 st, .slice A3 mr c3]] W' (RetL n x1 W') ∧ Calls Try.prog 23 #[.agg #[.slice A0 m0 c0, .slice A1 n c1, .int .i64 st, .slice A3 mr c3]] W' (RetL n x1 W') ∧ Calls Try.prog 24 #[.agg #[.slice A0 m0 c0, .slice A1 n c1, .int .i64 st, .slice A3 mr c3]] W' (RetL n x2 W') ∧ Calls Try.prog 25 #[.agg #[.slice A0 m0 c0, .slice A1 n c1, .int .i64 st, .slice A3 mr c3]] W' (RetL n x2 W') from fun e => by
    have hg := hb e
    have hn1 := hg.n1
    have ht1 := hg.t1
    obtain ⟨bs, k1, k2⟩ := heads_ev false hg
    obtain ⟨ft, f1, f2⟩ := first_ev hg bs
    obtain ⟨ot, o1, o2⟩ := fol_ev hg f2
    refine ⟨listsOf ft l1.length 0 l0.length, listsOf ot l1.length (-1) l0.length, by rw [hn]; exact hg.n1, ⟨listsOf_small _ _ _ _ (by omega), listsOf_small _ _ _ _ (by omega)⟩, fun W' hG => ?_⟩
    rw [hm0, hn, hmr]
    have hh := h.below (below_step hba hG.2.2.2.2.out)
    exact ⟨use22 hh hg.tok (by omega) (Ev.both k1 f1), use23 hh (listsOf_len _ _ _ _) (rfirst_ev hg k2 f2).get, use24 hh hg.tok (by omega) (Ev.three k1 f1 o1), use25 hh (listsOf_len _ _ _ _) (rfol_ev hg k2 o2).get⟩)
  rw [← hm0, ← hn, ← hmr]
  clear hba BG h hm0 hn hmr hsm hb
  go_enter Try.func6, Try.ntmps6
  go_upto_region 1 with fail
  rw [← hwa, ← hgb]
  clear hwa hgb
  go_wp2_with fail
  (with_reducible refine haw.mono ?_)
  rintro e w1 ⟨rfl, hb1⟩
  have HG1 := GbT.of HBG.out hb1
  unfold GbT at HG1
  clear haw hb1
  dsimp only
  obtain ⟨g0, g1, g2, g3, hgb⟩ := HG1
  have hS := HS.out w1 ⟨g0, g1, g2, g3, hgb⟩
  have HGB := Aside0.mk hgb.out
  clear hgb
  go_wp2_with fail
  (with_reducible refine hS.mono ?_)
  rintro e w2 ⟨rfl, hb2⟩
  have HGB2 := Aside0.mk (below_step HGB.out hb2)
  clear hS hb2 g0 g1 g2 g3
  dsimp only
  cases b
  · go_wp2_with fail
    go_ret
    exact ⟨rfl, below_step HBA.out HGB2.out⟩
  · obtain ⟨x1, x2, hn1, hls, hc⟩ := HN.out rfl
    have HC := Aside0.mk hc
    have HLS := Aside0.mk hls
    have hG2 := GbT.of HBG.out HGB2.out
    unfold GbT at hG2
    clear hc HN hls
    go_upto_region 5 with fail
    go_region_held3 (fun w' => w'.cell? ⟨gb, 0, none⟩ = some (.slice A0 m0 c0) ∧ w'.cell? ⟨gb, 1, none⟩ = some (.slice A1 n c1) ∧ w'.cell? ⟨gb, 2, none⟩ = some (.int .i64 st) ∧ w'.cell? ⟨gb, 3, none⟩ = some (.slice A3 mr c3) ∧ Aside0 (Below wa.heap.size wa w'))
      (first | exact HST.out _ _ (by assumption) (below_drew1 (Below.refl _ _)) | exact HST.out _ _ (by assumption) (by assumption) | assumption)
      ((first | (go_at_call 22; refine (HC.out _ ?c2).1.mono ?_; (case c2 => assumption); rintro e w3 ⟨B3, k3, rfl, HR3, hb3⟩) | (go_at_call 23; refine (HC.out _ ?c3).2.1.mono ?_; (case c3 => assumption); rintro e w4 ⟨B4, k4, rfl, HR4, hb4⟩) | (go_at_call 24; refine (HC.out _ ?c4).2.2.1.mono ?_; (case c4 => assumption); rintro e w6 ⟨B6, k6, rfl, HR6, hb6⟩) | (go_at_call 25; refine (HC.out _ ?c5).2.2.2.mono ?_; (case c5 => assumption); rintro e w7 ⟨B7, k7, rfl, HR7, hb7⟩) | (go_at_call 21; refine (use21 (by omega) (HLS.out.2) (Kd.C_below HR6.out.1 hb7) HR6.out.2 HR7.out.1 HR7.out.2).mono ?_; rintro e w8 ⟨rfl, hb8⟩) | (go_at_call 21; refine (use21 (by omega) (HLS.out.1) (Kd.C_below HR3.out.1 hb4) HR3.out.2 HR4.out.1 HR4.out.2).mono ?_; rintro e w5 ⟨rfl, hb5⟩)))
    all_goals
      go_wp2_with fail
      go_ret
      exact ⟨rfl, below_step HBA.out (show GbT gb _ _ _ _ wa _ by assumption).2.2.2.2.out⟩
end Go.Proofs.Ytkaedhooccpniaa.Hand
