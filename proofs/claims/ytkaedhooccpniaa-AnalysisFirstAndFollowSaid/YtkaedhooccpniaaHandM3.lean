import Derived.Test.YtkaedhooccpniaaHandM2
import Derived.BigRegion
/- analysis.First, by hand. -/
namespace Go.Proofs.Ytkaedhooccpniaa.Hand
open Go.RowKit Go.Proofs.YtkaedhooccpniaaW.PrintWords Go.Proofs.YtkaedhooccpniaaW.PrintLast Go.Proofs.YtkaedhooccpniaaW.PrintMore Go.Proofs.Ytkaedhooccpniaa.PA
set_option linter.unusedVariables false
set_option linter.unusedSimpArgs false
theorem scan_keep {σ : Type} {step : σ → S41 → σ × Bool} (Q : σ → Prop) (hq : ∀ s r, Q s → Q (step s r).1) : ∀ (rs : List S41) (s : σ), Q s → Q (scan step rs s).1
  | [], s, h => h
  | r :: rs, s, h => by
    rw [scan]
    split
    · exact hq s r h
    · exact scan_keep Q hq rs _ (hq s r h)
theorem run_keep {σ : Type} {step : σ → S41 → σ × Bool} (Q : σ → Prop) (hq : ∀ s r, Q s → Q (step s r).1) (rules : List S41) : ∀ (k : Nat) (s s' : σ), Q s → run step rules k s = some s' → Q s'
  | 0, s, s', h, hr => by simp [run] at hr
  | k + 1, s, s', h, hr => by
    rw [run] at hr
    split at hr
    · exact run_keep Q hq rules k _ _ (scan_keep Q hq rules s h) hr
    · cases hr
      exact scan_keep Q hq rules s h
theorem heads_len {tm : Bool} {k : Nat} {l0 l1 : List ByteArray} {st : Int} {rules : List S41} {r : List Bool} (h : heads.f tm k l0 l1 st rules = some r) : r.length = l1.length := by
  unfold heads.f at h
  split at h
  · refine run_keep (fun s => s.length = l1.length) (fun s r hs => ?_) rules k _ _ (by simp) h
    unfold headStep
    split
    · exact hs
    · split
      · simp [hs]
      · exact hs
  · cases h
/-- Nullable, in the form that its callers ask for. -/
theorem null_calls (k : Nat) (A0 : Option Addr) (c0 : Nat) (l0 : List ByteArray) (A1 : Option Addr) (c1 : Nat) (l1 : List ByteArray) (st : Int) (A3 : Option Addr) (c3 : Nat) (rules : List S41) (null : List Bool) (w : World)
    (hr0 : Kd.C Kd.string w A0 l0.length l0) (hc0 : l0.length ≤ c0) (hr1 : Kd.C Kd.string w A1 l1.length l1) (hc1 : l1.length ≤ c1) (hr3 : Kd.C k41 w A3 rules.length rules) (hc3 : rules.length ≤ c3) (h : heads.f false k l0 l1 st rules = some null) :
    Calls Try.prog 13 #[.agg #[.slice A0 l0.length c0, .slice A1 l1.length c1, .int .i64 st, .slice A3 rules.length c3]] w fun e w' => ∃ An cn, e = .returned (.slice An l1.length cn) ∧ Aside0 (Kd.C Kd.bool w' An l1.length null ∧ l1.length ≤ cn) ∧ Below w.heap.size w w' := by
  refine (analysis_Nullable.calls k A0 c0 l0 A1 c1 l1 st A3 c3 rules null w hr0 hc0 hr1 hc1 hr3 hc3 h).mono ?_
  rintro e w' ⟨v, rfl, hR, hb⟩
  obtain ⟨A, c, rfl, hl, hC⟩ := Kd.R_reads hR
  have hn := heads_len h
  rw [hn] at hl hC ⊢
  exact ⟨A, c, rfl, ⟨hC, hl⟩, hb⟩
def GbT (gb : Nat) (v0 v1 v2 v3 : Value) (wa w' : World) : Prop := w'.cell? ⟨gb, 0, none⟩ = some v0 ∧ w'.cell? ⟨gb, 1, none⟩ = some v1 ∧ w'.cell? ⟨gb, 2, none⟩ = some v2 ∧ w'.cell? ⟨gb, 3, none⟩ = some v3 ∧ Aside0 (Below wa.heap.size wa w')
theorem GbT.of {gb t : Nat} {v0 v1 v2 v3 : Value} {wa w' : World} (h : wa.heap[gb]? = some (.cells #[v0, v1, v2, v3] t (0, 0))) (hb : Below wa.heap.size wa w') : GbT gb v0 v1 v2 v3 wa w' := by
  have h2 := blk_below' h hb
  exact ⟨cell_of_block h2 0 _ rfl, cell_of_block h2 1 _ rfl, cell_of_block h2 2 _ rfl, cell_of_block h2 3 _ rfl, ⟨hb⟩⟩
set_option maxHeartbeats 8000000 in
set_option maxRecDepth 100000 in
theorem first_calls (k : Nat) (A0 : Option Addr) (c0 : Nat) (l0 : List ByteArray) (A1 : Option Addr) (c1 : Nat) (l1 : List ByteArray) (st : Int) (A3 : Option Addr) (c3 : Nat) (rules : List S41) (null : List Bool) (ftab : List (List Bool)) (w : World)
    (hr0 : Kd.C Kd.string w A0 l0.length l0) (hc0 : l0.length ≤ c0) (hr1 : Kd.C Kd.string w A1 l1.length l1) (hc1 : l1.length ≤ c1) (hr3 : Kd.C k41 w A3 rules.length rules) (hc3 : rules.length ≤ c3) (h : heads.f false k l0 l1 st rules = some null)
    (hT : TOK (l0.length + 1) rules) (hl0 : l0.length ≤ 100000) (hrun : run (firstStep (l0.length + 1) null) rules k (noSets l1.length (l0.length + 1)) = some ftab) :
    Calls Try.prog 22 #[.agg #[.slice A0 l0.length c0, .slice A1 l1.length c1, .int .i64 st, .slice A3 rules.length c3]] w fun e w' => ∃ v, e = .returned v ∧ Rd (Kd.slice 3 (Kd.int .i64)) w' v (listsOf ftab l1.length 0 l0.length) ∧ Below w.heap.size w w' := by
  have hu25 := Try.underlying25
  have hg : gokB l1.length st rules = true := by
    by_cases hg : gokB l1.length st rules = true
    · exact hg
    · rw [heads.f, if_neg hg] at h; cases h
  obtain ⟨hn0, hn1, hst, hG⟩ := gok_of hg
  obtain ⟨m0, hm0⟩ : ∃ m0, m0 = l0.length := ⟨_, rfl⟩
  obtain ⟨n, hn⟩ : ∃ n, n = l1.length := ⟨_, rfl⟩
  obtain ⟨mr, hmr⟩ : ∃ mr, mr = rules.length := ⟨_, rfl⟩
  obtain ⟨wa, hwa⟩ : ∃ wa : World, wa = w.alloc (Obj.cells #[.slice A0 m0 c0, .slice A1 n c1, .int .i64 st, .slice A3 mr c3] 25) := ⟨_, rfl⟩
  obtain ⟨gb, hgb⟩ : ∃ gb, gb = w.heap.size := ⟨_, rfl⟩
  have hb : Below w.heap.size w wa := by rw [hwa]; exact below_alloc (Below.refl _ _) _
  have BG : wa.heap[gb]? = some (Obj.cells #[.slice A0 m0 c0, .slice A1 n c1, .int .i64 st, .slice A3 mr c3] 25 (0, 0)) := by rw [hwa]; exact blk_new hgb
  have HN := Aside0.mk (show ∀ W', GbT gb (.slice A0 m0 c0) (.slice A1 n c1) (.int .i64 st) (.slice A3 mr c3) wa W' → Calls Try.prog 13 #[.agg #[.slice A0 m0 c0, .slice A1 n c1, .int .i64 st, .slice A3 mr c3]] W' fun e w' => ∃ An cn, e = .returned (.slice An n cn) ∧ Aside0 (Kd.C Kd.bool w' An n null ∧ n ≤ cn) ∧ Below W'.heap.size W' w' from fun W' hg => by
    have hbw := below_step hb hg.2.2.2.2.out
    rw [hm0, hn, hmr]
    exact null_calls k A0 c0 l0 A1 c1 l1 st A3 c3 rules null W' (Kd.C_below hr0 hbw) hc0 (Kd.C_below hr1 hbw) hc1 (Kd.C_below hr3 hbw) hc3 h)
  have HF := Aside0.mk (show ∀ W' An cn, GbT gb (.slice A0 m0 c0) (.slice A1 n c1) (.int .i64 st) (.slice A3 mr c3) wa W' → Kd.C Kd.bool W' An n null → Calls Try.prog 41 #[.agg #[.slice A0 m0 c0, .slice A1 n c1, .int .i64 st, .slice A3 mr c3], .slice An n cn] W' fun e w' => ∃ sb mb, e = .returned (.slice (some ⟨sb, 0, none⟩) n n) ∧ Aside0 (SetsI sb n mb ftab (m0 + 1) w') ∧ Below W'.heap.size W' w' from fun W' An cn hg hN => by
    have hbw := below_step hb hg.2.2.2.2.out
    rw [hmr]
    refine (firsts_calls A0 m0 c0 A1 n c1 st A3 c3 rules An cn (m0 + 1) null k ftab W' (by omega) (by omega) (by rw [heads_len h, hn]) hN (by rw [hn]; exact hG) (by rw [hm0]; exact hT) (Kd.C_below hr3 hbw) hc3 (by rw [hn, hm0]; exact hrun)).mono ?_
    rintro e w' ⟨sb, mb, he, h1, _, _, h2⟩
    exact ⟨sb, mb, he, ⟨h1⟩, h2⟩)
  have HL := Aside0.mk (show ∀ W' sb mb, SetsI sb n mb ftab (m0 + 1) W' → Calls Try.prog 42 #[.slice (some ⟨sb, 0, none⟩) n n, .int .i64 0, .int .i64 m0] W' fun e w' => ∃ v, e = .returned v ∧ Aside0 (Rd (Kd.slice 3 (Kd.int .i64)) w' v (listsOf ftab n 0 m0)) ∧ Below W'.heap.size W' w' from fun W' sb mb hS => by
    refine (lists_calls sb n (m0 + 1) mb ftab 0 m0 W' (by omega) hS (by omega) (by omega) (by omega) (by omega)).mono ?_
    rintro e w' ⟨v, he, h1, h2⟩
    exact ⟨v, he, ⟨h1⟩, h2⟩)
  have HB := Aside0.mk hb
  have HBG := Aside0.mk BG
  have HM := Aside0.mk (And.intro hm0 hn)
  have HS := GbT.of BG (Below.refl wa.heap.size wa)
  unfold GbT at HS
  have HST := Aside0.mk (show ∀ w' w2, GbT gb (.slice A0 m0 c0) (.slice A1 n c1) (.int .i64 st) (.slice A3 mr c3) wa w' → Below w'.heap.size w' w2 → GbT gb (.slice A0 m0 c0) (.slice A1 n c1) (.int .i64 st) (.slice A3 mr c3) wa w2 from fun w' w2 h hb => GbT.of BG (below_step h.2.2.2.2.out hb))
  rw [← hm0, ← hn, ← hmr]
  clear hb BG hr0 hc0 hr1 hc1 hr3 hc3 h hT hrun hg hG hst hm0 hn hmr
  go_enter Try.func22, Try.ntmps22
  go_upto_region 1 with fail
  rw [← hwa, ← hgb]
  clear hwa hgb
  go_region_held3 (fun w' => w'.cell? ⟨gb, 0, none⟩ = some (.slice A0 m0 c0) ∧ w'.cell? ⟨gb, 1, none⟩ = some (.slice A1 n c1) ∧ w'.cell? ⟨gb, 2, none⟩ = some (.int .i64 st) ∧ w'.cell? ⟨gb, 3, none⟩ = some (.slice A3 mr c3) ∧ Aside0 (Below wa.heap.size wa w'))
    (first | exact HST.out _ _ (by assumption) (below_drew1 (Below.refl _ _)) | exact HST.out _ _ (by assumption) (by assumption) | assumption)
    ((first | (go_at_call 13; refine (HN.out _ ?c1).mono ?_; (case c1 => assumption); rintro e w1 ⟨An, cn, rfl, HNR, hb1⟩) | (go_at_call 41; refine (HF.out _ An cn ?c2 HNR.out.1).mono ?_; (case c2 => assumption); rintro e w2 ⟨sb, mb, rfl, HSR, hb2⟩) | (go_at_call 42; refine (HL.out _ sb mb HSR.out).mono ?_; rintro e w3 ⟨v, rfl, HVR, hb3⟩)))
  go_wp2_with fail
  go_ret
  exact ⟨v, rfl, Rd.below HVR.out (by first | exact Below.refl _ _ | exact below_drew1 (Below.refl _ _)), below_step HB.out (show GbT gb _ _ _ _ wa _ by assumption).2.2.2.2.out⟩
end Go.Proofs.Ytkaedhooccpniaa.Hand
/- Follow's function, by hand. -/
namespace Go.Proofs.Ytkaedhooccpniaa.Hand
open Go.RowKit Go.Proofs.YtkaedhooccpniaaW.PrintWords Go.Proofs.YtkaedhooccpniaaW.PrintLast Go.Proofs.YtkaedhooccpniaaW.PrintMore Go.Proofs.Ytkaedhooccpniaa.PA
set_option linter.unusedVariables false
set_option linter.unusedSimpArgs false
/-- The row of k takes in another, and says whether it has grown. -/
def addTo (tab : List (List Bool)) (k : Nat) (row : List Bool) : List (List Bool) × Bool := (tab.set k (orRow (tab.getD k []) row), decide ((tab.getD k []).count true < (orRow (tab.getD k []) row).count true))
def folAt (wd : Nat) (null : List Bool) (ftab : List (List Bool)) (r : S41) (s : List (List Bool) × Bool) (i : Nat) : List (List Bool) × Bool :=
  if 0 ≤ r.f1.getD i 0 then s
  else
    let b := beg ftab null (r.f1.drop (i + 1)) (List.replicate wd false)
    let s1 := addTo s.1 (-1 - r.f1.getD i 0).toNat b.1
    if b.2 = true then
      let s2 := addTo s1.1 (-1 - r.f1.getD i 0).toNat (s1.1.getD r.f0.toNat [])
      (s2.1, s2.2 || (s1.2 || s.2))
    else (s1.1, s1.2 || s.2)
def folStep (wd : Nat) (null : List Bool) (ftab : List (List Bool)) (tab : List (List Bool)) (r : S41) : List (List Bool) × Bool := (List.range r.f1.length).foldl (folAt wd null ftab r) (tab, false)
/-- What lies where, in Follow. -/
structure FolI (s5 nb fb sb fs n wd cn : Nat) (mb fm : List Nat) (An : Option Addr) (ftab tab : List (List Bool)) (W : World) : Prop where
  s : SetsI sb n mb tab wd W
  f : SetsI fs n fm ftab wd W
  c5 : W.cell? ⟨s5, 0, none⟩ = some (.slice (some ⟨sb, 0, none⟩) n n)
  cn : W.cell? ⟨nb, 0, none⟩ = some (.slice An n cn)
  cf : W.cell? ⟨fb, 0, none⟩ = some (.slice (some ⟨fs, 0, none⟩) n n)
/-- Where the boxes lie. -/
structure FolL (s5 nb fb sb fs B : Nat) (mb fm : List Nat) : Prop where
  m5 : s5 ∉ mb
  mn : nb ∉ mb
  mf : fb ∉ mb
  ms : fs ∉ mb
  mm : ∀ b ∈ fm, b ∉ mb
  l5 : s5 < B
  ln : nb < B
  lf : fb < B
  lsb : sb < B
  lfs : fs < B
  lm : ∀ b ∈ mb, b < B
  lfm : ∀ b ∈ fm, b < B
section
variable {s5 nb fb sb fs n wd cn : Nat} {mb fm : List Nat} {An : Option Addr} {ftab tab : List (List Bool)} {W W' : World}
theorem FolI.cells (h : FolI s5 nb fb sb fs n wd cn mb fm An ftab tab W) {B : Nat} (hl : FolL s5 nb fb sb fs B mb fm) (hk : Kp (fun k => k ∈ mb) W W') : SetsI fs n fm ftab wd W' ∧ W'.cell? ⟨s5, 0, none⟩ = some (.slice (some ⟨sb, 0, none⟩) n n) ∧ W'.cell? ⟨nb, 0, none⟩ = some (.slice An n cn) ∧ W'.cell? ⟨fb, 0, none⟩ = some (.slice (some ⟨fs, 0, none⟩) n n) :=
  ⟨h.f.kp hk hl.ms (fun b hb => hl.mm b hb), (hk.cell (World.block_lt_of_cell? W _ h.c5) hl.m5).trans h.c5, (hk.cell (World.block_lt_of_cell? W _ h.cn) hl.mn).trans h.cn, (hk.cell (World.block_lt_of_cell? W _ h.cf) hl.mf).trans h.cf⟩
theorem FolI.put (h : FolI s5 nb fb sb fs n wd cn mb fm An ftab tab W) {B : Nat} (hl : FolL s5 nb fb sb fs B mb fm) (hk : Kp (fun k => k ∈ mb) W W') {tab' : List (List Bool)} (hs : SetsI sb n mb tab' wd W') : FolI s5 nb fb sb fs n wd cn mb fm An ftab tab' W' := by
  obtain ⟨a, b, c, d⟩ := h.cells hl hk
  exact ⟨hs, a, b, c, d⟩
theorem FolI.below (h : FolI s5 nb fb sb fs n wd cn mb fm An ftab tab W) (hb : Below W.heap.size W W') : FolI s5 nb fb sb fs n wd cn mb fm An ftab tab W' :=
  ⟨h.s.below hb, h.f.below hb, (hb.cell (World.block_lt_of_cell? W _ h.c5)).trans h.c5, (hb.cell (World.block_lt_of_cell? W _ h.cn)).trans h.cn, (hb.cell (World.block_lt_of_cell? W _ h.cf)).trans h.cf⟩
theorem FolI.keep {B : Nat} (h : FolI s5 nb fb sb fs n wd cn mb fm An ftab tab W) (hb : Below B W W') (hl : FolL s5 nb fb sb fs B mb fm) : FolI s5 nb fb sb fs n wd cn mb fm An ftab tab W' := by
  have hk : Kp (fun k => B ≤ k) W W' := ⟨hb.os, hb.tape, hb.output, hb.size, fun i hi hn => hb.block i (by omega)⟩
  have h1 := hl.lsb
  have h2 := hl.lfs
  exact ⟨h.s.kp hk (by omega) (fun b hb => by have := hl.lm b hb; omega), h.f.kp hk (by omega) (fun b hb => by have := hl.lfm b hb; omega), (hb.cell (p := ⟨s5, 0, none⟩) hl.l5).trans h.c5, (hb.cell (p := ⟨nb, 0, none⟩) hl.ln).trans h.cn, (hb.cell (p := ⟨fb, 0, none⟩) hl.lf).trans h.cf⟩
end
/-- add, in the words of the table. -/
theorem addTo_calls (sb n wd : Nat) (mb : List Nat) (tab : List (List Bool)) (i : Nat) (bf : Nat) (frow : List Bool) (w : World) (hn : n ≤ 1000000000) (hwd : wd ≤ 1000000) (hS : SetsI sb n mb tab wd w) (hi : i < n) (hf : MapS w bf frow) (hfl : frow.length = wd) (him : i < mb.length) (hal : bf ≠ mb[i] ∨ frow = tab.getD i []) :
    Calls Try.prog 48 #[.slice (some ⟨sb, 0, none⟩) n n, .int .i64 i, .map (some bf)] w fun e w' =>
      e = .returned (.bool (addTo tab i frow).2) ∧ SetsI sb n mb (addTo tab i frow).1 wd w' ∧ Kp (fun k => k ∈ mb) w w' :=
  (add_calls sb n wd mb tab i bf frow w hn hwd hS hi hf hfl him hal).mono fun e w' ⟨h1, h2, h3⟩ => ⟨h1, h2, h3.mono (fun k _ h => h ▸ List.getElem_mem him)⟩
set_option maxHeartbeats 8000000 in
set_option maxRecDepth 100000 in
theorem fol1_calls (s5 nb fb sb fs n wd cn : Nat) (mb fm : List Nat) (An : Option Addr) (null : List Bool) (ftab tab : List (List Bool)) (r : S41) (A : Option Addr) (c B : Nat) (W : World) (hn : n ≤ 1000000000) (hwd : wd ≤ 1000000) (hnl : null.length = n) (hI : FolI s5 nb fb sb fs n wd cn mb fm An ftab tab W) (hl : FolL s5 nb fb sb fs B mb fm)
    (hN : ∀ W', Kp (fun k => k ∈ mb) W W' → Kd.C Kd.bool W' An n null) (hC : ∀ W', Kp (fun k => k ∈ mb) W W' → Kd.C (Kd.int .i64) W' A r.f1.length r.f1)
    (hr : (0 ≤ r.f0 ∧ r.f0 < n) ∧ ∀ x ∈ r.f1, (-9223372036854775808 ≤ x ∧ x ≤ 9223372036854775807) ∧ (x < 0 → -1 - x < n)) (ht : r.f1.length ≤ 1000 ∧ ∀ x ∈ r.f1, 0 ≤ x → (x + 1).toNat < wd) (hc : r.f1.length ≤ c) :
    Calls Try.prog 46 #[.agg #[.int .i64 r.f0, .slice A r.f1.length c, .int .i64 r.f2], .pointer (some ⟨fb, 0, none⟩), .pointer (some ⟨nb, 0, none⟩), .pointer (some ⟨s5, 0, none⟩)] W fun e w' =>
      e = .returned (.bool (folStep wd null ftab tab r).2) ∧ FolI s5 nb fb sb fs n wd cn mb fm An ftab (folStep wd null ftab tab r).1 w' ∧ Kp (fun k => k ∈ mb) W w' := by
  obtain ⟨x0, body, x2⟩ := r
  have hu41 := Try.underlying41
  have hu39 := Try.underlying39
  obtain ⟨⟨h0, h1⟩, hbody⟩ := hr
  simp only at h0 h1 hbody hc hC ht ⊢
  obtain ⟨wa, hwa⟩ : ∃ wa : World, wa = W.alloc (Obj.cells #[Value.int IntKind.i64 x0, Value.slice A body.length c, Value.int IntKind.i64 x2] 41) := ⟨_, rfl⟩
  obtain ⟨gb, hgb⟩ : ∃ gb, gb = W.heap.size := ⟨_, rfl⟩
  have hba : Below W.heap.size W wa := by rw [hwa]; exact below_alloc (Below.refl _ _) _
  have BG : wa.heap[gb]? = some (Obj.cells #[Value.int IntKind.i64 x0, Value.slice A body.length c, Value.int IntKind.i64 x2] 41 (0, 0)) := by rw [hwa]; exact blk_new hgb
  obtain ⟨L, hL⟩ : ∃ L, L = body.length := ⟨_, rfl⟩
  rw [← hL] at hwa BG hc hC
  have g1 := cell_of_block BG 1 _ rfl
  have HGN := Aside0.mk (show gb ∉ mb from fun h => by
    obtain ⟨i, hi, e⟩ := List.getElem_of_mem h
    have := (hI.s.row i hi).lt
    omega)
  have HI0 := Aside0.mk (show FolI s5 nb fb sb fs n wd cn mb fm An ftab ((List.range 0).foldl (folAt wd null ftab ⟨x0, body, x2⟩) (tab, false)).1 wa from hI.below hba)
  have HBG := Aside0.mk BG
  have HK0 := Aside0.mk (show Kp (fun k => k ∈ mb) W wa from Kp.of_below hba)
  have HLL := Aside0.mk hL
  have HL := Aside0.mk hl
  have HN := Aside0.mk hN
  have HC := Aside0.mk hC
  have HBODY := Aside0.mk hbody
  have HT := Aside0.mk ht
  have HNL := Aside0.mk hnl
  have hLb : L ≤ 1000 := by omega
  obtain ⟨res, hres⟩ : ∃ res, res = folStep wd null ftab tab ⟨x0, body, x2⟩ := ⟨_, rfl⟩
  have HRES := Aside0.mk hres
  rw [← hres, ← hL]
  clear BG hba hbody ht hL hI hl hN hC hnl hres
  go_enter Try.func46, Try.ntmps46
  go_upto_region 1 with fail
  rw [← hwa, ← hgb]
  clear hwa hgb
  go_wp2_with fail
  clear g1
  go_loopg [6, 14] L (fun gg s6 s14 wr => ∃ jj : Nat, jj ≤ L ∧ L - jj ≤ gg ∧ s14 = .int .i64 jj ∧ s6 = .bool ((List.range jj).foldl (folAt wd null ftab ⟨x0, body, x2⟩) (tab, false)).2 ∧ Aside0 (FolI s5 nb fb sb fs n wd cn mb fm An ftab ((List.range jj).foldl (folAt wd null ftab ⟨x0, body, x2⟩) (tab, false)).1 wr) ∧ Aside0 (Kp (fun k => k ∈ mb) W wr) ∧ Aside0 (wr.heap[gb]? = some (Obj.cells #[Value.int IntKind.i64 x0, Value.slice A L c, Value.int IntKind.i64 x2] 41 (0, 0))))
  case atStart => exact ⟨0, Nat.zero_le _, by omega, rfl, rfl, HI0, HK0, HBG⟩
  case round =>
    obtain ⟨jj, hjj, hgg, rfl, rfl, HIx, HKx, HGx⟩ := hrel
    clear HI0 HK0 HBG
    by_cases hlt : jj < L
    · have hltz : (jj : Int) < (L : Int) := by omega
      have hltn : (0 : Int) ≤ (jj : Int) := by omega
      have hjb : jj < body.length := by rw [← HLL.out]; exact hlt
      obtain ⟨ad, e, v0⟩ := Kd.at_int (HC.out _ HKx.out) (jj : Int) hltn hltz
      subst e
      rw [getD_rd body jj hjb, Int.toNat_natCast] at v0
      have HXj := Aside0.mk (HBODY.out _ (List.getElem_mem hjb))
      have HSF := Aside0.mk (range_foldl (folAt wd null ftab ⟨x0, body, x2⟩) (tab, false) jj)
      have HFA := Aside0.mk (show ∀ s, folAt wd null ftab ⟨x0, body, x2⟩ s jj = if 0 ≤ body[jj] then s else if (beg ftab null (body.drop (jj + 1)) (List.replicate wd false)).2 = true then
          ((addTo (addTo s.1 (-1 - body[jj]).toNat (beg ftab null (body.drop (jj + 1)) (List.replicate wd false)).1).1 (-1 - body[jj]).toNat ((addTo s.1 (-1 - body[jj]).toNat (beg ftab null (body.drop (jj + 1)) (List.replicate wd false)).1).1.getD x0.toNat [])).1,
            (addTo (addTo s.1 (-1 - body[jj]).toNat (beg ftab null (body.drop (jj + 1)) (List.replicate wd false)).1).1 (-1 - body[jj]).toNat ((addTo s.1 (-1 - body[jj]).toNat (beg ftab null (body.drop (jj + 1)) (List.replicate wd false)).1).1.getD x0.toNat [])).2 || ((addTo s.1 (-1 - body[jj]).toNat (beg ftab null (body.drop (jj + 1)) (List.replicate wd false)).1).2 || s.2))
          else ((addTo s.1 (-1 - body[jj]).toNat (beg ftab null (body.drop (jj + 1)) (List.replicate wd false)).1).1, (addTo s.1 (-1 - body[jj]).toNat (beg ftab null (body.drop (jj + 1)) (List.replicate wd false)).1).2 || s.2) from fun s => by
        unfold folAt
        rw [show (S41.mk x0 body x2).f1.getD jj 0 = body[jj] by rw [List.getD_eq_getElem?_getD, List.getElem?_eq_getElem hjb]; rfl])
      generalize (List.range jj).foldl (folAt wd null ftab ⟨x0, body, x2⟩) (tab, false) = s0 at HIx HSF ⊢
      obtain ⟨tab0, ch⟩ := s0
      generalize body[jj] = x at v0 HXj HFA
      dsimp only at HIx ⊢
      have hx1 := cell_of_block HGx.out 1 _ rfl
      by_cases hx0 : 0 ≤ x
      · have t1 : decide (0 ≤ x) = true := decide_eq_true hx0
        have HQ := Aside0.mk (show (List.range (jj + 1)).foldl (folAt wd null ftab ⟨x0, body, x2⟩) (tab, false) = (tab0, ch) by rw [HSF.out, HFA.out, if_pos hx0])
        clear hx1
        go_wp2_with fail
        go_roundg (L - (jj + 1))
        case rel => exact ⟨jj + 1, by omega, by omega, by go_num, by rw [HQ.out], by rw [HQ.out]; exact HIx, HKx, HGx⟩
        case measure => omega
      · have t1 : decide (0 ≤ x) = false := decide_eq_false hx0
        have hxn := HXj.out.2 (by omega)
        have hbl : (body.drop (jj + 1)).length = L - (jj + 1) := by rw [List.length_drop, HLL.out]
        obtain ⟨i39, hi39, hz0, hz1, hz2⟩ := info_parts info3
        have hcut := cut_from (P := Try.prog) 39 3 .i64 hu39 hi39 1 hz1 (some ad) L c ((jj : Int) + 1) (by omega) (by omega)
        rw [show ((jj : Int) + 1).toNat = jj + 1 by omega] at hcut
        have e1 : IntKind.i64.wrap ((jj : Int) + 1) = (jj : Int) + 1 := IntWalk.i64_in _ (by omega)
        have hC9 : Kd.C (Kd.int .i64) wr (if c = jj + 1 then some ad else (some ad).map (·.add ((jj + 1) * 1))) (body.drop (jj + 1)).length (body.drop (jj + 1)) := by
          refine Kd.C_drop (c := c) (xs := body) ?_ (by omega) (by rw [← HLL.out]; exact hc)
          rw [← HLL.out]
          exact HC.out _ HKx.out
        generalize (if c = jj + 1 then some ad else (some ad).map (·.add ((jj + 1) * 1))) = A9 at hcut hC9
        obtain ⟨fb0, fn0, fc0, ff0⟩ := HIx.out.cells HL.out (Kp.refl _ _)
        have HBEG := Aside0.mk (show ∀ W', Below wr.heap.size wr W' → Calls Try.prog 47 #[.slice A9 (L - (jj + 1)) (c - (jj + 1)), .slice (some ⟨fs, 0, none⟩) n n, .slice An n cn] W' fun e w' => ∃ g, e = .returned (.tuple #[.map (some g), .bool (beg ftab null (body.drop (jj + 1)) (List.replicate wd false)).2]) ∧ Aside0 (MapS w' g (beg ftab null (body.drop (jj + 1)) (List.replicate wd false)).1 ∧ W'.heap.size ≤ g) ∧ Below W'.heap.size W' w' from fun W' hb => by
          have hNk : Kp (fun k => k ∈ mb) W W' := HKx.out.trans (Kp.of_below hb)
          have h := begin_calls A9 (c - (jj + 1)) (body.drop (jj + 1)) fs n wd fm ftab An cn null W' hn hwd (Kd.C_below hC9 hb) (by omega) (by omega) (HIx.out.f.below hb) (HN.out W' hNk) HNL.out (fun y hy => by
            have hyb := List.mem_of_mem_drop hy
            exact ⟨(HBODY.out y hyb).1, (HBODY.out y hyb).2, HT.out.2 y hyb⟩)
          rw [hbl] at h
          refine h.mono ?_
          rintro e w' ⟨g, he, h1, h2, h3⟩
          exact ⟨g, he, ⟨h1, h2⟩, h3⟩)
        have HBL := Aside0.mk (beg_length (tab := ftab) (null := null) HIx.out.f.tr (body.drop (jj + 1)) (List.replicate wd false) (fun y hy => (HBODY.out y (List.mem_of_mem_drop hy)).2) (by simp))
        have HNE : ∀ tb, tb = beg ftab null (body.drop (jj + 1)) (List.replicate wd false) → tb = beg ftab null (body.drop (jj + 1)) (List.replicate wd false) := fun _ h => h
        generalize beg ftab null (body.drop (jj + 1)) (List.replicate wd false) = bg at HBEG HFA HBL
        clear HNE
        obtain ⟨brow, bem⟩ := bg
        dsimp only at HBEG HFA HBL
        have HX1 := Aside0.mk (show ∀ w', Below wr.heap.size wr w' → (w'.cell? ⟨gb, 1, none⟩ = some (.slice (some ad) L c) ∧ w'.cell? ⟨fb, 0, none⟩ = some (.slice (some ⟨fs, 0, none⟩) n n) ∧ w'.cell? ⟨nb, 0, none⟩ = some (.slice An n cn) ∧ Aside0 (Below wr.heap.size wr w')) from fun w' h => ⟨cell_of_block (blk_below' HGx.out h) 1 _ rfl, (h.cell (World.block_lt_of_cell? wr _ ff0)).trans ff0, (h.cell (World.block_lt_of_cell? wr _ fc0)).trans fc0, ⟨h⟩⟩)
        have HS0 := HX1.out wr (Below.refl _ _)
        have HST := Aside0.mk (show ∀ w' w2, (w'.cell? ⟨gb, 1, none⟩ = some (.slice (some ad) L c) ∧ w'.cell? ⟨fb, 0, none⟩ = some (.slice (some ⟨fs, 0, none⟩) n n) ∧ w'.cell? ⟨nb, 0, none⟩ = some (.slice An n cn) ∧ Aside0 (Below wr.heap.size wr w')) → Below w'.heap.size w' w2 → (w2.cell? ⟨gb, 1, none⟩ = some (.slice (some ad) L c) ∧ w2.cell? ⟨fb, 0, none⟩ = some (.slice (some ⟨fs, 0, none⟩) n n) ∧ w2.cell? ⟨nb, 0, none⟩ = some (.slice An n cn) ∧ Aside0 (Below wr.heap.size wr w2)) from fun w' w2 h hb => HX1.out _ (below_step h.2.2.2.out hb))
        clear hi39 hz0 hz1 hz2 hbl hC9 fb0 fn0 fc0 ff0 hx1
        go_upto_region 6 with fail
        go_region_held3 (fun w' => w'.cell? ⟨gb, 1, none⟩ = some (.slice (some ad) L c) ∧ w'.cell? ⟨fb, 0, none⟩ = some (.slice (some ⟨fs, 0, none⟩) n n) ∧ w'.cell? ⟨nb, 0, none⟩ = some (.slice An n cn) ∧ Aside0 (Below wr.heap.size wr w'))
          (first | exact HST.out _ _ (by assumption) (below_drew1 (Below.refl _ _)) | exact HST.out _ _ (by assumption) (by assumption) | assumption)
          ((go_at_call 47; refine (HBEG.out _ ?h1).mono ?_; (case h1 => exact (show _ ∧ _ ∧ _ ∧ Aside0 (Below wr.heap.size wr _) by assumption).2.2.2.out); rintro e w5 ⟨g, rfl, HMG, hb5⟩))
        go_upto_region 7 with fail
        refine nameW ?_
        intro w6 hw6
        have hT5 : (w5.cell? ⟨gb, 1, none⟩ = some (.slice (some ad) L c) ∧ w5.cell? ⟨fb, 0, none⟩ = some (.slice (some ⟨fs, 0, none⟩) n n) ∧ w5.cell? ⟨nb, 0, none⟩ = some (.slice An n cn) ∧ Aside0 (Below wr.heap.size wr w5)) := by assumption
        have hb56 : Below w5.heap.size w5 w6 := by rw [hw6]; first | exact Below.refl _ _ | exact below_drew1 (Below.refl _ _)
        have hb6 : Below wr.heap.size wr w6 := below_step hT5.2.2.2.out hb56
        have HMBL := Aside0.mk (show ∀ b ∈ mb, b < wr.heap.size from fun b hb => by
          obtain ⟨i, hi, rfl⟩ := List.getElem_of_mem hb
          exact (HIx.out.s.row i hi).lt)
        have hI6 := HIx.out.below hb6
        have hM6 := HMG.out.1.below hb56
        have hgw : wr.heap.size ≤ g := Nat.le_trans (Below.size (below_drew1 (Below.refl wr.heap.size wr))) HMG.out.2
        obtain ⟨kx, hkx⟩ : ∃ kx, kx = (-1 - x).toNat := ⟨_, rfl⟩
        have hkn : kx < n := by omega
        have hki : kx < mb.length := by rw [hI6.s.ml]; exact hkn
        have hw1 : IntKind.i64.wrap (-1 - x) = -1 - x := by have := HXj.out.1; exact IntWalk.i64_in _ (by omega)
        have hadd := addTo_calls sb n wd mb tab0 kx g brow w6 hn hwd hI6.s hkn hM6 HBL.out hki (.inl (fun e => by have := HMBL.out _ (List.getElem_mem hki); omega))
        rw [show ((kx : Nat) : Int) = -1 - x by omega] at hadd
        have s5c := hI6.c5
        have HI6 := Aside0.mk hI6
        have HK6 := Aside0.mk (show Kp (fun k => k ∈ mb) W w6 from HKx.out.trans (Kp.of_below hb6))
        have HB6 := Aside0.mk (blk_below' HGx.out hb6)
        rw [← hkx] at HFA
        have HSF2 := Aside0.mk (HSF.out.trans (HFA.out _))
        rw [if_neg (show ¬ (0 ≤ x) by omega)] at HSF2
        have HKK := Aside0.mk (And.intro hkn hki)
        have HKX := Aside0.mk (show ((kx : Nat) : Int) = -1 - x by omega)
        generalize addTo tab0 kx brow = ad1 at hadd HSF2
        obtain ⟨tab1, d1⟩ := ad1
        dsimp only at hadd HSF2
        clear HSF HFA HIx HKx HGx HMBL hI6 hM6 hgw hkx hkn hki hb6 hb56 hT5 hw6 HMG hb5 HS0 HST HX1 HBEG hcut HBL v0 e1
        go_wp2_with fail
        (with_reducible refine hadd.mono ?_)
        rintro e w7 ⟨rfl, hS7, hk7⟩
        have HI7 := Aside0.mk (HI6.out.put HL.out hk7 hS7)
        have HK7 := Aside0.mk (HK6.out.trans hk7)
        have HB7 := Aside0.mk (blk_Kp HB6.out hk7 HGN.out)
        clear hadd hS7 hk7 s5c HI6 HK6 HB6
        dsimp only
        have hrl := hLb
        cases bem with
        | false =>
          have HQ := Aside0.mk (show (List.range (jj + 1)).foldl (folAt wd null ftab ⟨x0, body, x2⟩) (tab, false) = (tab1, d1 || ch) from HSF2.out)
          clear HSF2 hrl
          cases d1 <;> go_wp2_with fail
          · go_roundg (L - (jj + 1))
            case rel => exact ⟨jj + 1, by omega, by omega, by go_num, by rw [HQ.out]; rfl, by rw [HQ.out]; exact HI7, HK7, HB7⟩
            case measure => omega
          · go_roundg (L - (jj + 1))
            case rel => exact ⟨jj + 1, by omega, by omega, by go_num, by rw [HQ.out]; rfl, by rw [HQ.out]; exact HI7, HK7, HB7⟩
            case measure => omega
        | true =>
          obtain ⟨hx, hhx⟩ : ∃ hx, hx = x0.toNat := ⟨_, rfl⟩
          have hxi : hx < mb.length := by rw [HI7.out.s.ml]; omega
          rw [← hhx] at HSF2
          have HADD := Aside0.mk (show ∀ W', Below w7.heap.size w7 W' → Calls Try.prog 48 #[.slice (some ⟨sb, 0, none⟩) n n, .int .i64 (-1 - x), .map (some mb[hx])] W' fun e w' =>
              e = .returned (.bool (addTo tab1 kx (tab1.getD hx [])).2) ∧ Aside0 (SetsI sb n mb (addTo tab1 kx (tab1.getD hx [])).1 wd w') ∧ Kp (fun k => k ∈ mb) W' w' from fun W' hb => by
            have h7 := HI7.out.s.below hb
            rw [← HKX.out]
            refine (addTo_calls sb n wd mb tab1 kx mb[hx] (tab1.getD hx []) W' hn hwd h7 HKK.out.1 (h7.row hx hxi) (h7.tr hx (by omega)) HKK.out.2 ?_).mono ?_
            · by_cases he : hx = kx
              · exact .inr (by rw [he])
              · exact .inl (fun e => he ((List.getElem_inj h7.nd).1 e))
            · rintro e w' ⟨h1, h2, h3⟩
              exact ⟨h1, ⟨h2⟩, h3⟩)
          have HROW := Aside0.mk (HI7.out.s.outer hx hxi)
          obtain ⟨bf, hbf⟩ : ∃ bf, bf = mb[hx] := ⟨_, rfl⟩
          rw [← hbf] at HADD HROW
          have HXE := Aside0.mk hhx
          clear hbf
          generalize addTo tab1 kx (tab1.getD hx []) = ad2 at HADD HSF2
          obtain ⟨tab2, d2⟩ := ad2
          dsimp only at HADD HSF2
          have HST : ∀ w', Kp (fun k => k ∈ mb) w7 w' → (w'.cell? ⟨gb, 0, none⟩ = some (.int .i64 x0) ∧ w'.cell? ⟨s5, 0, none⟩ = some (.slice (some ⟨sb, 0, none⟩) n n) ∧ w'.cell? ⟨sb, x0.toNat, none⟩ = some (.map (some bf)) ∧ Aside0 (Kp (fun k => k ∈ mb) w7 w')) := fun w' h => ⟨cell_of_block (blk_Kp HB7.out h HGN.out) 0 _ rfl, (HI7.out.cells HL.out h).2.1, by
            have h1 := (h.cell (World.block_lt_of_cell? w7 _ HROW.out) HI7.out.s.no).trans HROW.out
            rwa [hhx] at h1, ⟨h⟩⟩
          have HST2 := Aside0.mk (show ∀ w' w2, (w'.cell? ⟨gb, 0, none⟩ = some (.int .i64 x0) ∧ w'.cell? ⟨s5, 0, none⟩ = some (.slice (some ⟨sb, 0, none⟩) n n) ∧ w'.cell? ⟨sb, x0.toNat, none⟩ = some (.map (some bf)) ∧ Aside0 (Kp (fun k => k ∈ mb) w7 w')) → Kp (fun k => k ∈ mb) w' w2 → (w2.cell? ⟨gb, 0, none⟩ = some (.int .i64 x0) ∧ w2.cell? ⟨s5, 0, none⟩ = some (.slice (some ⟨sb, 0, none⟩) n n) ∧ w2.cell? ⟨sb, x0.toNat, none⟩ = some (.map (some bf)) ∧ Aside0 (Kp (fun k => k ∈ mb) w7 w2)) from fun w' w2 h h2 => HST w2 (h.2.2.2.out.trans h2))
          have HS0 := HST w7 (Kp.refl _ _)
          have HQ := Aside0.mk (show (List.range (jj + 1)).foldl (folAt wd null ftab ⟨x0, body, x2⟩) (tab, false) = (tab2, d2 || (d1 || ch)) from HSF2.out)
          clear HSF2 hrl HST hxi hhx HROW
          cases d2 with
          | false =>
              cases d1
              all_goals (
                go_upto_region 9 with fail
                (go_region_held3 (fun w' => w'.cell? ⟨gb, 0, none⟩ = some (.int .i64 x0) ∧ w'.cell? ⟨s5, 0, none⟩ = some (.slice (some ⟨sb, 0, none⟩) n n) ∧ w'.cell? ⟨sb, x0.toNat, none⟩ = some (.map (some bf)) ∧ Aside0 (Kp (fun k => k ∈ mb) w7 w'))
                  (first | exact HST2.out _ _ (by assumption) (Kp.of_below (below_drew1 (Below.refl _ _))) | exact HST2.out _ _ (by assumption) (by assumption) | assumption)
                  ((go_at_call 48; refine (HADD.out _ ?h1).mono ?_; (case h1 => first | exact below_drew1 (Below.refl _ _) | exact Below.refl _ _); rintro e w8 ⟨rfl, HS8, hk8⟩)))
                have hk79 : Kp (fun k => k ∈ mb) w7 w8 := ((Kp.of_below (below_drew1 (Below.refl _ _))).trans hk8)
                have HI9 := Aside0.mk (HI7.out.put HL.out hk79 HS8.out)
                have HK9 := Aside0.mk (HK7.out.trans hk79)
                have HB9 := Aside0.mk (blk_Kp HB7.out hk79 HGN.out)
                clear hk79 HS8 hk8 HI7 HK7 HB7 HST2 HADD HS0
                go_wp2_with fail
                go_roundg (L - (jj + 1)))
              all_goals first
                | exact ⟨jj + 1, by omega, by omega, by go_num, by rw [HQ.out]; rfl, by rw [HQ.out]; exact HI9, HK9, HB9⟩
                | omega
          | true =>
              have q0 := HS0.1
              have q1 := HS0.2.1
              have q2 := HS0.2.2.1
              cases d1
              all_goals (
                go_upto_region 9 with fail
                (first | (go_region_with (go_at_call 48; refine (HADD.out _ ?h1).mono ?_; (case h1 => first | exact below_drew1 (Below.refl _ _) | exact Below.refl _ _); rintro e w8 ⟨rfl, HS8, hk8⟩)) | fail)
                all_goals (clear q0 q1 q2)
                all_goals (
                    have hk79 : Kp (fun k => k ∈ mb) w7 w8 := ((Kp.of_below (below_drew1 (Below.refl _ _))).trans hk8)
                    have HI9 := Aside0.mk (HI7.out.put HL.out hk79 HS8.out)
                    have HK9 := Aside0.mk (HK7.out.trans hk79)
                    have HB9 := Aside0.mk (blk_Kp HB7.out hk79 HGN.out)
                    clear hk79 HS8 hk8 HI7 HK7 HB7 HST2 HADD HS0
                    go_wp2_with fail
                    go_roundg (L - (jj + 1))))
              all_goals first
                | exact ⟨jj + 1, by omega, by omega, by go_num, by rw [HQ.out]; rfl, by rw [HQ.out]; exact HI9, HK9, HB9⟩
                | omega
    · obtain rfl : L = jj := by omega
      have t3 : decide (L < L) = false := decide_eq_false (by omega)
      have HQ := Aside0.mk (show res = (List.range L).foldl (folAt wd null ftab ⟨x0, body, x2⟩) (tab, false) by rw [HRES.out, folStep, ← HLL.out])
      clear hlt HRES
      go_wp2_with fail
      go_ret
      exact ⟨by rw [HQ.out]; rfl, by rw [HQ.out]; exact HIx.out, HKx.out⟩
end Go.Proofs.Ytkaedhooccpniaa.Hand
/- analysis.Follow, by hand. -/
namespace Go.Proofs.Ytkaedhooccpniaa.Hand
open Go.RowKit Go.Proofs.YtkaedhooccpniaaW.PrintWords Go.Proofs.YtkaedhooccpniaaW.PrintLast Go.Proofs.YtkaedhooccpniaaW.PrintMore Go.Proofs.Ytkaedhooccpniaa.PA
set_option linter.unusedVariables false
set_option linter.unusedSimpArgs false
/-- The sets that Follow starts with: the end behind the start nonterminal. -/
def folInit (n wd : Nat) (st : Int) : List (List Bool) := (noSets n wd).set st.toNat (((noSets n wd).getD st.toNat []).set 0 true)
set_option maxHeartbeats 8000000 in
set_option maxRecDepth 100000 in
theorem follow_calls (k : Nat) (A0 : Option Addr) (c0 : Nat) (l0 : List ByteArray) (A1 : Option Addr) (c1 : Nat) (l1 : List ByteArray) (st : Int) (A3 : Option Addr) (c3 : Nat) (rules : List S41) (null : List Bool) (ftab tab : List (List Bool)) (w : World)
    (hr0 : Kd.C Kd.string w A0 l0.length l0) (hc0 : l0.length ≤ c0) (hr1 : Kd.C Kd.string w A1 l1.length l1) (hc1 : l1.length ≤ c1) (hr3 : Kd.C k41 w A3 rules.length rules) (hc3 : rules.length ≤ c3) (h : heads.f false k l0 l1 st rules = some null)
    (hT : TOK (l0.length + 1) rules) (hl0 : l0.length ≤ 100000) (hrun : run (firstStep (l0.length + 1) null) rules k (noSets l1.length (l0.length + 1)) = some ftab)
    (hrun2 : run (folStep (l0.length + 1) null ftab) rules k (folInit l1.length (l0.length + 1) st) = some tab) :
    Calls Try.prog 24 #[.agg #[.slice A0 l0.length c0, .slice A1 l1.length c1, .int .i64 st, .slice A3 rules.length c3]] w fun e w' => ∃ v, e = .returned v ∧ Rd (Kd.slice 3 (Kd.int .i64)) w' v (listsOf tab l1.length (-1) l0.length) ∧ Below w.heap.size w w' := by
  have hu25 := Try.underlying25
  have hu56 := Try.underlying56
  have hg : gokB l1.length st rules = true := by
    by_cases hg : gokB l1.length st rules = true
    · exact hg
    · rw [heads.f, if_neg hg] at h; cases h
  obtain ⟨hn0, hn1, hst, hG⟩ := gok_of hg
  obtain ⟨m0, hm0⟩ : ∃ m0, m0 = l0.length := ⟨_, rfl⟩
  obtain ⟨n, hn⟩ : ∃ n, n = l1.length := ⟨_, rfl⟩
  obtain ⟨mr, hmr⟩ : ∃ mr, mr = rules.length := ⟨_, rfl⟩
  obtain ⟨wa, hwa⟩ : ∃ wa : World, wa = w.alloc (Obj.cells #[.slice A0 m0 c0, .slice A1 n c1, .int .i64 st, .slice A3 mr c3] 25) := ⟨_, rfl⟩
  obtain ⟨gb, hgb⟩ : ∃ gb, gb = w.heap.size := ⟨_, rfl⟩
  have hb : Below w.heap.size w wa := by rw [hwa]; exact below_alloc (Below.refl _ _) _
  have BG : wa.heap[gb]? = some (Obj.cells #[.slice A0 m0 c0, .slice A1 n c1, .int .i64 st, .slice A3 mr c3] 25 (0, 0)) := by rw [hwa]; exact blk_new hgb
  have hnull : Calls Try.prog 13 #[.agg #[.slice A0 m0 c0, .slice A1 n c1, .int .i64 st, .slice A3 mr c3]] wa fun e w' => ∃ An cn, e = .returned (.slice An n cn) ∧ Aside0 (Kd.C Kd.bool w' An n null ∧ n ≤ cn) ∧ Below wa.heap.size wa w' := by
    rw [hm0, hn, hmr]
    exact null_calls k A0 c0 l0 A1 c1 l1 st A3 c3 rules null wa (Kd.C_below hr0 hb) hc0 (Kd.C_below hr1 hb) hc1 (Kd.C_below hr3 hb) hc3 h
  have HNL := Aside0.mk (show null.length = n by rw [heads_len h, hn])
  have HG := Aside0.mk (hn ▸ hG)
  have HT := Aside0.mk (hm0 ▸ hT)
  have HR3 := Aside0.mk hr3
  have HC3 := Aside0.mk hc3
  have HRUN := Aside0.mk (show run (firstStep (m0 + 1) null) rules k (noSets n (m0 + 1)) = some ftab by rw [hm0, hn]; exact hrun)
  have HRUN2 := Aside0.mk (show run (folStep (m0 + 1) null ftab) rules k (folInit n (m0 + 1) st) = some tab by rw [hm0, hn]; exact hrun2)
  have HB := Aside0.mk hb
  have HBG := Aside0.mk BG
  have HMR := Aside0.mk hmr
  have hn0 : 0 < n := by omega
  have hn1 : n ≤ 1000000000 := by omega
  have hst : 0 ≤ st ∧ st < (n : Int) := by omega
  have hm1 : m0 ≤ 100000 := by omega
  have s0 := cell_of_block BG 0 _ rfl
  have s1 := cell_of_block BG 1 _ rfl
  have s2 := cell_of_block BG 2 _ rfl
  have s3 := cell_of_block BG 3 _ rfl
  rw [← hm0, ← hn, ← hmr]
  clear hb BG hr0 hc0 hr1 hc1 hr3 hc3 h hT hrun hrun2 hg hG hm0 hn hmr
  go_enter Try.func24, Try.ntmps24
  go_upto_region 1 with fail
  rw [← hwa, ← hgb]
  clear hwa hgb
  go_wp2_with fail
  (with_reducible refine hnull.mono ?_)
  rintro e w1 ⟨An, cn, rfl, HN1, hb1⟩
  clear hnull s0 s1 s2 s3
  dsimp only
  go_upto_region 2 with fail
  obtain ⟨w2, hw2⟩ : ∃ w2 : World, w2 = w1.alloc (Obj.cells #[.slice An n cn] 29) := ⟨_, rfl⟩
  obtain ⟨nb, hnb⟩ : ∃ nb, nb = w1.heap.size := ⟨_, rfl⟩
  rw [← hw2, ← hnb]
  have hb12 : Below w1.heap.size w1 w2 := by rw [hw2]; exact below_alloc (Below.refl _ _) _
  have hb2 : Below wa.heap.size wa w2 := below_step hb1 hb12
  have BN : w2.heap[nb]? = some (Obj.cells #[.slice An n cn] 29 (0, 0)) := by rw [hw2]; exact blk_new hnb
  have HBN := Aside0.mk BN
  have HN2 := Aside0.mk (Kd.C_below HN1.out.1 hb12)
  have HBG2 := Aside0.mk (blk_below' HBG.out hb2)
  have HB2 := Aside0.mk (below_step HB.out hb2)
  have s0 := cell_of_block HBG2.out 0 _ rfl
  have s1 := cell_of_block HBG2.out 1 _ rfl
  have s2 := cell_of_block HBG2.out 2 _ rfl
  have s3 := cell_of_block HBG2.out 3 _ rfl
  have s4 := cell_of_block BN 0 _ rfl
  have HNA := Aside0.mk (show gb < nb by have := (Array.getElem?_eq_some_iff.1 HBG.out).1; have := hb1.size; omega)
  have hfir : Calls Try.prog 41 #[.agg #[.slice A0 m0 c0, .slice A1 n c1, .int .i64 st, .slice A3 mr c3], .slice An n cn] w2 fun e w' => ∃ sb mb, e = .returned (.slice (some ⟨sb, 0, none⟩) n n) ∧ SetsI sb n mb ftab (m0 + 1) w' ∧ w2.heap.size ≤ sb ∧ (∀ b ∈ mb, w2.heap.size ≤ b) ∧ Below w2.heap.size w2 w' := by
    rw [HMR.out]
    exact firsts_calls A0 m0 c0 A1 n c1 st A3 c3 rules An cn (m0 + 1) null k ftab w2 (by omega) (by omega) HNL.out HN2.out HG.out HT.out (Kd.C_below HR3.out HB2.out) HC3.out HRUN.out
  clear hw2 hnb hb12 hb2 BN hb1 HN1 HBG
  go_wp2_with fail
  (with_reducible refine hfir.mono ?_)
  rintro e w3 ⟨fs, fm, rfl, hF3, hfs, hfm, hb23⟩
  clear hfir s0 s1 s2 s3 s4
  dsimp only
  go_upto_region 3 with fail
  obtain ⟨w4, hw4⟩ : ∃ w4 : World, w4 = w3.alloc (Obj.cells #[.slice (some ⟨fs, 0, none⟩) n n] 56) := ⟨_, rfl⟩
  obtain ⟨fb, hfb⟩ : ∃ fb, fb = w3.heap.size := ⟨_, rfl⟩
  rw [← hw4, ← hfb]
  have hb34 : Below w3.heap.size w3 w4 := by rw [hw4]; exact below_alloc (Below.refl _ _) _
  have BF : w4.heap[fb]? = some (Obj.cells #[.slice (some ⟨fs, 0, none⟩) n n] 56 (0, 0)) := by rw [hw4]; exact blk_new hfb
  have hb24 := below_step hb23 hb34
  have HBF := Aside0.mk BF
  have HF4 := Aside0.mk (hF3.below hb34)
  have HBN4 := Aside0.mk (blk_below' HBN.out hb24)
  have HBG4 := Aside0.mk (blk_below' HBG2.out hb24)
  have HB4 := Aside0.mk (below_step HB2.out hb24)
  have HN4 := Aside0.mk (Kd.C_below HN2.out hb24)
  have HF5 := Aside0.mk (And.intro hfs hfm)
  have HNW := Aside0.mk (show nb < w2.heap.size from (Array.getElem?_eq_some_iff.1 HBN.out).1)
  have HFB := Aside0.mk (show w2.heap.size ≤ fb by rw [hfb]; exact hb23.size)
  have s1 := cell_of_block HBG4.out 1 _ rfl
  have hns := newSets_calls n (m0 + 1) w4 hn1
  have HF6 := Aside0.mk (show fs < fb ∧ ∀ b ∈ fm, b < fb from ⟨by have := (Array.getElem?_eq_some_iff.1 hF3.o).1; omega, fun b hb => by
    obtain ⟨i, hi, rfl⟩ := List.getElem_of_mem hb
    have := (hF3.row i hi).lt
    omega⟩)
  clear hw4 hfb hb34 BF hb24 hF3 hfs hfm hb23 HBN HBG2 HB2 HN2
  go_wp2_with fail
  (with_reducible refine hns.mono ?_)
  rintro e w5 ⟨sb, mb, rfl, hS5, hsb, hmb, hb45⟩
  clear hns s1
  dsimp only
  go_upto_region 4 with fail
  obtain ⟨w6, hw6⟩ : ∃ w6 : World, w6 = w5.alloc (Obj.cells #[.slice (some ⟨sb, 0, none⟩) n n] 56) := ⟨_, rfl⟩
  obtain ⟨s5, hs5⟩ : ∃ s5, s5 = w5.heap.size := ⟨_, rfl⟩
  rw [← hw6, ← hs5]
  have hb56 : Below w5.heap.size w5 w6 := by rw [hw6]; exact below_alloc (Below.refl _ _) _
  have B5 : w6.heap[s5]? = some (Obj.cells #[.slice (some ⟨sb, 0, none⟩) n n] 56 (0, 0)) := by rw [hw6]; exact blk_new hs5
  have hb46 := below_step hb45 hb56
  have hS6 := hS5.below hb56
  have HG6 := Aside0.mk (blk_below' HBG4.out hb46)
  have hst2 : st.toNat < n := by omega
  have hsi : st.toNat < mb.length := by rw [hS6.ml]; exact hst2
  obtain ⟨W7, hup, hM7, hk7⟩ := (hS6.row st.toNat hsi).upd (t := -1) (by omega) (by rw [hS6.tr _ hst2]; simp) (by rw [hS6.tr _ hst2]; omega)
  have hS7 := hS6.put st.toNat hsi hk7 hM7 (by rw [List.length_set]; exact hS6.tr _ hst2)
  have hk7' : Kp (fun k => k ∈ mb) w6 W7 := hk7.mono (fun k _ h => h ▸ List.getElem_mem hsi)
  have hfbl : fb < w4.heap.size := (Array.getElem?_eq_some_iff.1 HBF.out).1
  have hs5l : s5 < w6.heap.size := (Array.getElem?_eq_some_iff.1 B5).1
  have hsbl : sb < s5 := by have := (Array.getElem?_eq_some_iff.1 hS5.o).1; omega
  have hmbl : ∀ b ∈ mb, b < s5 := fun b hb => by
    obtain ⟨i, hi, rfl⟩ := List.getElem_of_mem hb
    have := (hS5.row i hi).lt
    omega
  have h45 := hb45.size
  have h67 := hk7.size
  have hfl : FolL s5 nb fb sb fs W7.heap.size mb fm := by
    have h1 := HF5.out
    have h2 := HF6.out
    have h3 := HNW.out
    have h4 := HFB.out
    refine ⟨fun h => ?_, fun h => ?_, fun h => ?_, fun h => ?_, fun b hb h => ?_, ?_, ?_, ?_, ?_, ?_, fun b hb => ?_, fun b hb => ?_⟩
    · have := hmbl _ h; omega
    · have := hmb _ h; omega
    · have := hmb _ h; omega
    · have := hmb _ h; omega
    · have := h2.2 b hb; have := hmb _ h; omega
    · omega
    · omega
    · omega
    · omega
    · omega
    · have := hmbl b hb; omega
    · have := h2.2 b hb; omega
  have hf0 : FolI s5 nb fb sb fs n (m0 + 1) cn mb fm An ftab (noSets n (m0 + 1)) w6 := ⟨hS6, HF4.out.below hb46, cell_of_block B5 0 _ rfl, cell_of_block (blk_below' HBN4.out hb46) 0 _ rfl, cell_of_block (blk_below' HBF.out hb46) 0 _ rfl⟩
  have hI7 : FolI s5 nb fb sb fs n (m0 + 1) cn mb fm An ftab (folInit n (m0 + 1) st) W7 := hf0.put hfl hk7' hS7
  have hgm : gb ∉ mb := fun h => by have := hmb _ h; have := HNA.out; have := HNW.out; have := HFB.out; omega
  have HG7 := Aside0.mk (blk_Kp HG6.out hk7' hgm)
  have hmb4 : ∀ b ∈ mb, w4.heap.size ≤ b := hmb
  have hb47 : Below w4.heap.size w4 W7 := hb46.trans (hk7'.below hb46.size (fun k hk => hmb4 k hk))
  have hwb : Below w.heap.size w W7 := below_step HB4.out hb47
  have happ : Applies (FolI s5 nb fb sb fs n (m0 + 1) cn mb fm An ftab) (fun k => k ∈ mb) (folStep (m0 + 1) null ftab) 46 #[.pointer (some ⟨fb, 0, none⟩), .pointer (some ⟨nb, 0, none⟩), .pointer (some ⟨s5, 0, none⟩)] rules w W7 := by
    intro s W r A c hr hs hk hbW hc hC
    refine fol1_calls s5 nb fb sb fs n (m0 + 1) cn mb fm An null ftab s r A c W7.heap.size W (by omega) (by omega) HNL.out hs hfl ?_ ?_ (HG.out r hr) (HT.out r hr) hc
    · intro W' hk'
      exact Kd.C_below HN4.out (hb47.trans ((hk.trans hk').below hb47.size (fun k hk => hmb4 k hk)))
    · intro W' hk'
      exact Kd.C_below hC (hbW.trans (hk'.below hbW.size (fun k hk => by have := hmb4 k hk; have := HB4.out.size; omega)))
  have hfix := fixpoint_calls (FolI s5 nb fb sb fs n (m0 + 1) cn mb fm An ftab) (fun k => k ∈ mb) (folStep (m0 + 1) null ftab) 46 #[.pointer (some ⟨fb, 0, none⟩), .pointer (some ⟨nb, 0, none⟩), .pointer (some ⟨s5, 0, none⟩)] (Go.Proofs.enters_of (P := Try.prog) Try.func46 (by kernel_rfl) rfl) (.slice A0 m0 c0) (.slice A1 n c1) st A3 c3 rules w W7 hwb
    (fun k hk => ⟨by have := hmb4 k hk; have := HB4.out.size; omega, hfl.lm k hk⟩)
    (fun s W W' hs hk hb => hs.keep hb hfl) happ HR3.out HC3.out k (folInit n (m0 + 1) st) tab hI7 HRUN2.out
  rw [← HMR.out] at hfix
  have s5c := cell_of_block B5 0 _ rfl
  have s2 := cell_of_block HG6.out 2 _ rfl
  have srow := hS6.outer st.toNat hsi
  have t0 := cell_of_block HG7.out 0 _ rfl
  have t1 := cell_of_block HG7.out 1 _ rfl
  have t2 := cell_of_block HG7.out 2 _ rfl
  have t3 := cell_of_block HG7.out 3 _ rfl
  have HFL := Aside0.mk hfl
  have HWB := Aside0.mk hwb
  have HGM := Aside0.mk hgm
  have HMW := Aside0.mk (show ∀ k ∈ mb, w.heap.size ≤ k from fun k hk => by have := hmb4 k hk; have := HB4.out.size; omega)
  generalize mb[st.toNat] = brow at hup srow
  clear hw6 hs5 hb56 B5 hb46 hS6 hst2 hsi hM7 hk7 hS7 hk7' hfbl hs5l hsbl hmbl h45 h67 hfl hf0 hI7 hgm hmb4 hb47 hwb happ hS5 hsb hmb hb45 HG6 HBN4 HBG4 HB4 HN4 HF4 HF5 HF6 HNW HFB HNA HBF HR3 HC3 HRUN HRUN2 HG HT
  go_wp2_with fail
  (with_reducible refine hfix.mono ?_)
  rintro e w8 ⟨rfl, hI8, hk8⟩
  have hl := lists_calls sb n (m0 + 1) mb tab (-1) m0 w8 hn1 hI8.s (by omega) (by omega) (by omega) (by omega)
  have HB8 := Aside0.mk (show Below w.heap.size w w8 from HWB.out.trans (hk8.below HWB.out.size (fun k hk => HMW.out k hk)))
  have HG8 := blk_Kp HG7.out hk8 HGM.out
  have u0 := cell_of_block HG8 0 _ rfl
  have u5 := hI8.c5
  clear hfix hI8 hk8 HG8 hup s5c s2 srow t0 t1 t2 t3
  dsimp only
  go_wp2_with fail
  (with_reducible refine hl.mono ?_)
  rintro e w9 ⟨v, rfl, hv, hb9⟩
  have HV := Aside0.mk (And.intro hv hb9)
  clear hl hv hb9 u0 u5
  dsimp only
  go_wp2_with fail
  go_ret
  exact ⟨v, rfl, HV.out.1, below_step HB8.out HV.out.2⟩
end Go.Proofs.Ytkaedhooccpniaa.Hand
