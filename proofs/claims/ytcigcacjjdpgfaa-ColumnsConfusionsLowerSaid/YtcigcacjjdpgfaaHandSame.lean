import Derived.Test.YtcigcacjjdpgfaaHandG0
import Derived.Test.YtcigcacjjdpgfaaPAx5
import Derived.Deep.QuietTactic
import Derived.BigQuiet
import Derived.Deep.RegionHeld3
/- The reference's same and SameColumns: their plain answers; SameColumns walked by hand. -/
namespace Go.Proofs.Ytcigcacjjdpgfaa.PA
open Go.RowKit Go.Proofs.YtcigcacjjdpgfaaW.PrintWords Go.Proofs.YtcigcacjjdpgfaaW.PrintLast Go.Proofs.YtcigcacjjdpgfaaW.PrintMore Go.Proofs.Ytcigcacjjdpgfaa.Hand
set_option linter.unusedVariables false
set_option linter.unusedSimpArgs false
theorem w1s (a : Nat) (h : a ≤ 1000000000) : wrap64 ((a : Int) + 1) = ((a + 1 : Nat) : Int) := by unfold wrap64; omega
theorem getD_rds (l : List Int) (k : Nat) (hk : k < l.length) : rd l (k : Int) = l[k] := by simp [rd, hk]
def eqI : List Int → List Int → Bool
  | [], [] => true
  | x :: a, y :: b => decide (x = y) && eqI a b
  | _, _ => false
theorem eqI_refl : ∀ a, eqI a a = true
  | [] => rfl
  | x :: a => by simp [eqI, eqI_refl a]
theorem eqI_len : ∀ a b, a.length ≠ b.length → eqI a b = false
  | [], [], h => absurd rfl h
  | [], _ :: _, _ => rfl
  | _ :: _, [], _ => rfl
  | x :: a, y :: b, h => by simp [eqI, eqI_len a b (by simpa using h)]
theorem same_l0 (a b : List Int) (hl : a.length = b.length) (hm : a.length ≤ 1000000) : ∀ d t, t + d = a.length → ∃ k, emendateref35_same.l0 k a b (t : Int) = some (eqI (a.drop t) (b.drop t)) := by
  intro d
  induction d with
  | zero =>
    intro t ht
    refine ⟨1, ?_⟩
    simp only [emendateref35_same.l0]
    rw [if_neg (by omega), List.drop_eq_nil_of_le (by omega), List.drop_eq_nil_of_le (by omega)]
    rfl
  | succ d ih =>
    intro t ht
    obtain ⟨k, hk⟩ := ih (t + 1) (by omega)
    have h1 : t < a.length := by omega
    have h2 : t < b.length := by omega
    refine ⟨k + 1, ?_⟩
    have q1 : (t : Int) < (a.length : Int) := by omega
    have q2 : 0 ≤ (t : Int) := by omega
    have q3 : (t : Int) < (b.length : Int) := by omega
    rw [List.drop_eq_getElem_cons h1, List.drop_eq_getElem_cons h2]
    simp only [emendateref35_same.l0, if_pos q1, if_pos q2, if_pos q3, getD_rds a t h1, getD_rds b t h2, w1s t (by omega), hk, eqI]
    by_cases e : a[t] = b[t] <;> simp [e]
theorem same_ex (a b : List Int) (hm : a.length ≤ 1000000) : ∃ k, emendateref35_same.f k a b = some (eqI a b) := by
  by_cases hl : a.length = b.length
  · obtain ⟨k, hk⟩ := same_l0 a b hl hm a.length 0 (by omega)
    rw [List.drop_zero, List.drop_zero, Int.natCast_zero] at hk
    refine ⟨k, ?_⟩
    unfold emendateref35_same.f
    rw [if_pos (by omega), hk]
  · refine ⟨0, ?_⟩
    unfold emendateref35_same.f
    rw [if_neg (by omega), eqI_len a b hl]
def eqC : List S51 → List S51 → Bool
  | [], [] => true
  | x :: a, y :: b => decide (x.f0 = y.f0) && decide (x.f2 = y.f2) && eqI x.f1 y.f1 && eqC a b
  | _, _ => false
theorem eqC_refl : ∀ a, eqC a a = true
  | [] => rfl
  | x :: a => by simp [eqC, eqC_refl a, eqI_refl]
theorem eqC_len : ∀ a b, a.length ≠ b.length → eqC a b = false
  | [], [], h => absurd rfl h
  | [], _ :: _, _ => rfl
  | _ :: _, [], _ => rfl
  | x :: a, y :: b, h => by simp [eqC, eqC_len a b (by simpa using h)]
theorem rdT51_at (l : List S51) (j : Nat) (h : j < l.length) : rd_T51 l (j : Int) = l[j] := by simp [rd_T51, h]
/-- The cells of two columns. -/
def Lc (ad ae : Addr) (jj : Nat) (xk xd : Int) (X1 Y1 : Option Addr) (m m' x1c y1c : Nat) (w' : World) : Prop := w'.cell? (ad.add (jj * 3)) = some (.int .i64 xk) ∧ w'.cell? ⟨(ad.add (jj * 3)).block, (ad.add (jj * 3)).off + 1, none⟩ = some (.slice X1 m x1c) ∧ w'.cell? ⟨(ad.add (jj * 3)).block, (ad.add (jj * 3)).off + 2, none⟩ = some (.int .i64 xd) ∧ w'.cell? (ae.add (jj * 3)) = some (.int .i64 xk) ∧ w'.cell? ⟨(ae.add (jj * 3)).block, (ae.add (jj * 3)).off + 1, none⟩ = some (.slice Y1 m' y1c) ∧ w'.cell? ⟨(ae.add (jj * 3)).block, (ae.add (jj * 3)).off + 2, none⟩ = some (.int .i64 xd)
theorem Lc.below {ad ae : Addr} {jj : Nat} {xk xd : Int} {X1 Y1 : Option Addr} {m m' x1c y1c : Nat} {w w' : World} (h : Lc ad ae jj xk xd X1 Y1 m m' x1c y1c w) (hb : Below w.heap.size w w') : Lc ad ae jj xk xd X1 Y1 m m' x1c y1c w' := by
  obtain ⟨h2, h3, h4, h5, h6, h7⟩ := h
  exact ⟨(hb.cell (World.block_lt_of_cell? w _ h2)).trans h2, (hb.cell (World.block_lt_of_cell? w _ h3)).trans h3, (hb.cell (World.block_lt_of_cell? w _ h4)).trans h4, (hb.cell (World.block_lt_of_cell? w _ h5)).trans h5, (hb.cell (World.block_lt_of_cell? w _ h6)).trans h6, (hb.cell (World.block_lt_of_cell? w _ h7)).trans h7⟩
def emendateref35_SameColumns.f (k : Nat) (l0 l1 : List S51) : Option Bool := if l0.length ≤ 1000000 ∧ ∀ c ∈ l0, c.f1.length ≤ 1000000 then some (eqC l0 l1) else none
theorem emendateref35_SameColumns.mono (l0 l1 : List S51) (k : Nat) : LeO (emendateref35_SameColumns.f k l0 l1) (emendateref35_SameColumns.f (k + 1) l0 l1) := LeO.refl _
set_option maxHeartbeats 4000000 in
set_option maxRecDepth 100000 in
theorem emendateref35_SameColumns.calls (k : Nat) (A0 : Option Addr) (c0 : Nat) (l0 : List S51) (A1 : Option Addr) (c1 : Nat) (l1 : List S51) (r : Bool) (w : World) (hr0 : Kd.C k51 w A0 l0.length l0) (hc0 : l0.length ≤ c0) (hr1 : Kd.C k51 w A1 l1.length l1) (hc1 : l1.length ≤ c1) (h : emendateref35_SameColumns.f k l0 l1 = some r) :
    Calls Try.prog 18 #[.slice A0 l0.length c0, .slice A1 l1.length c1] w fun e w' => e = .returned (.bool r) ∧ Below w.heap.size w w' := by
  unfold emendateref35_SameColumns.f at h
  by_cases hs : l0.length ≤ 1000000 ∧ ∀ c ∈ l0, c.f1.length ≤ 1000000
  · rw [if_pos hs] at h
    obtain rfl : eqC l0 l1 = r := Option.some.inj h
    obtain ⟨n0, hn0⟩ : ∃ n0, n0 = l0.length := ⟨_, rfl⟩
    obtain ⟨n1, hn1⟩ : ∃ n1, n1 = l1.length := ⟨_, rfl⟩
    rw [← hn0] at hr0 ⊢
    rw [← hn1] at hr1 ⊢
    by_cases hnn : n0 = n1
    · subst hnn
      have t1 : ((n0 : Int) != (n0 : Int)) = false := by simp
      obtain ⟨rr, hrr⟩ : ∃ rr, rr = eqC l0 l1 := ⟨_, rfl⟩
      rw [← hrr]
      have HRR := Aside0.mk (show rr = eqC (l0.drop 0) (l1.drop 0) by rw [List.drop_zero, List.drop_zero]; exact hrr)
      have HR0 := Aside0.mk hr0
      have HR1 := Aside0.mk hr1
      have HN := Aside0.mk (And.intro hn0 hn1)
      have HS := Aside0.mk hs
      have hm : n0 ≤ 1000000 := by omega
      clear h hs hr0 hr1 hn0 hn1 hrr hc0 hc1
      go_enter Try.func18, Try.ntmps18
      go_wp2_with fail
      go_loopg [5] n0 (fun gg s5 wr => ∃ jj : Nat, jj ≤ n0 ∧ n0 - jj ≤ gg ∧ s5 = .int .i64 jj ∧ Aside0 (rr = eqC (l0.drop jj) (l1.drop jj)) ∧ Aside0 (Below w.heap.size w wr))
      case atStart => exact ⟨0, Nat.zero_le _, by omega, rfl, HRR, ⟨Below.refl _ _⟩⟩
      case round =>
        obtain ⟨jj, hjj, hgg, rfl, HE, HB⟩ := hrel
        clear HRR
        by_cases hlt : jj < n0
        · have hltz : (jj : Int) < (n0 : Int) := by omega
          have hltn : (0 : Int) ≤ (jj : Int) := by omega
          have q0 : jj < l0.length := by rw [← HN.out.1]; exact hlt
          have q1 : jj < l1.length := by rw [← HN.out.2]; exact hlt
          obtain ⟨ad, X1, x1c, e, x0, x1, x2, xl, xC⟩ := at_T51 (Kd.C_below HR0.out HB.out) (jj : Int) hltn hltz
          subst e
          obtain ⟨ae, Y1, y1c, e, y0, y1, y2, yl, yC⟩ := at_T51 (Kd.C_below HR1.out HB.out) (jj : Int) hltn hltz
          subst e
          rw [rdT51_at l0 jj q0] at x0 x1 x2 xl xC
          rw [rdT51_at l1 jj q1] at y0 y1 y2 yl yC
          rw [Int.toNat_natCast] at x0 x1 x2 y0 y1 y2
          have HF := Aside0.mk (show rr = (decide (l0[jj].f0 = l1[jj].f0) && decide (l0[jj].f2 = l1[jj].f2) && eqI l0[jj].f1 l1[jj].f1 && eqC (l0.drop (jj + 1)) (l1.drop (jj + 1))) by
            rw [HE.out, List.drop_eq_getElem_cons q0, List.drop_eq_getElem_cons q1]; rfl)
          have hl6 := HS.out.2 _ (List.getElem_mem q0)
          generalize l0[jj] = x at x0 x1 x2 xl xC HF hl6
          generalize l1[jj] = y at y0 y1 y2 yl yC HF
          obtain ⟨xk, xr, xd⟩ := x
          obtain ⟨yk, yr, yd⟩ := y
          dsimp only at x0 x1 x2 xl xC y0 y1 y2 yl yC HF hl6
          obtain ⟨m, hm'⟩ : ∃ m, m = xr.length := ⟨_, rfl⟩
          obtain ⟨m', hm''⟩ : ∃ m', m' = yr.length := ⟨_, rfl⟩
          obtain ⟨kq, hkq⟩ := same_ex xr yr hl6
          have HSM := Aside0.mk (show ∀ W', Below wr.heap.size wr W' → Calls Try.prog 32 #[.slice X1 m x1c, .slice Y1 m' y1c] W' fun e w' => e = .returned (.bool (eqI xr yr)) ∧ Below W'.heap.size W' w' by
            intro W' hb
            rw [hm', hm'']
            exact (emendateref35_same.calls kq X1 x1c xr Y1 y1c yr _ W' (Kd.C_below xC hb) xl (Kd.C_below yC hb) yl hkq).mono fun e w' h => ⟨h.1, h.2.below⟩)
          rw [← hm'] at x1
          rw [← hm''] at y1
          clear HE q0 q1 xl xC yl yC hl6 hm' hm'' hkq
          by_cases e0 : xk = yk
          · subst e0
            have b0 : (xk != xk) = false := by simp
            by_cases e2 : xd = yd
            · subst e2
              have b2 : (xd != xd) = false := by simp
              have HF2 := Aside0.mk (show rr = (eqI xr yr && eqC (l0.drop (jj + 1)) (l1.drop (jj + 1))) by rw [HF.out]; simp)
              clear HF
              generalize eqI xr yr = bb at HSM HF2
              have HL := Aside0.mk (show Lc ad ae jj xk xd X1 Y1 m m' x1c y1c wr from ⟨x0, x1, x2, y0, y1, y2⟩)
              have HST := Aside0.mk (show ∀ w', Below wr.heap.size wr w' → (Lc ad ae jj xk xd X1 Y1 m m' x1c y1c w' ∧ Aside0 (Below wr.heap.size wr w')) from fun w' hb => ⟨HL.out.below hb, ⟨hb⟩⟩)
              unfold Lc at HST
              go_upto_region 6 with fail
              go_region_held3 (fun w' => (w'.cell? (ad.add (jj * 3)) = some (.int .i64 xk) ∧ w'.cell? ⟨(ad.add (jj * 3)).block, (ad.add (jj * 3)).off + 1, none⟩ = some (.slice X1 m x1c) ∧ w'.cell? ⟨(ad.add (jj * 3)).block, (ad.add (jj * 3)).off + 2, none⟩ = some (.int .i64 xd) ∧ w'.cell? (ae.add (jj * 3)) = some (.int .i64 xk) ∧ w'.cell? ⟨(ae.add (jj * 3)).block, (ae.add (jj * 3)).off + 1, none⟩ = some (.slice Y1 m' y1c) ∧ w'.cell? ⟨(ae.add (jj * 3)).block, (ae.add (jj * 3)).off + 2, none⟩ = some (.int .i64 xd)) ∧ Aside0 (Below wr.heap.size wr w'))
                (first | exact HST.out _ (by assumption) | exact HST.out _ (below_drew1 (Below.refl _ _)))
                ((first | (go_at_call 32; refine (HSM.out _ (below_drew1 (Below.refl _ _))).mono ?_; rintro e wn ⟨rfl, hbn'⟩; have hbn : Below wr.heap.size wr wn := below_step (below_drew1 (Below.refl _ _)) hbn')))
              cases bb
              · go_wp2_with fail
                go_ret
                exact ⟨by rw [HF2.out]; rfl, below_step HB.out (by first | exact hbn | exact below_drew1 hbn)⟩
              · have HF3 := Aside0.mk (show rr = eqC (l0.drop (jj + 1)) (l1.drop (jj + 1)) by rw [HF2.out]; simp)
                go_wp2_with fail
                go_roundg (n0 - (jj + 1))
                case rel => exact ⟨jj + 1, by omega, by omega, by go_num, HF3, ⟨below_step HB.out (by first | exact hbn | exact below_drew1 hbn)⟩⟩
                case measure => omega
            · have b2 : (xd != yd) = true := by simp [e2]
              have HQ := Aside0.mk (show rr = false by rw [HF.out]; simp [e2])
              clear HF HSM x1 y1
              go_upto_region 6 with fail
              go_quiet (fail)
              go_wp2_with fail
              go_ret
              exact ⟨by rw [HQ.out]; rfl, by repeat (first | exact HB.out | apply pw_below_drewN | apply below_drew1)⟩
          · have b0 : (xk != yk) = true := by simp [e0]
            have HQ := Aside0.mk (show rr = false by rw [HF.out]; simp [e0])
            clear HF HSM x1 x2 y1 y2
            go_upto_region 6 with fail
            go_quiet (fail)
            go_wp2_with fail
            go_ret
            exact ⟨by rw [HQ.out]; rfl, by repeat (first | exact HB.out | apply pw_below_drewN | apply below_drew1)⟩
        · obtain rfl : jj = n0 := by omega
          have t3 : decide (jj < jj) = false := decide_eq_false (by omega)
          have HQ := Aside0.mk (show rr = true by rw [HE.out, List.drop_eq_nil_of_le (by rw [← HN.out.1]; omega), List.drop_eq_nil_of_le (by rw [← HN.out.2]; omega)]; rfl)
          clear hlt HE
          go_wp2_with fail
          go_ret
          exact ⟨by rw [HQ.out]; rfl, HB.out⟩
    · have t1 : ((n0 : Int) != (n1 : Int)) = true := by simp; omega
      rw [eqC_len l0 l1 (by omega)]
      clear h hs hr0 hr1 hn0 hn1 hc0 hc1 hnn
      go_enter Try.func18, Try.ntmps18
      go_wp2_with fail
      go_ret
      exact ⟨rfl, Below.refl _ _⟩
  · rw [if_neg hs] at h
    cases h
end Go.Proofs.Ytcigcacjjdpgfaa.PA
