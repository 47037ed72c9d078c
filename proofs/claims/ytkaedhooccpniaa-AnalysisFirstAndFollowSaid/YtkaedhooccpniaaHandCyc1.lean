import Derived.Test.YtkaedhooccpniaaHandM2
import Derived.BigRegion
/- analysis.Cyclic, by hand. -/
namespace Go.Proofs.Ytkaedhooccpniaa.Hand
open Go.RowKit Go.Proofs.YtkaedhooccpniaaW.PrintWords Go.Proofs.YtkaedhooccpniaaW.PrintLast Go.Proofs.YtkaedhooccpniaaW.PrintMore Go.Proofs.Ytkaedhooccpniaa.PA
set_option linter.unusedVariables false
set_option linter.unusedSimpArgs false
set_option maxHeartbeats 8000000 in
set_option maxRecDepth 100000 in
theorem cyclic_walk (A0 : Option Addr) (m0 c0 : Nat) (A1 : Option Addr) (n c1 : Nat) (st : Int) (A3 : Option Addr) (c3 : Nat) (rules : List S41) (null : List Bool) (w : World) (hn : n ≤ 1000000000) (hG : GOK n rules) (hBL : ∀ r ∈ rules, r.f1.length ≤ 1000) (hC : Kd.C k41 w A3 rules.length rules) (hc3 : rules.length ≤ c3) (hnl : null.length = n)
    (hN : ∀ W', Below w.heap.size w W' → Calls Try.prog 13 #[.agg #[.slice A0 m0 c0, .slice A1 n c1, .int .i64 st, .slice A3 rules.length c3]] W' fun e w' => ∃ An cn, e = .returned (.slice An n cn) ∧ Aside0 (Kd.C Kd.bool w' An n null ∧ n ≤ cn) ∧ Below W'.heap.size W' w') :
    Calls Try.prog 19 #[.agg #[.slice A0 m0 c0, .slice A1 n c1, .int .i64 st, .slice A3 rules.length c3]] w fun e w' => ∃ g, e = .returned (.slice (some ⟨g, 0, none⟩) n n) ∧ w'.heap[g]? = some (.cells ((cycF null n rules).map Value.bool).toArray 4 (0, 0)) ∧ w.heap.size ≤ g ∧ Below w.heap.size w w' := by
  have hu25 := Try.underlying25
  have hu29 := Try.underlying29
  have hu39 := Try.underlying39
  have hu41 := Try.underlying41
  have hmB := mkB n hn
  have hmR := mkR n hn
  obtain ⟨mr, hmr⟩ : ∃ mr, mr = rules.length := ⟨_, rfl⟩
  have hbig : rules.length ≤ 9223372036854775807 := hC.2.1
  obtain ⟨wa, hwa⟩ : ∃ wa : World, wa = w.alloc (Obj.cells #[.slice A0 m0 c0, .slice A1 n c1, .int .i64 st, .slice A3 mr c3] 25) := ⟨_, rfl⟩
  obtain ⟨gb, hgb⟩ : ∃ gb, gb = w.heap.size := ⟨_, rfl⟩
  have hb : Below w.heap.size w wa := by rw [hwa]; exact below_alloc (Below.refl _ _) _
  have BG : wa.heap[gb]? = some (Obj.cells #[.slice A0 m0 c0, .slice A1 n c1, .int .i64 st, .slice A3 mr c3] 25 (0, 0)) := by rw [hwa]; exact blk_new hgb
  have p0 := cell_of_block BG 0 _ rfl
  have p1 := cell_of_block BG 1 _ rfl
  have p2 := cell_of_block BG 2 _ rfl
  have p3 := cell_of_block BG 3 _ rfl
  have hcall := hN wa hb
  have HB := Aside0.mk hb
  have HBG := Aside0.mk BG
  have HG := Aside0.mk hG
  have HBL := Aside0.mk hBL
  have HC := Aside0.mk hC
  have HC3 := Aside0.mk hc3
  have HNL := Aside0.mk hnl
  have HMR := Aside0.mk hmr
  have HMB := Aside0.mk hmB
  rw [← hmr] at hcall hbig ⊢
  clear hb BG hG hBL hC hc3 hnl hN hmr hmB
  go_enter Try.func19, Try.ntmps19
  go_upto_region 1 with fail
  rw [← hwa, ← hgb]
  clear hwa hgb
  go_wp2_with fail
  (with_reducible refine hcall.mono ?_)
  rintro e w2 ⟨An, cn, rfl, HNR, hd⟩
  have hd2 := hd
  have HB2 := Aside0.mk (below_step HB.out hd)
  have HG2 := Aside0.mk (blk_below' HBG.out hd)
  clear hcall hd hd2 p0 p1 p2 p3 HB HBG
  dsimp only
  go_upto_region 2 with fail
  obtain ⟨w3, hw3⟩ : ∃ w3 : World, w3 = w2.alloc (Obj.cells #[.slice An n cn] 29) := ⟨_, rfl⟩
  obtain ⟨nb, hnb⟩ : ∃ nb, nb = w2.heap.size := ⟨_, rfl⟩
  rw [← hw3, ← hnb]
  have hd : Below w2.heap.size w2 w3 := by rw [hw3]; exact below_alloc (Below.refl _ _) _
  have BN : w3.heap[nb]? = some (Obj.cells #[.slice An n cn] 29 (0, 0)) := by rw [hw3]; exact blk_new hnb
  have HBN := Aside0.mk BN
  have HB3 := Aside0.mk (below_step HB2.out hd)
  have HG3 := Aside0.mk (blk_below' HG2.out hd)
  have HN3 := Aside0.mk (And.intro (Kd.C_below HNR.out.1 hd) HNR.out.2)
  have p1 := cell_of_block HG3.out 1 _ rfl
  clear hw3 hnb hd BN HB2 HG2 HNR
  have z1 : 0 ≤ (n : Int) := by omega
  go_upto_region 4 with fail
  obtain ⟨w4, hw4⟩ : ∃ w4 : World, w4 = w3.alloc (Obj.cells (Array.replicate n (Value.slice none 0 0)) 29) := ⟨_, rfl⟩
  obtain ⟨ob, hob⟩ : ∃ ob, ob = w3.heap.size := ⟨_, rfl⟩
  rw [← hw4, ← hob]
  have HP0 := Aside0.mk (PartI.zero (n := n) (show w4.heap[ob]? = some (.cells (List.replicate n (Value.slice none 0 0)).toArray 29 (0, 0)) by rw [hw4, List.toArray_replicate]; exact blk_new hob))
  have HB34 := Aside0.mk (show Below w3.heap.size w3 w4 by rw [hw4]; exact below_alloc (Below.refl _ _) _)
  have HOB := Aside0.mk (show w3.heap.size ≤ ob by omega)
  clear hw4 hob p1 hmR
  go_wp2_with fail
  go_loopg [26] n (fun gg s26 wr => ∃ (ii : Nat) (rb : List Nat), ii ≤ n ∧ n - ii ≤ gg ∧ s26 = .int .i64 ii ∧ Aside0 (PartI ob n ii rb wr) ∧ Aside0 (Below w3.heap.size w3 wr) ∧ Aside0 (∀ r ∈ rb, w3.heap.size ≤ r))
  case atStart => exact ⟨0, [], Nat.zero_le _, by omega, rfl, HP0, HB34, ⟨by simp⟩⟩
  case round =>
    obtain ⟨ii, rb, hii, hgg, rfl, HPx, HBx, HRN⟩ := hrel
    clear HP0 HB34
    by_cases hlt : ii < n
    · have hltz : (ii : Int) < (n : Int) := by omega
      have hltn : (0 : Int) ≤ (ii : Int) := by omega
      have hmk := HMB.out
      have hob' := blk_old (o := Obj.cells (Array.replicate n (Value.bool false)) 4) HPx.out.o
      have c0 := cell_of_block hob' ii (.slice none 0 0) (by
        have e1 : (rb.map (rowV n)).length = ii := by simp [HPx.out.rl]
        rw [List.getElem?_toArray, List.getElem?_append_right (by omega), e1, Nat.sub_self, List.getElem?_replicate, if_pos (by omega)])
      have f0 := blk_frozen hob' ii
      have HS := Aside0.mk (HPx.out.step hlt)
      clear hob'
      go_wp2_with fail
      go_roundg (n - (ii + 1))
      case rel => exact ⟨ii + 1, rb ++ [wr.heap.size], by omega, by omega, by go_num, ⟨by have h := HS.out; rw [List.toArray_replicate] at h; exact h⟩, ⟨(below_alloc HBx.out _).trans ((Kp.set (S := fun k => k = ob) (p := ⟨ob, ii, none⟩) rfl _).below (below_alloc HBx.out _).size (fun k hk => by subst hk; exact HOB.out))⟩, ⟨fun r hr => by
        rcases List.mem_append.1 hr with h | h
        · exact HRN.out r h
        · simp at h; subst h; exact HBx.out.size⟩⟩
      case measure => omega
    · obtain rfl : n = ii := by omega
      have HT0 := Aside0.mk HPx.out.done
      have t3 : decide (n < n) = false := decide_eq_false (by omega)
      have p3 := cell_of_block (blk_below' HG3.out HBx.out) 3 _ rfl
      have HRL := Aside0.mk HPx.out.rl
      clear HPx hlt HMB
      go_wp2_with fail
      clear p3
      go_loopg [38] mr (fun gg s38 wx => ∃ jj : Nat, jj ≤ mr ∧ mr - jj ≤ gg ∧ s38 = .int .i64 jj ∧ Aside0 (TabI ob n rb ((rules.take jj).foldl (cycRule null) (cyc0 n)) wx) ∧ Aside0 (Below w3.heap.size w3 wx))
      case atStart => exact ⟨0, Nat.zero_le _, by omega, rfl, HT0, HBx⟩
      case round =>
        obtain ⟨jj, hjj, hgj, rfl, HTx, HBy⟩ := hrel
        clear HT0 HBx
        by_cases hlt : jj < mr
        · have hltz : (jj : Int) < (mr : Int) := by omega
          have hltn : (0 : Int) ≤ (jj : Int) := by omega
          have hjl : jj < rules.length := by rw [← HMR.out]; exact hlt
          have hbw := below_step HB3.out HBy.out
          obtain ⟨ad, A5, c5, e, x0, x1, x2, xl, xC⟩ := at_T41 HC.out (jj : Int) hltn (by rw [← HMR.out]; exact hltz)
          subst e
          replace x0 := (hbw.cell (World.block_lt_of_cell? w _ x0)).trans x0
          replace x1 := (hbw.cell (World.block_lt_of_cell? w _ x1)).trans x1
          replace x2 := (hbw.cell (World.block_lt_of_cell? w _ x2)).trans x2
          rw [rd_T41_get rules jj hjl] at x0 x1 x2 xl xC
          rw [Int.toNat_natCast] at x0 x1 x2
          have HGr := Aside0.mk (HG.out _ (List.getElem_mem hjl))
          have hLk := HBL.out _ (List.getElem_mem hjl)
          have HTF := Aside0.mk (take_foldl (cycRule null) (cyc0 n) rules jj hjl)
          clear hbw
          generalize rules[jj] = r at x0 x1 x2 xl xC HGr HTF hLk
          obtain ⟨rh, rbody, rx⟩ := r
          dsimp only at x0 x1 x2 xl xC HGr hLk
          obtain ⟨L, hL⟩ : ∃ L, L = rbody.length := ⟨_, rfl⟩
          rw [← hL] at x1 xl xC
          have HL := Aside0.mk hL
          have hLb : L ≤ 1000 := by omega
          generalize (rules.take jj).foldl (cycRule null) (cyc0 n) = T0 at HTx HTF
          clear hL
          go_upto_region 12 with fail
          obtain ⟨w5, hw5⟩ : ∃ w5 : World, w5 = wr.alloc (Obj.cells #[.int .i64 rh, .slice A5 L c5, .int .i64 rx] 41) := ⟨_, rfl⟩
          obtain ⟨bx, hbx⟩ : ∃ bx, bx = wr.heap.size := ⟨_, rfl⟩
          rw [← hw5, ← hbx]
          have hd : Below wr.heap.size wr w5 := by rw [hw5]; exact below_alloc (Below.refl _ _) _
          have HX5 := Aside0.mk (show w5.heap[bx]? = some (Obj.cells #[.int .i64 rh, .slice A5 L c5, .int .i64 rx] 41 (0, 0)) by rw [hw5]; exact blk_new hbx)
          have HNE := Aside0.mk (show ∀ i (h : i < rb.length), rb[i] ≠ bx from fun i h e => by
            have := (Array.getElem?_eq_some_iff.1 (HTx.out.row i h)).1
            omega)
          have HT5 := Aside0.mk (HTx.out.below hd)
          have HB5 := Aside0.mk (below_step HBy.out hd)
          have HBC0 := Aside0.mk xC
          have HXL := Aside0.mk xl
          have b1 := cell_of_block HX5.out 1 _ rfl
          clear hw5 hbx hd x0 x1 x2 xl xC HTx HBy
          go_wp2_with fail
          clear b1
          go_loopg [45] L (fun gg s45 wy => ∃ qq : Nat, qq ≤ L ∧ L - qq ≤ gg ∧ s45 = .int .i64 qq ∧ Aside0 (TabI ob n rb ((List.range qq).foldl (cycAt null ⟨rh, rbody, rx⟩) T0) wy) ∧ Aside0 (Below w3.heap.size w3 wy) ∧ Aside0 (wy.heap[bx]? = some (Obj.cells #[.int .i64 rh, .slice A5 L c5, .int .i64 rx] 41 (0, 0))))
          case atStart => exact ⟨0, Nat.zero_le _, by omega, rfl, HT5, HB5, HX5⟩
          case round =>
            obtain ⟨qq, hqq, hgq, rfl, HTq, HBq, HXq⟩ := hrel
            clear HT5 HB5 HX5
            by_cases hql : qq < L
            · have hqz : (qq : Int) < (L : Int) := by omega
              have hqn : (0 : Int) ≤ (qq : Int) := by omega
              have HBC := Aside0.mk (Kd.C_below HBC0.out (below_step HB3.out HBq.out))
              have hqb : qq < rbody.length := by rw [← HL.out]; exact hql
              obtain ⟨ae, e, v0⟩ := Kd.at_int HBC.out (qq : Int) hqn hqz
              subst e
              rw [getD_rd rbody qq hqb, Int.toNat_natCast] at v0
              obtain ⟨⟨hh0, hh1⟩, hbody⟩ := HGr.out
              have HQF := Aside0.mk (range_foldl (cycAt null ⟨rh, rbody, rx⟩) T0 qq)
              have HXR := Aside0.mk (hbody _ (List.getElem_mem hqb))
              have HAT := Aside0.mk (show ∀ T, cycAt null ⟨rh, rbody, rx⟩ T qq = if decide (rbody[qq] < 0) && (restOf rbody qq).all (nullSym null) then setT T rh.toNat (-1 - rbody[qq]).toNat true else T from fun T => by
                unfold cycAt
                rw [show (S41.mk rh rbody rx).f1.getD qq 0 = rbody[qq] by rw [List.getD_eq_getElem?_getD, List.getElem?_eq_getElem hqb]; rfl])
              generalize (List.range qq).foldl (cycAt null ⟨rh, rbody, rx⟩) T0 = T1 at HTq HQF
              generalize rbody[qq] = x at v0 HXR HAT
              have HBODY := Aside0.mk hbody
              clear hbody
              have b1 := cell_of_block HXq.out 1 _ rfl
              obtain ⟨i39, hi39, hz0, hz1, hz2⟩ := info_parts info3
              have hcut1 := cut_to (P := Try.prog) 39 3 .i64 hu39 hi39 (some ae) L c5 (qq : Int) (by omega) (by omega) HXL.out
              have hcut2 := cut_from (P := Try.prog) 39 3 .i64 hu39 hi39 1 hz1 (some ae) L c5 ((qq : Int) + 1) (by omega) (by omega)
              rw [Int.toNat_natCast] at hcut1
              rw [show ((qq : Int) + 1).toNat = qq + 1 by omega] at hcut2
              have e1 : IntKind.i64.wrap ((qq : Int) + 1) = (qq : Int) + 1 := IntWalk.i64_in _ (by omega)
              have hbl : rbody.length = L := HL.out.symm
              have hx0 : (Kd.fixed (Kd.int .i64) wr).C wr (some ae) rbody.length rbody := by rw [hbl]; exact HBC.out
              have HT := Aside0.mk (show (Kd.fixed (Kd.int .i64) wr).C wr (some ae) qq (rbody.take qq) by
                have := Kd.C_take hx0 (m := qq) (by omega)
                rwa [List.length_take, Nat.min_eq_left (by omega)] at this)
              have HD := Aside0.mk (show (Kd.fixed (Kd.int .i64) wr).C wr (if c5 = qq + 1 then some ae else (some ae).map (·.add ((qq + 1) * 1))) (L - (qq + 1)) (rbody.drop (qq + 1)) by
                have := Kd.C_drop (c := c5) hx0 (m := qq + 1) (by omega) (by rw [hbl]; exact HXL.out)
                rw [List.length_drop, hbl] at this
                exact this)
              generalize (if c5 = qq + 1 then some ae else (some ae).map (·.add ((qq + 1) * 1))) = A9 at hcut2 HD
              have HRL2 := Aside0.mk (show (restOf rbody qq).length = qq + (L - (qq + 1)) by simp [restOf, hbl]; omega)
              have HRD := Aside0.mk (show ∀ v w', Kd.R (Kd.fixed (Kd.int .i64) wr) 3 w' wr.heap.size (fun _ => True) v (([] ++ rbody.take qq) ++ rbody.drop (qq + 1)) → Below wr.heap.size wr w' → ∃ A c, v = .slice A (qq + (L - (qq + 1))) c ∧ Aside0 (Kd.C (Kd.int .i64) w' A (qq + (L - (qq + 1))) (restOf rbody qq) ∧ qq + (L - (qq + 1)) ≤ c) by
                intro v w' hR hb
                rw [List.nil_append] at hR
                obtain ⟨A, c, e, x⟩ := rdK (Rd_fixed hR hb) HRL2.out
                exact ⟨A, c, e, ⟨x⟩⟩)
              have HMK := Aside0.mk (show ∀ w', Below wr.heap.size wr w' → (w'.cell? ⟨bx, 1, none⟩ = some (.slice (some ae) L c5) ∧ Aside0 (Below wr.heap.size wr w')) from fun w' h => ⟨cell_of_block (blk_below' HXq.out h) 1 _ rfl, ⟨h⟩⟩)
              have HLOW := Aside0.mk (show ∀ w', (w'.cell? ⟨bx, 1, none⟩ = some (.slice (some ae) L c5) ∧ Aside0 (Below wr.heap.size wr w')) → Below wr.heap.size wr w' from fun w' h => h.2.out)
              have HSL := Aside0.mk (show qq + (L - (qq + 1)) ≤ 1000 ∧ (rbody.take qq).length = qq from ⟨by omega, by rw [List.length_take]; omega⟩)
              have hx0 := HMK.out wr (Below.refl _ _)
              clear hi39 hz0 hz1 hz2 hbl
              go_upto_region 15 with fail
              go_region_held3 (fun w' => w'.cell? ⟨bx, 1, none⟩ = some (.slice (some ae) L c5) ∧ Aside0 (Below wr.heap.size wr w'))
                (first | exact HMK.out _ (by assumption) | exact HMK.out _ (below_drew1 (Below.refl _ _)) | exact HMK.out _ (below_alloc (below_drew1 (Below.refl _ _)) _) | exact HMK.out _ (below_alloc (Below.refl _ _) _) | assumption)
                ((first | (refine app_gen (Kd.int .i64) (W0 := wr) (wb := wr) 39 3 (.int .i64 0) 8 Try.underlying39 info3 rfl (by decide) (by decide) (by decide) (by rfl) (.tmp 50) (.tmp 54) rfl (.slice (some ⟨wr.heap.size, 0, none⟩) 0 0) [] (rbody.take qq) (some ae) qq c5 (by rfl) (by rfl) ?hR1 HT.out ?hB1 (by have := HSL.out; simp; omega) ?_; (case hR1 => exact R_none (Kd.int .i64) 3 _ (Nat.le_refl _)); (case hB1 => exact HLOW.out _ (by assumption)); intro v1 w1 hR1 hb1) | (refine app_gen (Kd.int .i64) (W0 := wr) (wb := wr) 39 3 (.int .i64 0) 8 Try.underlying39 info3 rfl (by decide) (by decide) (by decide) (by rfl) (.tmp 55) (.tmp 60) rfl v1 ([] ++ rbody.take qq) (rbody.drop (qq + 1)) A9 (L - (qq + 1)) (c5 - (qq + 1)) (by rfl) (by rfl) ?hR2 HD.out ?hB2 (by have := HSL.out; simp; omega) ?_; (case hR2 => exact hR1); (case hB2 => exact HLOW.out _ (by assumption)); intro v2 w2' hR2 hb2; (obtain ⟨A6, c6, rfl, HC6⟩ := HRD.out v2 w2' hR2 hb2))))
              go_upto_region 16 with fail
              refine nameW ?_
              intro w6 hw6
              have hb6 : Below w2'.heap.size w2' w6 := by rw [hw6]; first | exact Below.refl _ _ | exact below_drew1 (Below.refl _ _)
              have hb26 := below_step hb2 hb6
              have HC7 := Aside0.mk (And.intro (Kd.C_below HC6.out.1 hb6) HC6.out.2)
              have HT6 := Aside0.mk (HTq.out.below hb26)
              have HB6 := Aside0.mk (below_step HBq.out hb26)
              have HX6 := Aside0.mk (blk_below' HXq.out hb26)
              have HN6 := Aside0.mk (And.intro (cell_of_block (blk_below' HBN.out HB6.out) 0 _ rfl) (Kd.C_below HN3.out.1 HB6.out))
              clear hw6 hb6 hb26 hb2 hR2 hb1 hR1 HC6 HLOW HMK HRD HT HD hcut1 hcut2 e1 hx0 b1 v0 HTq HBq HXq HBC
              have fin : ∀ (T : List (List Bool)) (W' : World), cycAt null ⟨rh, rbody, rx⟩ T1 qq = T → TabI ob n rb T W' → TabI ob n rb ((List.range (qq + 1)).foldl (cycAt null ⟨rh, rbody, rx⟩) T0) W' := fun T W' h1 h2 => by rw [HQF.out, h1]; exact h2
              have HFIN := Aside0.mk fin
              clear fin
              by_cases hx : x < 0
              · have t1 : decide (x < 0) = true := decide_eq_true hx
                have hcall := all_calls A6 c6 (restOf rbody qq) 39 #[.pointer (some ⟨nb, 0, none⟩)] (Go.Proofs.enters_of (P := Try.prog) Try.func39 (by kernel_rfl) rfl) (nullSym null) w6 (by rw [HRL2.out]; exact HC7.out.1) (by rw [HRL2.out]; exact HC7.out.2) (by
                  intro y hy W' hbW
                  have hyb : y ∈ rbody := by
                    rcases List.mem_append.1 hy with h | h
                    · exact List.mem_of_mem_take h
                    · exact List.mem_of_mem_drop h
                  have hyr := HBODY.out y hyb
                  refine (predC_calls y nb null An cn W' hyr.1.1 hyr.1.2 (by rw [HNL.out]; exact hyr.2) (by rw [HNL.out]; exact (hbW.cell (World.block_lt_of_cell? w6 _ HN6.out.1)).trans HN6.out.1) (by rw [HNL.out]; exact Kd.C_below HN6.out.2 hbW)).mono ?_
                  rintro e w' ⟨he, rfl⟩
                  exact ⟨he, hbW⟩)
                rw [HRL2.out] at hcall
                generalize (restOf rbody qq).all (nullSym null) = bb at hcall HAT
                clear HN6 HBODY
                go_wp2_with fail
                (with_reducible refine hcall.mono ?_)
                rintro e w7 ⟨rfl, hd⟩
                have HT7 := Aside0.mk (HT6.out.below hd)
                have HB7 := Aside0.mk (below_step HB6.out hd)
                have HX7 := Aside0.mk (blk_below' HX6.out hd)
                clear hcall hd HT6 HB6 HX6 HC7
                dsimp only
                cases bb
                · go_wp2_with fail
                  go_roundg (L - (qq + 1))
                  case rel => exact ⟨qq + 1, by omega, by omega, by go_num, ⟨HFIN.out T1 _ (by rw [HAT.out, t1]; rfl) HT7.out⟩, HB7, HX7⟩
                  case measure => omega
                · have hri : rh.toNat < rb.length := by rw [HRL.out]; omega
                  have hxj : (-1 - x).toNat < n := by have := HXR.out.2 hx; omega
                  have hw1 : IntKind.i64.wrap (-1 - x) = -1 - x := by have := HXR.out.1; exact IntWalk.i64_in _ (by omega)
                  have hz1 : (0 : Int) ≤ -1 - x := by omega
                  have hz2 : -1 - x < (n : Int) := HXR.out.2 hx
                  have o0 := HT7.out.outer rh.toNat hri
                  have o1 := HT7.out.cell rh.toNat (-1 - x).toNat hri hxj
                  have o2 := HT7.out.frozen rh.toNat (-1 - x).toNat hri
                  have HS7 := Aside0.mk (HT7.out.set rh.toNat (-1 - x).toNat true hri hxj)
                  have HNE7 := Aside0.mk (HNE.out rh.toNat hri)
                  have HRN7 := Aside0.mk (HRN.out _ (List.getElem_mem hri))
                  have b0 := cell_of_block HX7.out 0 _ rfl
                  unfold rowV at o0
                  generalize rb[rh.toNat] = rr at o0 o1 o2 HS7 HNE7 HRN7
                  generalize getT T1 rh.toNat (-1 - x).toNat = bo at o1
                  go_wp2_with fail
                  go_roundg (L - (qq + 1))
                  case rel =>
                    have hk : Kp (fun k => k = rr) w7 (w7.setCell ⟨rr, (-1 - x).toNat, none⟩ (.bool true)) := Kp.set (S := fun k => k = rr) (p := ⟨rr, (-1 - x).toNat, none⟩) rfl _
                    exact ⟨qq + 1, by omega, by omega, by go_num, ⟨HFIN.out _ _ (by rw [HAT.out, t1]; rfl) HS7.out⟩, ⟨HB7.out.trans (hk.below HB7.out.size (fun k hk => by subst hk; exact HRN7.out))⟩, ⟨blk_Kp HX7.out hk (fun e => HNE7.out e.symm)⟩⟩
                  case measure => omega
              · have t1 : decide (x < 0) = false := decide_eq_false hx
                go_wp2_with fail
                go_roundg (L - (qq + 1))
                case rel => exact ⟨qq + 1, by omega, by omega, by go_num, ⟨HFIN.out T1 _ (by rw [HAT.out, t1]; rfl) HT6.out⟩, HB6, HX6⟩
                case measure => omega
            · obtain rfl : L = qq := by omega
              have t3 : decide (L < L) = false := decide_eq_false (by omega)
              have HQ := Aside0.mk (show (rules.take (jj + 1)).foldl (cycRule null) (cyc0 n) = (List.range L).foldl (cycAt null ⟨rh, rbody, rx⟩) T0 by rw [HTF.out, cycRule, HL.out])
              clear hql
              go_wp2_with fail
              go_roundg (mr - (jj + 1))
              case rel => exact ⟨jj + 1, by omega, by omega, by go_num, ⟨by rw [HQ.out]; exact HTq.out⟩, HBq⟩
              case measure => omega
        · obtain rfl : mr = jj := by omega
          have t3 : decide (mr < mr) = false := decide_eq_false (by omega)
          have HT1 := Aside0.mk (show TabI ob n rb (rules.foldl (cycRule null) (cyc0 n)) wr by have h := HTx.out; rwa [List.take_of_length_le (by rw [HMR.out]; exact Nat.le_refl _)] at h)
          have HTA : ∃ TA, TA = rules.foldl (cycRule null) (cyc0 n) := ⟨_, rfl⟩
          obtain ⟨TA, hTA⟩ := HTA
          rw [← hTA] at HT1
          have HTA := Aside0.mk hTA
          clear hlt HTx hTA HC HG HBL HNL HBN HN3 HC3
          go_wp2_with fail
          go_loopg [80] n (fun gg s80 wr => ∃ kk : Nat, kk ≤ n ∧ n - kk ≤ gg ∧ s80 = .int .i64 kk ∧ Aside0 (TabI ob n rb ((List.range kk).foldl (warK n) TA) wr) ∧ Aside0 (Below w3.heap.size w3 wr))
          case atStart => exact ⟨0, Nat.zero_le _, by omega, rfl, HT1, HBy⟩
          case round =>
            obtain ⟨kk, hkk, hgk, rfl, HTk, HBk⟩ := hrel
            clear HT1 HBy
            by_cases hkl : kk < n
            · have hkz : (kk : Int) < (n : Int) := by omega
              have hkn : (0 : Int) ≤ (kk : Int) := by omega
              have HKF := Aside0.mk (range_foldl (warK n) TA kk)
              generalize (List.range kk).foldl (warK n) TA = TK at HTk HKF
              go_wp2_with fail
              go_loopg [84] n (fun gg s84 wr => ∃ ii : Nat, ii ≤ n ∧ n - ii ≤ gg ∧ s84 = .int .i64 ii ∧ Aside0 (TabI ob n rb ((List.range ii).foldl (warI n kk) TK) wr) ∧ Aside0 (Below w3.heap.size w3 wr))
              case atStart => exact ⟨0, Nat.zero_le _, by omega, rfl, HTk, HBk⟩
              case round =>
                obtain ⟨ii, hii, hgi, rfl, HTi, HBi⟩ := hrel
                clear HTk HBk
                by_cases hil : ii < n
                · have hiz : (ii : Int) < (n : Int) := by omega
                  have hin : (0 : Int) ≤ (ii : Int) := by omega
                  have HIF := Aside0.mk (range_foldl (warI n kk) TK ii)
                  generalize (List.range ii).foldl (warI n kk) TK = TI at HTi HIF
                  go_wp2_with fail
                  go_loopg [88] n (fun gg s88 wr => ∃ jj : Nat, jj ≤ n ∧ n - jj ≤ gg ∧ s88 = .int .i64 jj ∧ Aside0 (TabI ob n rb ((List.range jj).foldl (warJ kk ii) TI) wr) ∧ Aside0 (Below w3.heap.size w3 wr))
                  case atStart => exact ⟨0, Nat.zero_le _, by omega, rfl, HTi, HBi⟩
                  case round =>
                    obtain ⟨jx, hjx, hgx, rfl, HTj, HBj⟩ := hrel
                    clear HTi HBi
                    by_cases hjl : jx < n
                    · have hjz : (jx : Int) < (n : Int) := by omega
                      have hjn : (0 : Int) ≤ (jx : Int) := by omega
                      have HJF := Aside0.mk (range_foldl (warJ kk ii) TI jx)
                      generalize (List.range jx).foldl (warJ kk ii) TI = TJ at HTj HJF
                      have hri : ii < rb.length := by rw [HRL.out]; exact hil
                      have hrk : kk < rb.length := by rw [HRL.out]; exact hkl
                      have o0 := HTj.out.outer ii hri
                      have o1 := HTj.out.outer kk hrk
                      have v0 := HTj.out.cell ii jx hri hjl
                      have v1 := HTj.out.cell ii kk hri hkl
                      have v2 := HTj.out.cell kk jx hrk hjl
                      have f0 := HTj.out.frozen ii jx hri
                      have HSJ := Aside0.mk (HTj.out.set ii jx (getT TJ ii jx || (getT TJ ii kk && getT TJ kk jx)) hri hjl)
                      have HWJ := Aside0.mk (show warJ kk ii TJ jx = setT TJ ii jx (getT TJ ii jx || (getT TJ ii kk && getT TJ kk jx)) from rfl)
                      have HRN7 := Aside0.mk (HRN.out _ (List.getElem_mem hri))
                      unfold rowV at o0 o1
                      generalize rb[ii] = ri at o0 v0 v1 f0 HSJ HRN7
                      generalize rb[kk] = rk at o1 v2
                      generalize getT TJ ii jx = b0 at v0 HSJ HWJ
                      generalize getT TJ ii kk = b1 at v1 HSJ HWJ
                      generalize getT TJ kk jx = b2 at v2 HSJ HWJ
                      cases b0
                      · cases b1
                        · rw [show (false || (false && b2)) = false by rfl] at HSJ HWJ
                          go_upto_region 29 with fail
                          go_region
                          go_wp2_with fail
                          go_roundg (n - (jx + 1))
                          case rel => exact ⟨jx + 1, by omega, by omega, by go_num, ⟨by rw [HJF.out, HWJ.out]; exact HSJ.out.below (below_drew1 (Below.refl _ _))⟩, ⟨below_drew1 (HBj.out.trans ((Kp.set (S := fun k => k = ri) (p := ⟨ri, jx, none⟩) rfl _).below HBj.out.size (fun k hk => by subst hk; exact HRN7.out)))⟩⟩
                          case measure => omega
                        · rw [show (false || (true && b2)) = b2 by simp] at HSJ HWJ
                          go_upto_region 29 with fail
                          go_region
                          go_wp2_with fail
                          go_roundg (n - (jx + 1))
                          case rel => exact ⟨jx + 1, by omega, by omega, by go_num, ⟨by rw [HJF.out, HWJ.out]; exact HSJ.out.below (below_drew1 (Below.refl _ _))⟩, ⟨below_drew1 (HBj.out.trans ((Kp.set (S := fun k => k = ri) (p := ⟨ri, jx, none⟩) rfl _).below HBj.out.size (fun k hk => by subst hk; exact HRN7.out)))⟩⟩
                          case measure => omega
                      · rw [show (true || (b1 && b2)) = true by rfl] at HSJ HWJ
                        go_upto_region 29 with fail
                        go_region
                        go_wp2_with fail
                        go_roundg (n - (jx + 1))
                        case rel => exact ⟨jx + 1, by omega, by omega, by go_num, ⟨by rw [HJF.out, HWJ.out]; exact HSJ.out.below (below_drew1 (Below.refl _ _))⟩, ⟨below_drew1 (HBj.out.trans ((Kp.set (S := fun k => k = ri) (p := ⟨ri, jx, none⟩) rfl _).below HBj.out.size (fun k hk => by subst hk; exact HRN7.out)))⟩⟩
                        case measure => omega
                    · obtain rfl : n = jx := by omega
                      have t3 : decide (n < n) = false := decide_eq_false (by omega)
                      clear hjl
                      go_wp2_with fail
                      go_roundg (n - (ii + 1))
                      case rel => exact ⟨ii + 1, by omega, by omega, by go_num, ⟨by rw [HIF.out]; exact HTj.out⟩, HBj⟩
                      case measure => omega
                · obtain rfl : n = ii := by omega
                  have t3 : decide (n < n) = false := decide_eq_false (by omega)
                  clear hil
                  go_wp2_with fail
                  go_roundg (n - (kk + 1))
                  case rel => exact ⟨kk + 1, by omega, by omega, by go_num, ⟨by rw [HKF.out]; exact HTi.out⟩, HBi⟩
                  case measure => omega
            · obtain rfl : n = kk := by omega
              have t3 : decide (n < n) = false := decide_eq_false (by omega)
              have HTW := Aside0.mk (show TabI ob n rb (warS n TA) wr from HTk.out)
              have hmB := mkB n hn
              clear hkl HTk
              obtain ⟨TW, hTW⟩ : ∃ TW, TW = warS n TA := ⟨_, rfl⟩
              rw [← hTW] at HTW
              have HTWE := Aside0.mk (show cycOut n TW = cycF null n rules by rw [hTW, HTA.out]; rfl)
              clear hTW
              go_upto_region 34 with fail
              obtain ⟨w8, hw8⟩ : ∃ w8 : World, w8 = wr.alloc (Obj.cells (Array.replicate n (Value.bool false)) 4) := ⟨_, rfl⟩
              obtain ⟨g, hg⟩ : ∃ g, g = wr.heap.size := ⟨_, rfl⟩
              rw [← hw8, ← hg]
              have HB8 := Aside0.mk (show Below wr.heap.size wr w8 by rw [hw8]; exact below_alloc (Below.refl _ _) _)
              have HO8 := Aside0.mk (show w8.heap[g]? = some (.cells (((List.range 0).map (fun i => getT TW i i)).map Value.bool ++ List.replicate (n - 0) (Value.bool false)).toArray 4 (0, 0)) by
                rw [hw8]
                refine (blk_new hg).trans ?_
                simp)
              have HGW := Aside0.mk (show wr.heap.size ≤ g by omega)
              have HBK := Aside0.mk HBk.out
              have HTW2 := Aside0.mk (show ∀ W', Below wr.heap.size wr W' → TabI ob n rb TW W' ∧ Below w3.heap.size w3 W' from fun W' h => ⟨HTW.out.below h, below_step HBk.out h⟩)
              have HWR := Aside0.mk (show w.heap.size ≤ g by have := HB3.out.size; have := HBk.out.size; omega)
              obtain ⟨wv, hwv⟩ : ∃ wv, wv = wr := ⟨_, rfl⟩
              rw [← hwv] at HB8 HTW2 HGW
              clear hw8 hg HTW HBk hwv
              go_wp2_with fail
              go_loopg [129] n (fun gg s129 wy => ∃ qq : Nat, qq ≤ n ∧ n - qq ≤ gg ∧ s129 = .int .i64 qq ∧ Aside0 (wy.heap[g]? = some (.cells (((List.range qq).map (fun i => getT TW i i)).map Value.bool ++ List.replicate (n - qq) (Value.bool false)).toArray 4 (0, 0))) ∧ Aside0 (Below wv.heap.size wv wy))
              case atStart => exact ⟨0, Nat.zero_le _, by omega, rfl, HO8, HB8⟩
              case round =>
                obtain ⟨qq, hqq, hgq, rfl, HOq, HBq⟩ := hrel
                clear HO8 HB8
                by_cases hql : qq < n
                · have hqz : (qq : Int) < (n : Int) := by omega
                  have hqn : (0 : Int) ≤ (qq : Int) := by omega
                  obtain ⟨hT, hB⟩ := HTW2.out wr HBq.out
                  have hri : qq < rb.length := by rw [HRL.out]; exact hql
                  have o0 := hT.outer qq hri
                  have v0 := hT.cell qq qq hri hql
                  have hl : (((List.range qq).map (fun i => getT TW i i)).map Value.bool).length = qq := by simp
                  have c0 := cell_of_block HOq.out qq (Value.bool false) (by
                    rw [List.getElem?_toArray, List.getElem?_append_right (by omega), hl, Nat.sub_self, List.getElem?_replicate, if_pos (by omega)])
                  have f0 := blk_frozen HOq.out qq
                  have HS9 := Aside0.mk (show (wr.setCell ⟨g, qq, none⟩ (.bool (getT TW qq qq))).heap[g]? = some (.cells (((List.range (qq + 1)).map (fun i => getT TW i i)).map Value.bool ++ List.replicate (n - (qq + 1)) (Value.bool false)).toArray 4 (0, 0)) by
                    refine (blk_set HOq.out qq (.bool (getT TW qq qq))).trans ?_
                    congr 2
                    rw [List.setIfInBounds_toArray]
                    congr 1
                    rw [List.set_append_right _ _ (by omega), hl, Nat.sub_self, List.range_succ, List.map_append, List.map_append, List.append_assoc]
                    congr 1
                    rw [show n - qq = (n - (qq + 1)) + 1 by omega, List.replicate_succ, List.set_cons_zero]
                    rfl)
                  unfold rowV at o0
                  generalize rb[qq] = ri at o0 v0
                  generalize getT TW qq qq = bv at v0 HS9
                  clear hT hB hl
                  go_wp2_with fail
                  go_roundg (n - (qq + 1))
                  case rel => exact ⟨qq + 1, by omega, by omega, by go_num, HS9, ⟨HBq.out.trans ((Kp.set (S := fun k => k = g) (p := ⟨g, qq, none⟩) rfl _).below HBq.out.size (fun k hk => by subst hk; exact HGW.out))⟩⟩
                  case measure => omega
                · obtain rfl : n = qq := by omega
                  have t3 : decide (n < n) = false := decide_eq_false (by omega)
                  have HQ := Aside0.mk (show wr.heap[g]? = some (.cells ((cycOut n TW).map Value.bool).toArray 4 (0, 0)) by
                    have h := HOq.out
                    rw [Nat.sub_self, List.replicate_zero, List.append_nil] at h
                    exact h)
                  clear hql HOq
                  go_wp2_with fail
                  go_ret
                  exact ⟨g, rfl, HTWE.out ▸ HQ.out, HWR.out, below_step HB3.out (HTW2.out _ HBq.out).2⟩
end Go.Proofs.Ytkaedhooccpniaa.Hand
