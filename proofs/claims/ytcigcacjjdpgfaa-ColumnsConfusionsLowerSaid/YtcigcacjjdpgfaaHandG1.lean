import Derived.Test.YtcigcacjjdpgfaaHandG0
import Derived.Shelf.Abstract
import Derived.Test.YtcigcacjjdpgfaaPAx1
import Derived.Test.YtcigcacjjdpgfaaPAx19
import Derived.Test.YtcigcacjjdpgfaaPAx2
import Derived.Test.YtcigcacjjdpgfaaPAx13
import Derived.Test.YtcigcacjjdpgfaaPAx4
import Derived.Test.YtcigcacjjdpgfaaPAx14
import Derived.Test.YtcigcacjjdpgfaaPAx10
import Derived.Test.YtcigcacjjdpgfaaPAx7
/- slices.IndexFunc and ContainsFunc at []int and at []api.Column, whatever the function that lays blocks of its own. -/
namespace Go.Proofs.Ytcigcacjjdpgfaa.Hand
open Go.RowKit Go.Proofs.YtcigcacjjdpgfaaW.PrintWords Go.Proofs.YtcigcacjjdpgfaaW.PrintLast Go.Proofs.YtcigcacjjdpgfaaW.PrintMore Go.Proofs.Ytcigcacjjdpgfaa.PA
set_option linter.unusedVariables false
set_option linter.unusedSimpArgs false

/-- The first place from k on, or -1. -/
def idxFrom {α : Type} (p : α → Bool) : List α → Nat → Int
  | [], _ => -1
  | x :: xs, k => if p x = true then (k : Int) else idxFrom p xs (k + 1)
theorem idx_any {α : Type} (p : α → Bool) : ∀ (l : List α) (k : Nat), decide (0 ≤ idxFrom p l k) = l.any p
  | [], _ => by simp [idxFrom]
  | x :: xs, k => by
    rw [idxFrom, List.any_cons]
    cases h : p x with
    | true => simp
    | false => simpa using idx_any p xs (k + 1)
theorem idx_hit {α : Type} {p : α → Bool} {l : List α} {k : Nat} (hk : k < l.length) (h : p l[k] = true) : idxFrom p (l.drop k) k = k := by
  rw [List.drop_eq_getElem_cons hk, idxFrom, if_pos h]
theorem idx_miss {α : Type} {p : α → Bool} {l : List α} {k : Nat} (hk : k < l.length) (h : p l[k] = false) : idxFrom p (l.drop k) k = idxFrom p (l.drop (k + 1)) (k + 1) := by
  rw [List.drop_eq_getElem_cons hk, idxFrom, if_neg (by simp [h])]
theorem getD_rd (l : List Int) (k : Nat) (hk : k < l.length) : rd l (k : Int) = l[k] := by
  simp [rd, List.getD_eq_getElem?_getD, List.getElem?_eq_getElem hk]

set_option maxHeartbeats 2000000 in
theorem indexInt_calls (A : Option Addr) (c : Nat) (l : List Int) (g : Nat) (lb : Array Value) (eg : ∀ args w, (callFunc g args).run Try.prog w = .ok (.enter g args) w) (p : Int → Bool) (W : World) (hr : Kd.C (Kd.int .i64) W A l.length l) (hc : l.length ≤ c)
    (hp : ∀ x ∈ l, ∀ W', Below W.heap.size W W' → Calls Try.prog g (#[.int .i64 x] ++ lb) W' fun e w' => e = .returned (.bool (p x)) ∧ Below W.heap.size W w') :
    Calls Try.prog 34 #[.slice A l.length c, .func (.func g) #[] lb] W fun e w' => e = .returned (.int .i64 (idxFrom p l 0)) ∧ Below W.heap.size W w' := by
  have hbig : l.length ≤ 9223372036854775807 := hr.2.1
  obtain ⟨n, hn⟩ : ∃ n, n = l.length := ⟨_, rfl⟩
  obtain ⟨res, hres⟩ : ∃ res, res = idxFrom p l 0 := ⟨_, rfl⟩
  have HR := Aside0.mk hr
  have HP := Aside0.mk hp
  have HRES := Aside0.mk (show res = idxFrom p (l.drop 0) 0 from hres)
  rw [← hres]
  clear hr hp hres
  rw [← hn] at hbig ⊢
  have HN := Aside0.mk hn
  clear hn
  go_enter Try.func34, Try.ntmps34
  go_wp2
  go_loopg [5, 8] n (fun gg _ s8 wr => ∃ kk : Nat, kk ≤ n ∧ n - kk ≤ gg ∧ s8 = .int .i64 kk ∧ Aside0 (Below W.heap.size W wr) ∧ Aside0 (res = idxFrom p (l.drop kk) kk))
  case atStart => exact ⟨0, Nat.zero_le _, by omega, rfl, ⟨Below.refl _ W⟩, HRES⟩
  case round =>
    obtain ⟨kk, hkk, hg, rfl, BW, AA⟩ := hrel
    clear HRES
    by_cases hlt : kk < n
    · have hltz : (kk : Int) < (n : Int) := by omega
      have hkl : kk < l.length := by rw [← HN.out]; exact hlt
      obtain ⟨ad, e, hx⟩ := Kd.at_int (Kd.C_below HR.out BW.out) (kk : Int) (by omega) (by omega)
      subst e
      rw [getD_rd l kk hkl, Int.toNat_natCast] at hx
      have hcall := HP.out l[kk] (List.getElem_mem hkl) wr BW.out
      have HH := Aside0.mk (fun h => AA.out.trans (idx_hit (p := p) hkl h))
      have HM := Aside0.mk (fun h => AA.out.trans (idx_miss (p := p) hkl h))
      clear HP AA
      generalize l[kk] = x at hx hcall HH HM
      cases hq : p x with
      | false =>
        have HQ := Aside0.mk (HM.out hq)
        rw [hq] at hcall
        clear HH HM hq
        go_wp2_with fail
        (with_reducible refine hcall.mono ?_)
        rintro e w' ⟨rfl, hb'⟩
        clear hcall
        dsimp only
        go_wp2_with fail
        go_roundg (n - (kk + 1))
        case measure => omega
        case rel => exact ⟨kk + 1, by omega, by omega, by go_num, ⟨hb'⟩, HQ⟩
      | true =>
        have HQ := Aside0.mk (HH.out hq)
        rw [hq] at hcall
        clear HH HM hq
        go_wp2_with fail
        (with_reducible refine hcall.mono ?_)
        rintro e w' ⟨rfl, hb'⟩
        clear hcall
        dsimp only
        go_wp2_with fail
        go_ret
        exact ⟨by rw [HQ.out]; rfl, hb'⟩
    · have hltz : ¬ (kk : Int) < (n : Int) := by omega
      have : kk = n := by omega
      subst this
      have HF : Aside0 (res = -1) := ⟨by
        have h1 := AA.out
        rw [List.drop_eq_nil_of_le (by rw [← HN.out]; omega)] at h1
        exact h1⟩
      go_wp2
      go_ret
      exact ⟨by rw [HF.out]; rfl, BW.out⟩

set_option maxHeartbeats 1000000 in
theorem containsInt_calls (A : Option Addr) (c : Nat) (l : List Int) (g : Nat) (lb : Array Value) (eg : ∀ args w, (callFunc g args).run Try.prog w = .ok (.enter g args) w) (p : Int → Bool) (W : World) (hr : Kd.C (Kd.int .i64) W A l.length l) (hc : l.length ≤ c)
    (hp : ∀ x ∈ l, ∀ W', Below W.heap.size W W' → Calls Try.prog g (#[.int .i64 x] ++ lb) W' fun e w' => e = .returned (.bool (p x)) ∧ Below W.heap.size W w') :
    Calls Try.prog 23 #[.slice A l.length c, .func (.func g) #[] lb] W fun e w' => e = .returned (.bool (l.any p)) ∧ Below W.heap.size W w' := by
  have hcall := indexInt_calls A c l g lb eg p W hr hc hp
  rw [← idx_any p l 0]
  generalize idxFrom p l 0 = res at hcall ⊢
  clear hp hr
  go_enter Try.func23, Try.ntmps23
  go_wp2_with fail
  (with_reducible refine hcall.mono ?_)
  rintro e w' ⟨rfl, hb'⟩
  clear hcall
  dsimp only
  go_wp2_with fail
  go_ret
  exact ⟨rfl, hb'⟩
theorem rd_T51_get (l : List S51) (k : Nat) (hk : k < l.length) : rd_T51 l (k : Int) = l[k] := by
  simp [rd_T51, List.getD_eq_getElem?_getD, List.getElem?_eq_getElem hk]
set_option maxHeartbeats 2000000 in
theorem indexCol_calls (A : Option Addr) (c : Nat) (l : List S51) (g : Nat) (lb : Array Value) (eg : ∀ args w, (callFunc g args).run Try.prog w = .ok (.enter g args) w) (p : S51 → Bool) (W : World) (hr : Kd.C k51 W A l.length l) (hc : l.length ≤ c)
    (hp : ∀ x ∈ l, ∀ W', Below W.heap.size W W' → ∀ (A1 : Option Addr) (c1 : Nat), x.f1.length ≤ c1 → Kd.C (Kd.int .i64) W' A1 x.f1.length x.f1 → Calls Try.prog g (#[.agg #[.int .i64 x.f0, .slice A1 x.f1.length c1, .int .i64 x.f2]] ++ lb) W' fun e w' => e = .returned (.bool (p x)) ∧ Below W.heap.size W w') :
    Calls Try.prog 44 #[.slice A l.length c, .func (.func g) #[] lb] W fun e w' => e = .returned (.int .i64 (idxFrom p l 0)) ∧ Below W.heap.size W w' := by
  have hbig : l.length ≤ 9223372036854775807 := hr.2.1
  obtain ⟨n, hn⟩ : ∃ n, n = l.length := ⟨_, rfl⟩
  obtain ⟨res, hres⟩ : ∃ res, res = idxFrom p l 0 := ⟨_, rfl⟩
  have HR := Aside0.mk hr
  have HP := Aside0.mk hp
  have HRES := Aside0.mk (show res = idxFrom p (l.drop 0) 0 from hres)
  rw [← hres]
  clear hr hp hres
  rw [← hn] at hbig ⊢
  have HN := Aside0.mk hn
  clear hn
  go_enter Try.func44, Try.ntmps44
  go_wp2
  go_loopg [5, 8] n (fun gg _ s8 wr => ∃ kk : Nat, kk ≤ n ∧ n - kk ≤ gg ∧ s8 = .int .i64 kk ∧ Aside0 (Below W.heap.size W wr) ∧ Aside0 (res = idxFrom p (l.drop kk) kk))
  case atStart => exact ⟨0, Nat.zero_le _, by omega, rfl, ⟨Below.refl _ W⟩, HRES⟩
  case round =>
    obtain ⟨kk, hkk, hg, rfl, BW, AA⟩ := hrel
    clear HRES
    by_cases hlt : kk < n
    · have hltz : (kk : Int) < (n : Int) := by omega
      have hkl : kk < l.length := by rw [← HN.out]; exact hlt
      obtain ⟨ad, A1, c1, e, hx0, hx1, hx2, hl1, hC1⟩ := at_T51 (Kd.C_below HR.out BW.out) (kk : Int) (by omega) (by omega)
      subst e
      rw [rd_T51_get l kk hkl] at hx0 hx1 hx2 hl1 hC1
      rw [Int.toNat_natCast] at hx0 hx1 hx2
      have hcall := HP.out l[kk] (List.getElem_mem hkl) wr BW.out A1 c1 hl1 hC1
      have HH := Aside0.mk (fun h => AA.out.trans (idx_hit (p := p) hkl h))
      have HM := Aside0.mk (fun h => AA.out.trans (idx_miss (p := p) hkl h))
      clear HP AA hl1 hC1
      generalize l[kk] = x at hx0 hx1 hx2 hcall HH HM
      cases hq : p x with
      | false =>
        have HQ := Aside0.mk (HM.out hq)
        rw [hq] at hcall
        clear HH HM hq
        go_wp2_with fail
        (with_reducible refine hcall.mono ?_)
        rintro e w' ⟨rfl, hb'⟩
        clear hcall
        dsimp only
        go_wp2_with fail
        go_roundg (n - (kk + 1))
        case measure => omega
        case rel => exact ⟨kk + 1, by omega, by omega, by go_num, ⟨hb'⟩, HQ⟩
      | true =>
        have HQ := Aside0.mk (HH.out hq)
        rw [hq] at hcall
        clear HH HM hq
        go_wp2_with fail
        (with_reducible refine hcall.mono ?_)
        rintro e w' ⟨rfl, hb'⟩
        clear hcall
        dsimp only
        go_wp2_with fail
        go_ret
        exact ⟨by rw [HQ.out]; rfl, hb'⟩
    · have hltz : ¬ (kk : Int) < (n : Int) := by omega
      have : kk = n := by omega
      subst this
      have HF : Aside0 (res = -1) := ⟨by
        have h1 := AA.out
        rw [List.drop_eq_nil_of_le (by rw [← HN.out]; omega)] at h1
        exact h1⟩
      go_wp2
      go_ret
      exact ⟨by rw [HF.out]; rfl, BW.out⟩

set_option maxHeartbeats 1000000 in
theorem containsCol_calls (A : Option Addr) (c : Nat) (l : List S51) (g : Nat) (lb : Array Value) (eg : ∀ args w, (callFunc g args).run Try.prog w = .ok (.enter g args) w) (p : S51 → Bool) (W : World) (hr : Kd.C k51 W A l.length l) (hc : l.length ≤ c)
    (hp : ∀ x ∈ l, ∀ W', Below W.heap.size W W' → ∀ (A1 : Option Addr) (c1 : Nat), x.f1.length ≤ c1 → Kd.C (Kd.int .i64) W' A1 x.f1.length x.f1 → Calls Try.prog g (#[.agg #[.int .i64 x.f0, .slice A1 x.f1.length c1, .int .i64 x.f2]] ++ lb) W' fun e w' => e = .returned (.bool (p x)) ∧ Below W.heap.size W w') :
    Calls Try.prog 35 #[.slice A l.length c, .func (.func g) #[] lb] W fun e w' => e = .returned (.bool (l.any p)) ∧ Below W.heap.size W w' := by
  have hcall := indexCol_calls A c l g lb eg p W hr hc hp
  rw [← idx_any p l 0]
  generalize idxFrom p l 0 = res at hcall ⊢
  clear hp hr
  go_enter Try.func35, Try.ntmps35
  go_wp2_with fail
  (with_reducible refine hcall.mono ?_)
  rintro e w' ⟨rfl, hb'⟩
  clear hcall
  dsimp only
  go_wp2_with fail
  go_ret
  exact ⟨rfl, hb'⟩
end Go.Proofs.Ytcigcacjjdpgfaa.Hand
/- columns.validColumn, validColumns, Valid: what they answer, and their contracts by hand. -/
namespace Go.Proofs.Ytcigcacjjdpgfaa.Hand
open Go.RowKit Go.Proofs.YtcigcacjjdpgfaaW.PrintWords Go.Proofs.YtcigcacjjdpgfaaW.PrintLast Go.Proofs.YtcigcacjjdpgfaaW.PrintMore Go.Proofs.Ytcigcacjjdpgfaa.PA
set_option linter.unusedVariables false
set_option linter.unusedSimpArgs false

def largeB (n : Int) : Bool := decide (1 ≤ n) && decide (n ≤ 60000)
def rdOK (kind : Int) : List Int → Int → Bool
  | [], _ => true
  | x :: xs, t => (if t = kind then decide (x = 0) else decide (x = -1) || largeB x) && rdOK kind xs (t + 1)
/-- A valid column. -/
def vcB (terms : Int) (c : S51) : Bool := decide (-1 ≤ c.f0) && decide (c.f0 < terms) && decide ((c.f1.length : Int) = terms) && (largeB c.f2 || decide (c.f2 = 1099511627776)) && rdOK c.f0 c.f1 0

theorem large_f (n : Int) : columns_large.f n = some (largeB n) := by
  unfold columns_large.f largeB
  by_cases h : n ≥ 1
  · simp [h]
  · simp [h]
theorem vc_l0 (kind : Int) (l : List Int) (hl : l.length ≤ 9223372036854775807) (a b : Int) (m : List Int) : ∀ (d k t : Nat), t ≤ l.length → l.length - t = d → d < k →
    columns_validColumn.l0 k l (l.length : Int) (t : Int) kind m b = some (rdOK kind (l.drop t) t) := by
  intro d
  induction d with
  | zero =>
    intro k t ht hd hk
    obtain ⟨k, rfl⟩ : ∃ j, k = j + 1 := ⟨k - 1, by omega⟩
    simp only [columns_validColumn.l0]
    rw [if_neg (by omega), List.drop_eq_nil_of_le (by omega), rdOK]
  | succ d ih =>
    intro k t ht hd hk
    obtain ⟨k, rfl⟩ : ∃ j, k = j + 1 := ⟨k - 1, by omega⟩
    have hlt : t < l.length := by omega
    have hw : wrap64 ((t : Int) + 1) = ((t + 1 : Nat) : Int) := by unfold wrap64; omega
    have hn := ih k (t + 1) (by omega) (by omega) (by omega)
    simp only [columns_validColumn.l0]
    rw [if_pos (by omega), if_pos (by omega), if_pos (by omega), getD_rd l t hlt, hw, hn, List.drop_eq_getElem_cons hlt, rdOK, large_f]
    generalize l[t] = x
    have hc : ((t : Int) + 1) = ((t + 1 : Nat) : Int) := by omega
    rw [hc]
    by_cases h1 : (t : Int) = kind
    · by_cases h2 : x = 0 <;> simp [h1, h2]
    · by_cases h2 : x = -1
      · simp [h1, h2]
      · cases h3 : largeB x <;> simp [h1, h2, h3]
theorem vc_f (c : S51) (hl : c.f1.length ≤ 9223372036854775807) (terms : Int) : columns_validColumn.f (c.f1.length + 2) c.f0 c.f1 c.f2 terms = some (vcB terms c) := by
  obtain ⟨kind, l, del⟩ := c
  simp only at hl ⊢
  have h0 := vc_l0 kind l hl 0 del l l.length (l.length + 1) 0 (by omega) (by omega) (by omega)
  have hj : ∀ b, columns_validColumn.j0 (l.length + 2) b kind l del = some (!b && rdOK kind l 0) := by
    intro b
    simp only [columns_validColumn.j0]
    cases b with
    | true => simp
    | false => simpa using h0
  unfold columns_validColumn.f
  simp only [hj, large_f, vcB]
  by_cases h1 : kind < -1
  · simp [h1, show ¬ (-1 ≤ kind) by omega]
  · by_cases h2 : kind ≥ terms
    · simp [h1, h2, show ¬ (kind < terms) by omega]
    · by_cases h3 : (l.length : Int) = terms
      · cases h4 : largeB del
        · by_cases h5 : del = 1099511627776 <;> simp [h1, h2, h3, h4, h5, show -1 ≤ kind by omega, show kind < terms by omega]
        · simp [h1, h2, h3, h4, show -1 ≤ kind by omega, show kind < terms by omega]
      · simp [h1, h2, h3]

/-- validColumn, by its plain answer. -/
theorem vc_calls (c : S51) (A : Option Addr) (cp : Nat) (terms : Int) (w : World) (hr : Kd.C (Kd.int .i64) w A c.f1.length c.f1) (hc : c.f1.length ≤ cp) :
    Calls Try.prog 37 #[.agg #[.int .i64 c.f0, .slice A c.f1.length cp, .int .i64 c.f2], .int .i64 terms] w fun e w' => e = .returned (.bool (vcB terms c)) ∧ Below w.heap.size w w' :=
  columns_validColumn.calls (c.f1.length + 2) c.f0 A cp c.f1 c.f2 terms (vcB terms c) w hr hc (vc_f c hr.2.1 terms)

set_option maxHeartbeats 1000000 in
theorem vc1_calls (c : S51) (A : Option Addr) (cp : Nat) (terms : Int) (tb : Nat) (w : World) (ht : w.cell? ⟨tb, 0, none⟩ = some (.int .i64 terms)) (hr : Kd.C (Kd.int .i64) w A c.f1.length c.f1) (hc : c.f1.length ≤ cp) :
    Calls Try.prog 36 #[.agg #[.int .i64 c.f0, .slice A c.f1.length cp, .int .i64 c.f2], .pointer (some ⟨tb, 0, none⟩)] w fun e w' => e = .returned (.bool (!vcB terms c)) ∧ Below w.heap.size w w' := by
  have hu51 := Try.underlying51
  obtain ⟨wa, hwa⟩ : ∃ wa : World, wa = w.alloc (Obj.cells #[Value.int IntKind.i64 c.f0, Value.slice A c.f1.length cp, Value.int IntKind.i64 c.f2] 51) := ⟨_, rfl⟩
  obtain ⟨ba, hba⟩ : ∃ ba, ba = w.heap.size := ⟨_, rfl⟩
  have hb : Below w.heap.size w wa := by rw [hwa]; exact below_alloc (Below.refl _ _) _
  have hA : wa.heap[ba]? = some (Obj.cells #[Value.int IntKind.i64 c.f0, Value.slice A c.f1.length cp, Value.int IntKind.i64 c.f2] 51 (0, 0)) := by rw [hwa]; exact blk_new hba
  have a0 : wa.cell? ⟨ba, 0, none⟩ = some (.int .i64 c.f0) := cell_of_block hA 0 _ rfl
  have a1 : wa.cell? ⟨ba, 1, none⟩ = some (.slice A c.f1.length cp) := cell_of_block hA 1 _ rfl
  have a2 : wa.cell? ⟨ba, 2, none⟩ = some (.int .i64 c.f2) := cell_of_block hA 2 _ rfl
  have t0 : wa.cell? ⟨tb, 0, none⟩ = some (.int .i64 terms) := (hb.cell (World.block_lt_of_cell? w _ ht)).trans ht
  have hcall := vc_calls c A cp terms wa (Kd.C_below hr hb) hc
  have HB := Aside0.mk hb
  generalize vcB terms c = res at hcall ⊢
  clear hb hA hr ht
  go_enter Try.func36, Try.ntmps36
  go_upto_region 1 with fail
  rw [← hwa, ← hba]
  clear hwa hba
  go_wp2_with fail
  (with_reducible refine hcall.mono ?_)
  rintro e w2 ⟨rfl, hb2⟩
  have HB2 := Aside0.mk (below_step HB.out hb2)
  clear hcall hb2
  dsimp only
  go_wp2_with fail
  go_ret
  exact ⟨rfl, HB2.out⟩

theorem vcs_pre (tb : Nat) (terms : Int) (wa : World) (t0 : wa.cell? ⟨tb, 0, none⟩ = some (.int .i64 terms)) (A : Option Addr) (cp : Nat) (l : List S51) (hr : Kd.C k51 wa A l.length l) (hc : l.length ≤ cp) :
    Calls Try.prog 35 #[.slice A l.length cp, .func (.func 36) #[] #[.pointer (some ⟨tb, 0, none⟩)]] wa fun e w' => e = .returned (.bool (l.any fun c => !vcB terms c)) ∧ Below wa.heap.size wa w' := by
  have eg := Go.Proofs.enters_of (P := Try.prog) Try.func36 (by kernel_rfl) rfl
  refine containsCol_calls A cp l 36 #[.pointer (some ⟨tb, 0, none⟩)] eg (fun c => !vcB terms c) wa hr hc ?_
  intro x hx W' hb A1 c1 hl hC
  exact (vc1_calls x A1 c1 terms tb W' ((hb.cell (World.block_lt_of_cell? wa _ t0)).trans t0) hC hl).mono fun e w' ⟨he, hb'⟩ => ⟨he, below_step hb hb'⟩

set_option maxHeartbeats 1000000 in
theorem vcs_calls (A : Option Addr) (cp : Nat) (l : List S51) (terms : Int) (w : World) (hr : Kd.C k51 w A l.length l) (hc : l.length ≤ cp) :
    Calls Try.prog 25 #[.slice A l.length cp, .int .i64 terms] w fun e w' => e = .returned (.bool (l.all (vcB terms))) ∧ Below w.heap.size w w' := by
  obtain ⟨wa, hwa⟩ : ∃ wa : World, wa = w.alloc (Obj.cells #[Value.int IntKind.i64 terms] 3) := ⟨_, rfl⟩
  obtain ⟨ba, hba⟩ : ∃ ba, ba = w.heap.size := ⟨_, rfl⟩
  have hb : Below w.heap.size w wa := by rw [hwa]; exact below_alloc (Below.refl _ _) _
  have hA : wa.heap[ba]? = some (Obj.cells #[Value.int IntKind.i64 terms] 3 (0, 0)) := by rw [hwa]; exact blk_new hba
  have hcall := vcs_pre ba terms wa (cell_of_block hA 0 _ rfl) A cp l (Kd.C_below hr hb) hc
  have hres : (l.all (vcB terms)) = !(l.any fun c => !vcB terms c) := by rw [List.not_any_eq_all_not]; simp
  rw [hres]
  have HB := Aside0.mk hb
  generalize (l.any fun c => !vcB terms c) = res at hcall ⊢
  clear hb hA hr hres
  go_enter Try.func25, Try.ntmps25
  go_upto_region 1 with fail
  rw [← hwa, ← hba]
  clear hwa hba
  go_wp2_with fail
  (with_reducible refine hcall.mono ?_)
  rintro e w2 ⟨rfl, hb2⟩
  have HB2 := Aside0.mk (below_step HB.out hb2)
  clear hcall hb2
  dsimp only
  go_wp2_with fail
  go_ret
  exact ⟨rfl, HB2.out⟩

theorem large_calls (n : Int) (w : World) : Calls Try.prog 22 #[.int .i64 n] w fun e w' => e = .returned (.bool (largeB n)) ∧ Drawn0 w w' := columns_large.calls n (largeB n) w (large_f n)
set_option maxHeartbeats 1000000 in
theorem notlarge_calls (n : Int) (w : World) : Calls Try.prog 24 #[.int .i64 n] w fun e w' => e = .returned (.bool (!largeB n)) ∧ Below w.heap.size w w' := by
  have hcall := large_calls n w
  generalize largeB n = res at hcall ⊢
  go_enter Try.func24, Try.ntmps24
  go_wp2_with fail
  (with_reducible refine hcall.mono ?_)
  rintro e w2 ⟨rfl, hd⟩
  have HB := Aside0.mk hd.below
  clear hcall hd
  dsimp only
  go_wp2_with fail
  go_ret
  exact ⟨rfl, HB.out⟩
theorem ins_calls (A : Option Addr) (cp : Nat) (l : List Int) (w : World) (hr : Kd.C (Kd.int .i64) w A l.length l) (hc : l.length ≤ cp) :
    Calls Try.prog 23 #[.slice A l.length cp, .func (.func 24) #[] #[]] w fun e w' => e = .returned (.bool (l.any fun n => !largeB n)) ∧ Below w.heap.size w w' := by
  have eg := Go.Proofs.enters_of (P := Try.prog) Try.func24 (by kernel_rfl) rfl
  refine containsInt_calls A cp l 24 #[] eg (fun n => !largeB n) w hr hc ?_
  intro x hx W' hb
  exact (notlarge_calls x W').mono fun e w' ⟨he, hb'⟩ => ⟨he, below_step hb hb'⟩
end Go.Proofs.Ytcigcacjjdpgfaa.Hand
/- columns.Valid by hand. -/
namespace Go.Proofs.Ytcigcacjjdpgfaa.Hand
open Go.RowKit Go.Proofs.YtcigcacjjdpgfaaW.PrintWords Go.Proofs.YtcigcacjjdpgfaaW.PrintLast Go.Proofs.YtcigcacjjdpgfaaW.PrintMore Go.Proofs.Ytcigcacjjdpgfaa.PA
set_option linter.unusedVariables false
set_option linter.unusedSimpArgs false
/-- Valid's answer. -/
def validB (l0 : List S51) (l1 : List Int) (sw terms : Int) : Bool :=
  decide (0 ≤ terms) && decide (l0.length ≤ 60) && decide ((l1.length : Int) = terms) && (decide (sw = 0) || largeB sw) && (!(l1.any fun n => !largeB n) && l0.all (vcB terms))
set_option maxHeartbeats 2000000 in
theorem valid_no_a (A0 : Option Addr) (c0 : Nat) (l0 : List S51) (A1 : Option Addr) (c1 : Nat) (l1 : List Int) (sw : Int) (terms : Int) (w : World) (h1 : terms < 0) :
    Calls Try.prog 11 #[.agg #[.slice A0 l0.length c0, .slice A1 l1.length c1, .int .i64 sw], .int .i64 terms] w fun e w' => e = .returned (.bool false) ∧ Below w.heap.size w w' := by
  have hu25 := Try.underlying25
  obtain ⟨n0, hn0⟩ : ∃ n0, n0 = l0.length := ⟨_, rfl⟩
  obtain ⟨n1, hn1⟩ : ∃ n1, n1 = l1.length := ⟨_, rfl⟩
  obtain ⟨wa, hwa⟩ : ∃ wa : World, wa = w.alloc (Obj.cells #[Value.slice A0 n0 c0, Value.slice A1 n1 c1, Value.int IntKind.i64 sw] 25) := ⟨_, rfl⟩
  obtain ⟨ba, hba⟩ : ∃ ba, ba = w.heap.size := ⟨_, rfl⟩
  have hb : Below w.heap.size w wa := by rw [hwa]; exact below_alloc (Below.refl _ _) _
  have hA : wa.heap[ba]? = some (Obj.cells #[Value.slice A0 n0 c0, Value.slice A1 n1 c1, Value.int IntKind.i64 sw] 25 (0, 0)) := by rw [hwa]; exact blk_new hba
  have a0 : wa.cell? ⟨ba, 0, none⟩ = some (.slice A0 n0 c0) := cell_of_block hA 0 _ rfl
  have a1 : wa.cell? ⟨ba, 1, none⟩ = some (.slice A1 n1 c1) := cell_of_block hA 1 _ rfl
  have a2 : wa.cell? ⟨ba, 2, none⟩ = some (.int .i64 sw) := cell_of_block hA 2 _ rfl
  have HB := Aside0.mk hb
  have HA := Aside0.mk hA
  have f1 : decide (terms < 0) = true := decide_eq_true h1
  rw [← hn0, ← hn1]
  clear hA hb hn0 hn1
  go_enter Try.func11, Try.ntmps11
  go_upto_region 1 with fail
  rw [← hwa, ← hba]
  clear hwa hba
  go_wp2_with fail
  go_ret
  exact ⟨rfl, HB.out⟩
set_option maxHeartbeats 2000000 in
theorem valid_no_b (A0 : Option Addr) (c0 : Nat) (l0 : List S51) (A1 : Option Addr) (c1 : Nat) (l1 : List Int) (sw : Int) (terms : Int) (w : World) (h1 : ¬ terms < 0) (h2 : 60 < l0.length) :
    Calls Try.prog 11 #[.agg #[.slice A0 l0.length c0, .slice A1 l1.length c1, .int .i64 sw], .int .i64 terms] w fun e w' => e = .returned (.bool false) ∧ Below w.heap.size w w' := by
  have hu25 := Try.underlying25
  obtain ⟨n0, hn0⟩ : ∃ n0, n0 = l0.length := ⟨_, rfl⟩
  obtain ⟨n1, hn1⟩ : ∃ n1, n1 = l1.length := ⟨_, rfl⟩
  obtain ⟨wa, hwa⟩ : ∃ wa : World, wa = w.alloc (Obj.cells #[Value.slice A0 n0 c0, Value.slice A1 n1 c1, Value.int IntKind.i64 sw] 25) := ⟨_, rfl⟩
  obtain ⟨ba, hba⟩ : ∃ ba, ba = w.heap.size := ⟨_, rfl⟩
  have hb : Below w.heap.size w wa := by rw [hwa]; exact below_alloc (Below.refl _ _) _
  have hA : wa.heap[ba]? = some (Obj.cells #[Value.slice A0 n0 c0, Value.slice A1 n1 c1, Value.int IntKind.i64 sw] 25 (0, 0)) := by rw [hwa]; exact blk_new hba
  have a0 : wa.cell? ⟨ba, 0, none⟩ = some (.slice A0 n0 c0) := cell_of_block hA 0 _ rfl
  have a1 : wa.cell? ⟨ba, 1, none⟩ = some (.slice A1 n1 c1) := cell_of_block hA 1 _ rfl
  have a2 : wa.cell? ⟨ba, 2, none⟩ = some (.int .i64 sw) := cell_of_block hA 2 _ rfl
  have HB := Aside0.mk hb
  have HA := Aside0.mk hA
  have f1 : decide (terms < 0) = false := decide_eq_false h1
  have f2 : decide ((60 : Int) < (n0 : Int)) = true := decide_eq_true (by omega)
  have f2b : decide (60 < n0) = true := decide_eq_true (by omega)
  rw [← hn0, ← hn1]
  clear hA hb hn0 hn1 h2
  go_enter Try.func11, Try.ntmps11
  go_upto_region 1 with fail
  rw [← hwa, ← hba]
  clear hwa hba
  go_wp2_with fail
  go_ret
  exact ⟨rfl, HB.out⟩
set_option maxHeartbeats 2000000 in
theorem valid_no_c (A0 : Option Addr) (c0 : Nat) (l0 : List S51) (A1 : Option Addr) (c1 : Nat) (l1 : List Int) (sw : Int) (terms : Int) (w : World) (h1 : ¬ terms < 0) (h2 : ¬ 60 < l0.length) (h3 : ¬ (l1.length : Int) = terms) :
    Calls Try.prog 11 #[.agg #[.slice A0 l0.length c0, .slice A1 l1.length c1, .int .i64 sw], .int .i64 terms] w fun e w' => e = .returned (.bool false) ∧ Below w.heap.size w w' := by
  have hu25 := Try.underlying25
  obtain ⟨n0, hn0⟩ : ∃ n0, n0 = l0.length := ⟨_, rfl⟩
  obtain ⟨n1, hn1⟩ : ∃ n1, n1 = l1.length := ⟨_, rfl⟩
  obtain ⟨wa, hwa⟩ : ∃ wa : World, wa = w.alloc (Obj.cells #[Value.slice A0 n0 c0, Value.slice A1 n1 c1, Value.int IntKind.i64 sw] 25) := ⟨_, rfl⟩
  obtain ⟨ba, hba⟩ : ∃ ba, ba = w.heap.size := ⟨_, rfl⟩
  have hb : Below w.heap.size w wa := by rw [hwa]; exact below_alloc (Below.refl _ _) _
  have hA : wa.heap[ba]? = some (Obj.cells #[Value.slice A0 n0 c0, Value.slice A1 n1 c1, Value.int IntKind.i64 sw] 25 (0, 0)) := by rw [hwa]; exact blk_new hba
  have a0 : wa.cell? ⟨ba, 0, none⟩ = some (.slice A0 n0 c0) := cell_of_block hA 0 _ rfl
  have a1 : wa.cell? ⟨ba, 1, none⟩ = some (.slice A1 n1 c1) := cell_of_block hA 1 _ rfl
  have a2 : wa.cell? ⟨ba, 2, none⟩ = some (.int .i64 sw) := cell_of_block hA 2 _ rfl
  have HB := Aside0.mk hb
  have HA := Aside0.mk hA
  have f1 : decide (terms < 0) = false := decide_eq_false h1
  have f2 : decide ((60 : Int) < (n0 : Int)) = false := decide_eq_false (by omega)
  have f2b : decide (60 < n0) = false := decide_eq_false (by omega)
  have f3 : ((n1 : Int) != terms) = true := bne_iff_ne.2 (by omega)
  rw [← hn0, ← hn1]
  clear hA hb hn0 hn1 h2 h3
  go_enter Try.func11, Try.ntmps11
  go_upto_region 1 with fail
  rw [← hwa, ← hba]
  clear hwa hba
  go_wp2_with fail
  go_ret
  exact ⟨rfl, HB.out⟩
set_option maxHeartbeats 2000000 in
theorem valid_no_d (A0 : Option Addr) (c0 : Nat) (l0 : List S51) (A1 : Option Addr) (c1 : Nat) (l1 : List Int) (sw : Int) (terms : Int) (w : World) (h1 : ¬ terms < 0) (h2 : ¬ 60 < l0.length) (h3 : (l1.length : Int) = terms) (h4 : ¬ sw = 0) (h5 : largeB sw = false) :
    Calls Try.prog 11 #[.agg #[.slice A0 l0.length c0, .slice A1 l1.length c1, .int .i64 sw], .int .i64 terms] w fun e w' => e = .returned (.bool false) ∧ Below w.heap.size w w' := by
  have hu25 := Try.underlying25
  obtain ⟨n0, hn0⟩ : ∃ n0, n0 = l0.length := ⟨_, rfl⟩
  obtain ⟨n1, hn1⟩ : ∃ n1, n1 = l1.length := ⟨_, rfl⟩
  obtain ⟨wa, hwa⟩ : ∃ wa : World, wa = w.alloc (Obj.cells #[Value.slice A0 n0 c0, Value.slice A1 n1 c1, Value.int IntKind.i64 sw] 25) := ⟨_, rfl⟩
  obtain ⟨ba, hba⟩ : ∃ ba, ba = w.heap.size := ⟨_, rfl⟩
  have hb : Below w.heap.size w wa := by rw [hwa]; exact below_alloc (Below.refl _ _) _
  have hA : wa.heap[ba]? = some (Obj.cells #[Value.slice A0 n0 c0, Value.slice A1 n1 c1, Value.int IntKind.i64 sw] 25 (0, 0)) := by rw [hwa]; exact blk_new hba
  have a0 : wa.cell? ⟨ba, 0, none⟩ = some (.slice A0 n0 c0) := cell_of_block hA 0 _ rfl
  have a1 : wa.cell? ⟨ba, 1, none⟩ = some (.slice A1 n1 c1) := cell_of_block hA 1 _ rfl
  have a2 : wa.cell? ⟨ba, 2, none⟩ = some (.int .i64 sw) := cell_of_block hA 2 _ rfl
  have HB := Aside0.mk hb
  have HA := Aside0.mk hA
  have f1 : decide (terms < 0) = false := decide_eq_false h1
  have f2 : decide ((60 : Int) < (n0 : Int)) = false := decide_eq_false (by omega)
  have f2b : decide (60 < n0) = false := decide_eq_false (by omega)
  have f3 : ((n1 : Int) != terms) = false := bne_eq_false_iff_eq.2 (by omega)
  have f4 : (sw != 0) = true := bne_iff_ne.2 h4
  have hL := large_calls sw wa
  rw [h5] at hL
  rw [← hn0, ← hn1]
  clear hA hb hn0 hn1 h2 h3 h4 h5
  go_enter Try.func11, Try.ntmps11
  go_upto_region 1 with fail
  rw [← hwa, ← hba]
  clear hwa hba
  go_wp2_with fail
  (with_reducible refine hL.mono ?_)
  rintro e w2 ⟨rfl, hd⟩
  have HB2 := Aside0.mk (below_step HB.out hd.below)
  clear hL hd
  dsimp only
  go_wp2_with fail
  go_ret
  exact ⟨rfl, HB2.out⟩
set_option maxHeartbeats 2000000 in
theorem valid_e (A0 : Option Addr) (c0 : Nat) (l0 : List S51) (A1 : Option Addr) (c1 : Nat) (l1 : List Int) (sw : Int) (terms : Int) (w : World) (h1 : ¬ terms < 0) (h2 : ¬ 60 < l0.length) (h3 : (l1.length : Int) = terms) (h4 : sw = 0) (hr0 : Kd.C k51 w A0 l0.length l0) (hc0 : l0.length ≤ c0) (hr1 : Kd.C (Kd.int .i64) w A1 l1.length l1) (hc1 : l1.length ≤ c1) :
    Calls Try.prog 11 #[.agg #[.slice A0 l0.length c0, .slice A1 l1.length c1, .int .i64 sw], .int .i64 terms] w fun e w' => e = .returned (.bool (!(l1.any fun n => !largeB n) && l0.all (vcB terms))) ∧ Below w.heap.size w w' := by
  have hu25 := Try.underlying25
  obtain ⟨n0, hn0⟩ : ∃ n0, n0 = l0.length := ⟨_, rfl⟩
  obtain ⟨n1, hn1⟩ : ∃ n1, n1 = l1.length := ⟨_, rfl⟩
  obtain ⟨wa, hwa⟩ : ∃ wa : World, wa = w.alloc (Obj.cells #[Value.slice A0 n0 c0, Value.slice A1 n1 c1, Value.int IntKind.i64 sw] 25) := ⟨_, rfl⟩
  obtain ⟨ba, hba⟩ : ∃ ba, ba = w.heap.size := ⟨_, rfl⟩
  have hb : Below w.heap.size w wa := by rw [hwa]; exact below_alloc (Below.refl _ _) _
  have hA : wa.heap[ba]? = some (Obj.cells #[Value.slice A0 n0 c0, Value.slice A1 n1 c1, Value.int IntKind.i64 sw] 25 (0, 0)) := by rw [hwa]; exact blk_new hba
  have a0 : wa.cell? ⟨ba, 0, none⟩ = some (.slice A0 n0 c0) := cell_of_block hA 0 _ rfl
  have a1 : wa.cell? ⟨ba, 1, none⟩ = some (.slice A1 n1 c1) := cell_of_block hA 1 _ rfl
  have a2 : wa.cell? ⟨ba, 2, none⟩ = some (.int .i64 sw) := cell_of_block hA 2 _ rfl
  have HB := Aside0.mk hb
  have HA := Aside0.mk hA
  have f1 : decide (terms < 0) = false := decide_eq_false h1
  have f2 : decide ((60 : Int) < (n0 : Int)) = false := decide_eq_false (by omega)
  have f2b : decide (60 < n0) = false := decide_eq_false (by omega)
  have f3 : ((n1 : Int) != terms) = false := bne_eq_false_iff_eq.2 (by omega)
  have f4 : (sw != 0) = false := bne_eq_false_iff_eq.2 h4
  have HR0 := Aside0.mk hr0
  have HR1 := Aside0.mk hr1
  have HC0 := Aside0.mk hc0
  have HC1 := Aside0.mk hc1
  have hI := ins_calls A1 c1 l1 wa (Kd.C_below hr1 hb) hc1
  have hV := fun (W' : World) (hb : Below w.heap.size w W') => vcs_calls A0 c0 l0 terms W' (Kd.C_below hr0 hb) hc0
  rw [← hn1] at hI
  rw [← hn0] at hV
  have HV := Aside0.mk hV
  rw [← hn0, ← hn1]
  generalize (l1.any fun n => !largeB n) = bi at hI ⊢
  generalize l0.all (vcB terms) = bc at HV ⊢
  clear hA hb hn0 hn1 h2 h3 h4 hr0 hr1 hc0 hc1 hV HR0 HR1 HC0 HC1
  cases bi
  all_goals
    go_enter Try.func11, Try.ntmps11
    go_upto_region 1 with fail
    rw [← hwa, ← hba]
    clear hwa hba
    go_wp2_with fail
    (with_reducible refine hI.mono ?_)
    rintro e w2 ⟨rfl, hb2⟩
    have HB2 := Aside0.mk (below_step HB.out hb2)
    have hA2 := blk_Kp (S := fun _ => False) HA.out (Kp.of_below hb2) (fun h => h)
    have a0 : w2.cell? ⟨ba, 0, none⟩ = some (.slice A0 n0 c0) := cell_of_block hA2 0 _ rfl
    have hV := HV.out w2 HB2.out
    clear hI hb2 hA2 HV HA
    dsimp only
    go_wp2_with fail
    first
      | (go_ret; exact ⟨rfl, HB2.out⟩)
      | ((with_reducible refine hV.mono ?_); rintro e w3 ⟨rfl, hb3⟩; have HB3 := Aside0.mk (below_step HB2.out hb3); clear hV hb3; dsimp only; go_wp2_with fail; go_ret; exact ⟨by simp, HB3.out⟩)

set_option maxHeartbeats 2000000 in
theorem valid_f (A0 : Option Addr) (c0 : Nat) (l0 : List S51) (A1 : Option Addr) (c1 : Nat) (l1 : List Int) (sw : Int) (terms : Int) (w : World) (h1 : ¬ terms < 0) (h2 : ¬ 60 < l0.length) (h3 : (l1.length : Int) = terms) (h4 : ¬ sw = 0) (h5 : largeB sw = true) (hr0 : Kd.C k51 w A0 l0.length l0) (hc0 : l0.length ≤ c0) (hr1 : Kd.C (Kd.int .i64) w A1 l1.length l1) (hc1 : l1.length ≤ c1) :
    Calls Try.prog 11 #[.agg #[.slice A0 l0.length c0, .slice A1 l1.length c1, .int .i64 sw], .int .i64 terms] w fun e w' => e = .returned (.bool (!(l1.any fun n => !largeB n) && l0.all (vcB terms))) ∧ Below w.heap.size w w' := by
  have hu25 := Try.underlying25
  obtain ⟨n0, hn0⟩ : ∃ n0, n0 = l0.length := ⟨_, rfl⟩
  obtain ⟨n1, hn1⟩ : ∃ n1, n1 = l1.length := ⟨_, rfl⟩
  obtain ⟨wa, hwa⟩ : ∃ wa : World, wa = w.alloc (Obj.cells #[Value.slice A0 n0 c0, Value.slice A1 n1 c1, Value.int IntKind.i64 sw] 25) := ⟨_, rfl⟩
  obtain ⟨ba, hba⟩ : ∃ ba, ba = w.heap.size := ⟨_, rfl⟩
  have hb : Below w.heap.size w wa := by rw [hwa]; exact below_alloc (Below.refl _ _) _
  have hA : wa.heap[ba]? = some (Obj.cells #[Value.slice A0 n0 c0, Value.slice A1 n1 c1, Value.int IntKind.i64 sw] 25 (0, 0)) := by rw [hwa]; exact blk_new hba
  have a0 : wa.cell? ⟨ba, 0, none⟩ = some (.slice A0 n0 c0) := cell_of_block hA 0 _ rfl
  have a1 : wa.cell? ⟨ba, 1, none⟩ = some (.slice A1 n1 c1) := cell_of_block hA 1 _ rfl
  have a2 : wa.cell? ⟨ba, 2, none⟩ = some (.int .i64 sw) := cell_of_block hA 2 _ rfl
  have HB := Aside0.mk hb
  have HA := Aside0.mk hA
  have f1 : decide (terms < 0) = false := decide_eq_false h1
  have f2 : decide ((60 : Int) < (n0 : Int)) = false := decide_eq_false (by omega)
  have f2b : decide (60 < n0) = false := decide_eq_false (by omega)
  have f3 : ((n1 : Int) != terms) = false := bne_eq_false_iff_eq.2 (by omega)
  have f4 : (sw != 0) = true := bne_iff_ne.2 h4
  have hL := large_calls sw wa
  rw [h5] at hL
  have HR0 := Aside0.mk hr0
  have HR1 := Aside0.mk hr1
  have HC0 := Aside0.mk hc0
  have HC1 := Aside0.mk hc1
  have hI := fun (W' : World) (hb : Below w.heap.size w W') => ins_calls A1 c1 l1 W' (Kd.C_below hr1 hb) hc1
  have hV := fun (W' : World) (hb : Below w.heap.size w W') => vcs_calls A0 c0 l0 terms W' (Kd.C_below hr0 hb) hc0
  rw [← hn1] at hI
  rw [← hn0] at hV
  have HI := Aside0.mk hI
  have HV := Aside0.mk hV
  rw [← hn0, ← hn1]
  generalize (l1.any fun n => !largeB n) = bi at HI ⊢
  generalize l0.all (vcB terms) = bc at HV ⊢
  clear hA hb hn0 hn1 h2 h3 h4 h5 hr0 hr1 hc0 hc1 hV hI HR0 HR1 HC0 HC1
  cases bi
  all_goals
    go_enter Try.func11, Try.ntmps11
    go_upto_region 1 with fail
    rw [← hwa, ← hba]
    clear hwa hba
    go_wp2_with fail
    (with_reducible refine hL.mono ?_)
    rintro e w1 ⟨rfl, hd⟩
    have HB1 := Aside0.mk (below_step HB.out hd.below)
    have hA1 := blk_Kp (S := fun _ => False) HA.out (Kp.of_below hd.below) (fun h => h)
    have a0 : w1.cell? ⟨ba, 0, none⟩ = some (.slice A0 n0 c0) := cell_of_block hA1 0 _ rfl
    have a1 : w1.cell? ⟨ba, 1, none⟩ = some (.slice A1 n1 c1) := cell_of_block hA1 1 _ rfl
    have HA1 := Aside0.mk hA1
    have hI := HI.out w1 HB1.out
    clear hL hd hA1 HA HI HB
    dsimp only
    go_wp2_with fail
    (with_reducible refine hI.mono ?_)
    rintro e w2 ⟨rfl, hb2⟩
    have HB2 := Aside0.mk (below_step HB1.out hb2)
    have hA2 := blk_Kp (S := fun _ => False) HA1.out (Kp.of_below hb2) (fun h => h)
    have a0 : w2.cell? ⟨ba, 0, none⟩ = some (.slice A0 n0 c0) := cell_of_block hA2 0 _ rfl
    have hV := HV.out w2 HB2.out
    clear hI hb2 hA2 HV HA1
    dsimp only
    go_wp2_with fail
    first
      | (go_ret; exact ⟨rfl, HB2.out⟩)
      | ((with_reducible refine hV.mono ?_); rintro e w3 ⟨rfl, hb3⟩; have HB3 := Aside0.mk (below_step HB2.out hb3); clear hV hb3; dsimp only; go_wp2_with fail; go_ret; exact ⟨by simp, HB3.out⟩)


end Go.Proofs.Ytcigcacjjdpgfaa.Hand
namespace Go.Proofs.Ytcigcacjjdpgfaa.PA
open Go.RowKit Go.Proofs.YtcigcacjjdpgfaaW.PrintWords Go.Proofs.Ytcigcacjjdpgfaa.Hand
set_option linter.unusedVariables false
def columns_Valid.f (l0_0 : List S51) (l0_1 : List Int) (a0_2 : Int) (a1 : Int) : Option Bool := some (validB l0_0 l0_1 a0_2 a1)
theorem columns_Valid.calls (A0_0 : Option Addr) (c0_0 : Nat) (l0_0 : List S51) (A0_1 : Option Addr) (c0_1 : Nat) (l0_1 : List Int) (a0_2 : Int) (a1 : Int) (r : Bool) (w : World) (hr0_0 : Kd.C k51 w A0_0 l0_0.length l0_0) (hc0_0 : l0_0.length ≤ c0_0) (hr0_1 : Kd.C (Kd.int .i64) w A0_1 l0_1.length l0_1) (hc0_1 : l0_1.length ≤ c0_1)
    (h : columns_Valid.f l0_0 l0_1 a0_2 a1 = some r) :
    Calls Try.prog 11 #[.agg #[.slice A0_0 l0_0.length c0_0, .slice A0_1 l0_1.length c0_1, .int .i64 a0_2], .int .i64 a1] w fun e w' => e = .returned (.bool r) ∧ Below w.heap.size w w' := by
  obtain rfl : validB l0_0 l0_1 a0_2 a1 = r := Option.some.inj h
  clear h
  by_cases h1 : a1 < 0
  · rw [show validB l0_0 l0_1 a0_2 a1 = false by simp [validB, show ¬ 0 ≤ a1 by omega]]
    exact valid_no_a A0_0 c0_0 l0_0 A0_1 c0_1 l0_1 a0_2 a1 w h1
  · by_cases h2 : 60 < l0_0.length
    · rw [show validB l0_0 l0_1 a0_2 a1 = false by simp [validB, show ¬ l0_0.length ≤ 60 by omega]]
      exact valid_no_b A0_0 c0_0 l0_0 A0_1 c0_1 l0_1 a0_2 a1 w h1 h2
    · by_cases h3 : (l0_1.length : Int) = a1
      · by_cases h4 : a0_2 = 0
        · rw [show validB l0_0 l0_1 a0_2 a1 = (!(l0_1.any fun n => !largeB n) && l0_0.all (vcB a1)) by simp [validB, h3, h4, show 0 ≤ a1 by omega, show l0_0.length ≤ 60 by omega]]
          exact valid_e A0_0 c0_0 l0_0 A0_1 c0_1 l0_1 a0_2 a1 w h1 h2 h3 h4 hr0_0 hc0_0 hr0_1 hc0_1
        · cases h5 : largeB a0_2 with
          | false =>
            rw [show validB l0_0 l0_1 a0_2 a1 = false by simp [validB, h4, h5]]
            exact valid_no_d A0_0 c0_0 l0_0 A0_1 c0_1 l0_1 a0_2 a1 w h1 h2 h3 h4 h5
          | true =>
            rw [show validB l0_0 l0_1 a0_2 a1 = (!(l0_1.any fun n => !largeB n) && l0_0.all (vcB a1)) by simp [validB, h3, h4, h5, show 0 ≤ a1 by omega, show l0_0.length ≤ 60 by omega]]
            exact valid_f A0_0 c0_0 l0_0 A0_1 c0_1 l0_1 a0_2 a1 w h1 h2 h3 h4 h5 hr0_0 hc0_0 hr0_1 hc0_1
      · rw [show validB l0_0 l0_1 a0_2 a1 = false by simp [validB, h3]]
        exact valid_no_c A0_0 c0_0 l0_0 A0_1 c0_1 l0_1 a0_2 a1 w h1 h2 h3
end Go.Proofs.Ytcigcacjjdpgfaa.PA
/- prices.Valid and the reference's: both answer pricesB. Plain Lean. -/
namespace Go.Proofs.Ytcigcacjjdpgfaa.PA
open Go.RowKit Go.Proofs.YtcigcacjjdpgfaaW.PrintWords Go.Proofs.YtcigcacjjdpgfaaW.PrintLast Go.Proofs.YtcigcacjjdpgfaaW.PrintMore
set_option linter.unusedVariables false
set_option linter.unusedSimpArgs false
def inB (n lo : Int) : Bool := decide (n ≥ lo) && decide (n ≤ 1000)
theorem prices_in_f (n lo : Int) : prices_in.f n lo = some (inB n lo) := by
  unfold prices_in.f inB
  by_cases h : n ≥ lo <;> simp [h]
theorem between_f (n lo : Int) : emendateref34_between.f n lo 1000 = some (inB n lo) := by
  unfold emendateref34_between.f inB
  by_cases h : n ≥ lo <;> simp [h]
def cellB (a b : Nat) (x : Int) : Bool := if a = b then decide (x = 0) else decide (x = -1) || inB x 1
def rowB (a : Nat) (row : List Int) : Nat → Nat → Bool
  | 0, _ => true
  | d + 1, b => cellB a b (row.getD b 0) && rowB a row d (b + 1)
def prowsB (ins del : List Int) (rep : List (List Int)) : Nat → Nat → Bool
  | 0, _ => true
  | d + 1, a => inB (ins.getD a 0) 1 && inB (del.getD a 0) 1 && decide ((rep.getD a []).length = ins.length) && rowB a (rep.getD a []) ins.length 0 && prowsB ins del rep d (a + 1)
/-- Valid prices. -/
def pricesB (ins del : List Int) (rep : List (List Int)) (sw unk : Int) : Bool :=
  decide (del.length = ins.length) && decide (rep.length = ins.length) && inB sw 0 && inB unk 1 && prowsB ins del rep ins.length 0
theorem rd_nat (l : List Int) (a : Nat) : rd l (a : Int) = l.getD a 0 := by simp [rd]
theorem rdL1_nat (l : List (List Int)) (a : Nat) : rd_L1 l (a : Int) = l.getD a [] := by simp [rd_L1]
theorem w1 (a : Nat) (h : a ≤ 1000000000) : wrap64 ((a : Int) + 1) = ((a + 1 : Nat) : Int) := by unfold wrap64; omega

section
variable (ins del : List Int) (rep : List (List Int)) (sw unk : Int) (hn : ins.length ≤ 1000000)
include hn
theorem pv_l1 (a : Nat) (ha : a < ins.length) (hr : (rep.getD a []).length = ins.length) (R : Bool) (hR : ∃ k, prices_Valid.l0 k (ins.length : Int) (ins.length : Int) ((a + 1 : Nat) : Int) ins del rep sw unk = some R) :
    ∀ d b, b + d = ins.length → ∃ k, prices_Valid.l1 k (ins.length : Int) (a : Int) (ins.length : Int) (a : Int) (rep.getD a []) ((rep.getD a []).length : Int) (b : Int) ins del rep sw unk = some (rowB a (rep.getD a []) d b && R) := by
  intro d
  induction d with
  | zero =>
    intro b hb
    obtain ⟨k, hk⟩ := hR
    refine ⟨k + 1, ?_⟩
    simp only [prices_Valid.l1]
    rw [if_neg (by omega), w1 a (by omega), hk]
    simp [rowB]
  | succ d ih =>
    intro b hb
    obtain ⟨k, hk⟩ := ih (b + 1) (by omega)
    refine ⟨k + 1, ?_⟩
    simp only [prices_Valid.l1]
    rw [if_pos (by omega), if_pos (by omega), if_pos (by omega), w1 b (by omega), hk, rd_nat, prices_in_f]
    simp only [rowB, cellB]
    generalize (rep.getD a []).getD b 0 = x
    by_cases h1 : a = b
    · by_cases h2 : x = 0 <;> simp [h1, h2]
    · have h1' : ¬ (a : Int) = (b : Int) := by omega
      by_cases h2 : x = -1
      · simp [h1, h1', h2]
      · cases h3 : inB x 1 <;> simp [h1, h1', h2, h3]
theorem pv_l0 (hd : del.length = ins.length) (hp : rep.length = ins.length) : ∀ d a, a + d = ins.length → ∃ k, prices_Valid.l0 k (ins.length : Int) (ins.length : Int) (a : Int) ins del rep sw unk = some (prowsB ins del rep d a) := by
  intro d
  induction d with
  | zero =>
    intro a ha
    refine ⟨1, ?_⟩
    simp only [prices_Valid.l0]
    rw [if_neg (by omega)]
    simp [prowsB]
  | succ d ih =>
    intro a ha
    have hl := ih (a + 1) (by omega)
    have q1 : (a : Int) < (del.length : Int) := by omega
    have q2 : (a : Int) < (rep.length : Int) := by omega
    have q3 : (a : Int) < (ins.length : Int) := by omega
    have q4 : 0 ≤ (a : Int) := by omega
    by_cases hr : (rep.getD a []).length = ins.length
    · obtain ⟨k, hk⟩ := pv_l1 ins del rep sw unk hn a (by omega) hr _ hl ins.length 0 (by omega)
      refine ⟨k + 2, ?_⟩
      have hx : (((rep.getD a []).length : Int) != (ins.length : Int)) = false := bne_eq_false_iff_eq.2 (by omega)
      simp only [prices_Valid.l0, prices_Valid.j2, if_pos q1, if_pos q2, if_pos q3, if_pos q4, rd_nat, rdL1_nat, prices_in_f, prowsB, Option.bind_some, hx, Bool.false_eq_true, if_false]
      rw [show (0 : Int) = ((0 : Nat) : Int) from rfl, hk, decide_eq_true hr]
      cases h1 : inB (ins.getD a 0) 1
      · simp only [Bool.false_eq_true, if_false, Bool.false_and, if_true]
      · cases h2 : inB (del.getD a 0) 1
        · simp only [Bool.false_eq_true, if_false, Bool.false_and, if_true, Bool.true_and]
        · simp only [Bool.false_eq_true, if_false, Bool.false_and, if_true, Bool.true_and]
    · refine ⟨2, ?_⟩
      have hx : (((rep.getD a []).length : Int) != (ins.length : Int)) = true := bne_iff_ne.2 (by omega)
      simp only [prices_Valid.l0, prices_Valid.j2, if_pos q1, if_pos q2, if_pos q3, if_pos q4, rd_nat, rdL1_nat, prices_in_f, prowsB, Option.bind_some, hx, if_true]
      rw [decide_eq_false hr]
      cases h1 : inB (ins.getD a 0) 1
      · simp only [Bool.false_eq_true, if_false, Bool.false_and, if_true]
      · cases h2 : inB (del.getD a 0) 1
        · simp only [Bool.false_eq_true, if_false, Bool.false_and, if_true, Bool.true_and]
        · simp only [Bool.false_eq_true, if_false, Bool.false_and, if_true, Bool.true_and]
theorem pv_ex : ∃ k, prices_Valid.f k ins del rep sw unk (ins.length : Int) = some (pricesB ins del rep sw unk) := by
  by_cases hd : del.length = ins.length
  · by_cases hp : rep.length = ins.length
    · obtain ⟨k, hk⟩ := pv_l0 ins del rep sw unk hn hd hp ins.length 0 (by omega)
      refine ⟨k + 1, ?_⟩
      unfold prices_Valid.f
      rw [if_neg (by omega), if_pos rfl, if_pos (by omega), if_pos (by omega), prices_in_f, prices_in_f]
      simp only [prices_Valid.j0, Option.bind_some, pricesB]
      rw [Int.natCast_zero] at hk
      rw [hk, decide_eq_true hd, decide_eq_true hp]
      cases h1 : inB sw 0
      · simp
      · cases h2 : inB unk 1 <;> simp
    · refine ⟨1, ?_⟩
      unfold prices_Valid.f
      rw [if_neg (by omega), if_pos rfl, if_pos (by omega), if_neg (by omega)]
      simp [prices_Valid.j0, pricesB, hp]
  · refine ⟨1, ?_⟩
    unfold prices_Valid.f
    rw [if_neg (by omega), if_pos rfl, if_neg (by omega)]
    simp [prices_Valid.j0, pricesB, hd]
end

section
variable (ins del : List Int) (rep : List (List Int)) (sw unk : Int) (hn : ins.length ≤ 1000000)
include hn
theorem rv_l1 (a : Nat) (ha : a < ins.length) (hp : rep.length = ins.length) (hr : (rep.getD a []).length = ins.length) (R : Bool) (hR : ∃ k, emendateref34_Valid.l0 k (ins.length : Int) ((a + 1 : Nat) : Int) ins del rep sw unk = some R) :
    ∀ d b, b + d = ins.length → ∃ k, emendateref34_Valid.l1 k (ins.length : Int) (a : Int) (b : Int) ins del rep sw unk = some (rowB a (rep.getD a []) d b && R) := by
  intro d
  induction d with
  | zero =>
    intro b hb
    obtain ⟨k, hk⟩ := hR
    refine ⟨k + 1, ?_⟩
    simp only [emendateref34_Valid.l1]
    rw [if_neg (by omega), w1 a (by omega), hk]
    simp [rowB]
  | succ d ih =>
    intro b hb
    obtain ⟨k, hk⟩ := ih (b + 1) (by omega)
    refine ⟨k + 1, ?_⟩
    have q1 : (b : Int) < (ins.length : Int) := by omega
    have q2 : (a : Int) < (rep.length : Int) := by omega
    have q3 : (b : Int) < ((rep.getD a []).length : Int) := by omega
    have q4 : 0 ≤ (a : Int) := by omega
    have q5 : 0 ≤ (b : Int) := by omega
    simp only [emendateref34_Valid.l1, if_pos q1, if_pos q2, if_pos q3, if_pos q4, if_pos q5, rdL1_nat, rd_nat, between_f, w1 b (by omega), hk, rowB, cellB]
    generalize (rep.getD a []).getD b 0 = x
    by_cases h1 : a = b
    · by_cases h2 : x = 0 <;> simp [h1, h2]
    · have h1' : ¬ (a : Int) = (b : Int) := by omega
      by_cases h2 : x = -1
      · simp [h1, h1', h2]
      · cases h3 : inB x 1 <;> simp [h1, h1', h2, h3]
theorem rv_l0 (hd : del.length = ins.length) (hp : rep.length = ins.length) : ∀ d a, a + d = ins.length → ∃ k, emendateref34_Valid.l0 k (ins.length : Int) (a : Int) ins del rep sw unk = some (prowsB ins del rep d a) := by
  intro d
  induction d with
  | zero =>
    intro a ha
    refine ⟨1, ?_⟩
    simp only [emendateref34_Valid.l0]
    rw [if_neg (by omega)]
    simp [prowsB]
  | succ d ih =>
    intro a ha
    have hl := ih (a + 1) (by omega)
    have q1 : (a : Int) < (del.length : Int) := by omega
    have q2 : (a : Int) < (rep.length : Int) := by omega
    have q3 : (a : Int) < (ins.length : Int) := by omega
    have q4 : 0 ≤ (a : Int) := by omega
    by_cases hr : (rep.getD a []).length = ins.length
    · obtain ⟨k, hk⟩ := rv_l1 ins del rep sw unk hn a (by omega) hp hr _ hl ins.length 0 (by omega)
      refine ⟨k + 2, ?_⟩
      have hx : (((rep.getD a []).length : Int) != (ins.length : Int)) = false := bne_eq_false_iff_eq.2 (by omega)
      simp only [emendateref34_Valid.l0, emendateref34_Valid.j2, if_pos q1, if_pos q2, if_pos q3, if_pos q4, rd_nat, rdL1_nat, between_f, prowsB, Option.bind_some, hx, Bool.false_eq_true, if_false]
      rw [show (0 : Int) = ((0 : Nat) : Int) from rfl, hk, decide_eq_true hr]
      cases h1 : inB (ins.getD a 0) 1
      · simp only [Bool.false_eq_true, if_false, Bool.false_and, if_true]
      · cases h2 : inB (del.getD a 0) 1
        · simp only [Bool.false_eq_true, if_false, Bool.false_and, if_true, Bool.true_and]
        · simp only [Bool.false_eq_true, if_false, Bool.false_and, if_true, Bool.true_and]
    · refine ⟨2, ?_⟩
      have hx : (((rep.getD a []).length : Int) != (ins.length : Int)) = true := bne_iff_ne.2 (by omega)
      simp only [emendateref34_Valid.l0, emendateref34_Valid.j2, if_pos q1, if_pos q2, if_pos q3, if_pos q4, rd_nat, rdL1_nat, between_f, prowsB, Option.bind_some, hx, if_true]
      rw [decide_eq_false hr]
      cases h1 : inB (ins.getD a 0) 1
      · simp only [Bool.false_eq_true, if_false, Bool.false_and, if_true]
      · cases h2 : inB (del.getD a 0) 1
        · simp only [Bool.false_eq_true, if_false, Bool.false_and, if_true, Bool.true_and]
        · simp only [Bool.false_eq_true, if_false, Bool.false_and, if_true, Bool.true_and]
theorem rv_ex : ∃ k, emendateref34_Valid.f k ins del rep sw unk (ins.length : Int) = some (pricesB ins del rep sw unk) := by
  by_cases hd : del.length = ins.length
  · by_cases hp : rep.length = ins.length
    · obtain ⟨k, hk⟩ := rv_l0 ins del rep sw unk hn hd hp ins.length 0 (by omega)
      refine ⟨k + 1, ?_⟩
      unfold emendateref34_Valid.f
      rw [if_pos rfl, if_pos (by omega), if_pos (by omega), between_f, between_f]
      simp only [emendateref34_Valid.j0, Option.bind_some, pricesB]
      rw [Int.natCast_zero] at hk
      rw [hk, decide_eq_true hd, decide_eq_true hp]
      cases h1 : inB sw 0
      · simp
      · cases h2 : inB unk 1 <;> simp
    · refine ⟨1, ?_⟩
      unfold emendateref34_Valid.f
      rw [if_pos rfl, if_pos (by omega), if_neg (by omega)]
      simp [emendateref34_Valid.j0, pricesB, hp]
  · refine ⟨1, ?_⟩
    unfold emendateref34_Valid.f
    rw [if_pos rfl, if_neg (by omega)]
    simp [emendateref34_Valid.j0, pricesB, hd]
end
/-- What valid prices are. -/
theorem rowB_at {a : Nat} {row : List Int} : ∀ {d b : Nat}, rowB a row d b = true → ∀ j, b ≤ j → j < b + d → cellB a j (row.getD j 0) = true := by
  intro d
  induction d with
  | zero => intro b _ j h1 h2; omega
  | succ d ih =>
    intro b h j h1 h2
    simp only [rowB, Bool.and_eq_true] at h
    rcases Nat.lt_or_ge b j with hj | hj
    · exact ih h.2 j (by omega) (by omega)
    · obtain rfl : j = b := by omega
      exact h.1
theorem prowsB_at {ins del : List Int} {rep : List (List Int)} : ∀ {d a : Nat}, prowsB ins del rep d a = true → ∀ j, a ≤ j → j < a + d →
    inB (ins.getD j 0) 1 = true ∧ inB (del.getD j 0) 1 = true ∧ (rep.getD j []).length = ins.length ∧ rowB j (rep.getD j []) ins.length 0 = true := by
  intro d
  induction d with
  | zero => intro b _ j h1 h2; omega
  | succ d ih =>
    intro b h j h1 h2
    simp only [prowsB, Bool.and_eq_true, decide_eq_true_eq] at h
    rcases Nat.lt_or_ge b j with hj | hj
    · exact ih h.2 j (by omega) (by omega)
    · obtain rfl : j = b := by omega
      exact ⟨h.1.1.1.1, h.1.1.1.2, h.1.1.2, h.1.2⟩
structure PrOK (ins del : List Int) (rep : List (List Int)) (sw unk : Int) : Prop where
  dl : del.length = ins.length
  rl : rep.length = ins.length
  sw : 0 ≤ sw ∧ sw ≤ 1000
  unk : 1 ≤ unk ∧ unk ≤ 1000
  at_ : ∀ j, j < ins.length → (1 ≤ ins.getD j 0 ∧ ins.getD j 0 ≤ 1000) ∧ (1 ≤ del.getD j 0 ∧ del.getD j 0 ≤ 1000) ∧ (rep.getD j []).length = ins.length
  cell : ∀ j t, j < ins.length → t < ins.length → (j = t → (rep.getD j []).getD t 0 = 0) ∧ (j ≠ t → (rep.getD j []).getD t 0 = -1 ∨ (1 ≤ (rep.getD j []).getD t 0 ∧ (rep.getD j []).getD t 0 ≤ 1000))
theorem prOK_of {ins del : List Int} {rep : List (List Int)} {sw unk : Int} (h : pricesB ins del rep sw unk = true) : PrOK ins del rep sw unk := by
  simp only [pricesB, Bool.and_eq_true, decide_eq_true_eq, inB] at h
  obtain ⟨⟨⟨⟨h1, h2⟩, h3⟩, h4⟩, h5⟩ := h
  refine ⟨h1, h2, h3, h4, fun j hj => ?_, fun j t hj ht => ?_⟩
  · obtain ⟨a, b, c, d⟩ := prowsB_at h5 j (by omega) (by omega)
    simp only [inB, Bool.and_eq_true, decide_eq_true_eq] at a b
    exact ⟨a, b, c⟩
  · obtain ⟨a, b, c, d⟩ := prowsB_at h5 j (by omega) (by omega)
    have hc := rowB_at d t (by omega) (by omega)
    unfold cellB at hc
    refine ⟨fun e => ?_, fun e => ?_⟩
    · rw [if_pos e] at hc
      exact of_decide_eq_true hc
    · rw [if_neg e] at hc
      simpa [inB] using hc
end Go.Proofs.Ytcigcacjjdpgfaa.PA
/- columns.column and the reference's: both answer colT. Plain Lean. -/
namespace Go.Proofs.Ytcigcacjjdpgfaa.PA
open Go.RowKit Go.Proofs.YtcigcacjjdpgfaaW.PrintWords Go.Proofs.YtcigcacjjdpgfaaW.PrintLast Go.Proofs.YtcigcacjjdpgfaaW.PrintMore
set_option linter.unusedVariables false
set_option linter.unusedSimpArgs false
def colStep (r : List Int) (x : S53) : List Int := if r.getD x.f0.toNat 0 < 0 then r.set x.f0.toNat x.f1 else if r.getD x.f0.toNat 0 > x.f1 then r.set x.f0.toNat x.f1 else r
def colBase (kind : Int) (ins : List Int) (rep : List (List Int)) : List Int := if kind ≥ 0 then rep.getD kind.toNat [] else List.replicate ins.length (-1)
def colDel (kind : Int) (del : List Int) (unk : Int) : Int := if kind ≥ 0 then del.getD kind.toNat 0 else unk
def colT (kind : Int) (l : List S53) (ins del : List Int) (rep : List (List Int)) (unk : Int) : S51 := ⟨kind, l.foldl colStep (colBase kind ins rep), colDel kind del unk⟩
/-- The confusions of a token that Of lets in. -/
def ConfOK (n : Nat) (l : List S53) : Prop := ∀ x ∈ l, (0 ≤ x.f0 ∧ x.f0 < n) ∧ 1 ≤ x.f1
theorem colStep_length (r : List Int) (x : S53) : (colStep r x).length = r.length := by
  unfold colStep
  split
  · simp
  · split <;> simp
theorem foldl_length : ∀ (l : List S53) (r : List Int), (l.foldl colStep r).length = r.length
  | [], r => rfl
  | x :: l, r => by rw [List.foldl_cons, foldl_length l, colStep_length]
theorem rdT53_at (l : List S53) (j : Nat) (h : j < l.length) : rd_T53 l (j : Int) = l[j] := by simp [rd_T53, h]
theorem rd_int (l : List Int) (i : Int) : rd l i = l.getD i.toNat 0 := rfl
theorem cc_l0 (l : List S53) (hl : l.length ≤ 1000000) (kind dl : Int) : ∀ d j (r : List Int), j + d = l.length → ConfOK r.length l →
    ∃ k, columns_column.l0 k l (l.length : Int) (j : Int) kind r dl = some (kind, (l.drop j).foldl colStep r, dl) := by
  intro d
  induction d with
  | zero =>
    intro j r hj hc
    refine ⟨1, ?_⟩
    simp only [columns_column.l0]
    rw [if_neg (by omega), List.drop_eq_nil_of_le (by omega)]
    rfl
  | succ d ih =>
    intro j r hj hc
    have hjl : j < l.length := by omega
    obtain ⟨⟨h1, h2⟩, h3⟩ := hc l[j] (List.getElem_mem hjl)
    obtain ⟨k, hk⟩ := ih (j + 1) (colStep r l[j]) (by omega) (by rw [colStep_length]; exact hc)
    refine ⟨k + 1, ?_⟩
    have q1 : (j : Int) < (l.length : Int) := by omega
    have q2 : 0 ≤ (j : Int) := by omega
    rw [List.drop_eq_getElem_cons hjl, List.foldl_cons]
    simp only [columns_column.l0, if_pos q1, if_pos q2, rdT53_at l j hjl, if_pos h1, if_pos h2, rd_int, w1 j (by omega)]
    rw [← hk]
    unfold colStep
    generalize l[j] = x
    split
    · rfl
    · split <;> rfl
theorem cc_ex (kind : Int) (l : List S53) (ins del : List Int) (rep : List (List Int)) (sw unk : Int) (hl : l.length ≤ 1000000) (hn : ins.length ≤ 60) (hp : rep.length = ins.length) (hd : del.length = ins.length)
    (hk : kind < ins.length) (hr : 0 ≤ kind → (rep.getD kind.toNat []).length = ins.length) (hc : ConfOK ins.length l) :
    ∃ k, columns_column.f k kind l ins del rep sw unk = some ((colT kind l ins del rep unk).f0, (colT kind l ins del rep unk).f1, (colT kind l ins del rep unk).f2) := by
  have hb : (colBase kind ins rep).length = ins.length := by
    unfold colBase
    split
    · exact hr (by omega)
    · simp
  obtain ⟨k, hk0⟩ := cc_l0 l hl kind (colDel kind del unk) l.length 0 (colBase kind ins rep) (by omega) (by rw [hb]; exact hc)
  rw [List.drop_zero, Int.natCast_zero] at hk0
  refine ⟨k + 1, ?_⟩
  unfold columns_column.f
  simp only [columns_column.j0]
  by_cases h0 : kind ≥ 0
  · have q1 : kind < (rep.length : Int) := by omega
    have q2 : kind < (del.length : Int) := by omega
    have hh : (rd_L1 rep kind).length < 8796093022208 := by have := hr h0; unfold rd_L1; omega
    simp only [if_pos h0, if_pos q1, if_pos q2, slices_Clone_int_int.f, if_pos hh, Option.bind_some]
    simp only [colBase, colDel, if_pos h0] at hk0
    simp only [rd_L1, rd, colT, colBase, colDel, if_pos h0]
    exact hk0
  · have hh : [(-1 : Int)] = [-1] ∧ 0 ≤ (ins.length : Int) ∧ (ins.length : Int) ≤ 60 := ⟨rfl, by omega, by omega⟩
    have hR : slices_Repeat_int_int.f [-1] (ins.length : Int) = some (List.replicate ins.length (-1)) := by
      unfold slices_Repeat_int_int.f
      rw [if_pos hh, Int.toNat_natCast]
    simp only [colBase, colDel, if_neg h0] at hk0
    simp only [if_neg h0, hR, Option.bind_some, colT, colBase, colDel]
    exact hk0

/-- No entry of a row that is read is less than -1. -/
def GeM (r : List Int) : Prop := ∀ x ∈ r, -1 ≤ x
theorem geM_step {r : List Int} {x : S53} (h : GeM r) (hx : 1 ≤ x.f1) : GeM (colStep r x) := by
  unfold colStep
  have : GeM (r.set x.f0.toNat x.f1) := by
    intro y hy
    rcases List.mem_or_eq_of_mem_set hy with hy | hy
    · exact h y hy
    · omega
  split
  · exact this
  · split
    · exact this
    · exact h
theorem rc_l1 (l : List S53) (hl : l.length ≤ 1000000) (kind dl : Int) : ∀ d j (r : List Int), j + d = l.length → ConfOK r.length l → GeM r →
    ∃ k, emendateref35_column.l1 k l r (j : Int) kind dl = some (kind, (l.drop j).foldl colStep r, dl) := by
  intro d
  induction d with
  | zero =>
    intro j r hj hc hg
    refine ⟨1, ?_⟩
    simp only [emendateref35_column.l1]
    rw [if_neg (by omega), List.drop_eq_nil_of_le (by omega)]
    rfl
  | succ d ih =>
    intro j r hj hc hg
    have hjl : j < l.length := by omega
    obtain ⟨⟨h1, h2⟩, h3⟩ := hc l[j] (List.getElem_mem hjl)
    obtain ⟨k, hk⟩ := ih (j + 1) (colStep r l[j]) (by omega) (by rw [colStep_length]; exact hc) (geM_step hg h3)
    refine ⟨k + 1, ?_⟩
    have q1 : (j : Int) < (l.length : Int) := by omega
    have q2 : 0 ≤ (j : Int) := by omega
    rw [List.drop_eq_getElem_cons hjl, List.foldl_cons]
    simp only [emendateref35_column.l1, if_pos q1, if_pos q2, rdT53_at l j hjl, if_pos h1, if_pos h2, rd_int, w1 j (by omega)]
    rw [← hk]
    have hlt : l[j].f0.toNat < r.length := by omega
    have hm : -1 ≤ r.getD l[j].f0.toNat 0 := by
      rw [List.getD_eq_getElem?_getD, List.getElem?_eq_getElem hlt]
      exact hg _ (List.getElem_mem hlt)
    unfold colStep
    generalize hx : l[j] = x at *
    by_cases e : r.getD x.f0.toNat 0 = -1
    · rw [if_pos e, if_pos (by omega)]
    · rw [if_neg e, if_neg (show ¬ r.getD x.f0.toNat 0 < 0 by omega)]
      split <;> rfl
theorem rc_l0 (kind : Int) (l : List S53) (ins del : List Int) (rep : List (List Int)) (sw unk : Int) (hn : ins.length ≤ 1000000) (hp : rep.length = ins.length) (hd : del.length = ins.length)
    (hk : kind < ins.length) (hr : 0 ≤ kind → (rep.getD kind.toNat []).length = ins.length) (R : Int × List Int × Int) (hR : ∃ k, emendateref35_column.l1 k l (colBase kind ins rep) 0 kind (colDel kind del unk) = some R) :
    ∀ d t (r : List Int), t + d = ins.length → r.length = ins.length → (∀ i, i < t → r[i]? = (colBase kind ins rep)[i]?) → ∃ k, emendateref35_column.l0 k kind l r (t : Int) ins del rep sw unk kind unk = some R := by
  have hb : (colBase kind ins rep).length = ins.length := by
    unfold colBase
    split
    · exact hr (by omega)
    · simp
  intro d
  induction d with
  | zero =>
    intro t r ht hrl hi
    obtain ⟨k, hk0⟩ := hR
    obtain rfl : r = colBase kind ins rep := by
      apply List.ext_getElem?
      intro i
      by_cases hlt : i < t
      · exact hi i hlt
      · rw [List.getElem?_eq_none (by omega), List.getElem?_eq_none (by omega)]
    refine ⟨k + 2, ?_⟩
    simp only [emendateref35_column.l0, emendateref35_column.j1]
    rw [if_neg (by omega)]
    by_cases h0 : kind ≥ 0
    · have q2 : kind < (del.length : Int) := by omega
      simp only [if_pos h0, if_pos q2]
      simp only [colDel, if_pos h0] at hk0
      exact hk0
    · simp only [if_neg h0]
      simp only [colDel, if_neg h0] at hk0
      exact hk0
  | succ d ih =>
    intro t r ht hrl hi
    have q1 : (t : Int) < (r.length : Int) := by omega
    have q2 : 0 ≤ (t : Int) := by omega
    by_cases h0 : kind ≥ 0
    · obtain ⟨k, hk0⟩ := ih (t + 1) ((r.set t (-1)).set t ((rep.getD kind.toNat []).getD t 0)) (by omega) (by simp [hrl]) (by
        intro i hi'
        by_cases he : i = t
        · subst he
          rw [List.getElem?_set_self (by simp; omega)]
          simp only [colBase, if_pos h0]
          have := hr h0
          rw [List.getD_eq_getElem?_getD, List.getElem?_eq_getElem (by omega)]
          rfl
        · rw [List.getElem?_set_ne (by omega), List.getElem?_set_ne (by omega)]
          exact hi i (by omega))
      refine ⟨k + 1, ?_⟩
      have q3 : kind < (rep.length : Int) := by omega
      have q4 : (t : Int) < ((rep.getD kind.toNat []).length : Int) := by have := hr h0; omega
      simp only [emendateref35_column.l0, if_pos q1, if_pos q2, if_pos h0, if_pos q3, Option.bind_some, Int.toNat_natCast, w1 t (by omega), rd_nat, rd_L1, if_pos q4]
      exact hk0
    · obtain ⟨k, hk0⟩ := ih (t + 1) (r.set t (-1)) (by omega) (by simp [hrl]) (by
        intro i hi'
        by_cases he : i = t
        · subst he
          rw [List.getElem?_set_self (by omega)]
          simp only [colBase, if_neg h0]
          rw [List.getElem?_replicate_of_lt (by omega)]
        · rw [List.getElem?_set_ne (by omega)]
          exact hi i (by omega))
      refine ⟨k + 1, ?_⟩
      simp only [emendateref35_column.l0, if_pos q1, if_pos q2, if_neg h0, Option.bind_some, Int.toNat_natCast, w1 t (by omega)]
      exact hk0
theorem rc_ex (kind : Int) (l : List S53) (ins del : List Int) (rep : List (List Int)) (sw unk : Int) (hl : l.length ≤ 1000000) (hn : ins.length ≤ 60) (hp : rep.length = ins.length) (hd : del.length = ins.length)
    (hk : kind < ins.length) (hr : 0 ≤ kind → (rep.getD kind.toNat []).length = ins.length) (hc : ConfOK ins.length l) (hg : GeM (colBase kind ins rep)) :
    ∃ k, emendateref35_column.f k kind l ins del rep sw unk = some ((colT kind l ins del rep unk).f0, (colT kind l ins del rep unk).f1, (colT kind l ins del rep unk).f2) := by
  have hb : (colBase kind ins rep).length = ins.length := by
    unfold colBase
    split
    · exact hr (by omega)
    · simp
  have h1 := rc_l1 l hl kind (colDel kind del unk) l.length 0 (colBase kind ins rep) (by omega) (by rw [hb]; exact hc) hg
  rw [List.drop_zero, Int.natCast_zero] at h1
  obtain ⟨k, hk0⟩ := rc_l0 kind l ins del rep sw unk (by omega) hp hd hk hr _ h1 ins.length 0 (List.replicate ins.length 0) (by omega) (by simp) (by intro i hi; omega)
  refine ⟨k, ?_⟩
  unfold emendateref35_column.f
  rw [if_pos (by omega), if_pos (by rw [Int.toNat_natCast]; omega), Int.toNat_natCast]
  rw [Int.natCast_zero] at hk0
  rw [hk0]
  rfl
end Go.Proofs.Ytcigcacjjdpgfaa.PA
/- The reference's Column, columns and Valid answer vcB, all vcB and validB. Plain Lean. -/
namespace Go.Proofs.Ytcigcacjjdpgfaa.PA
open Go.RowKit Go.Proofs.YtcigcacjjdpgfaaW.PrintWords Go.Proofs.YtcigcacjjdpgfaaW.PrintLast Go.Proofs.YtcigcacjjdpgfaaW.PrintMore Go.Proofs.Ytcigcacjjdpgfaa.Hand
set_option linter.unusedVariables false
set_option linter.unusedSimpArgs false
theorem upO {α : Type} {g : Nat → Option α} (hg : ∀ k, LeO (g k) (g (k + 1))) {k m : Nat} (h : k ≤ m) {r : α} (hk : g k = some r) : g m = some r := by
  induction h with
  | refl => exact hk
  | step _ ih => exact hg _ _ ih
theorem rcol_l0 (kind del : Int) (l : List Int) (hl : l.length ≤ 1000000) : ∀ d t, t + d = l.length → ∃ k, emendateref35_Column.l0 k (l.length : Int) (t : Int) kind l del = some (rdOK kind (l.drop t) t) := by
  intro d
  induction d with
  | zero =>
    intro t ht
    refine ⟨1, ?_⟩
    simp only [emendateref35_Column.l0]
    rw [if_neg (by omega), List.drop_eq_nil_of_le (by omega)]
    rfl
  | succ d ih =>
    intro t ht
    obtain ⟨k, hk⟩ := ih (t + 1) (by omega)
    have hlt : t < l.length := by omega
    refine ⟨k + 1, ?_⟩
    have q1 : (t : Int) < (l.length : Int) := by omega
    have q2 : 0 ≤ (t : Int) := by omega
    rw [List.drop_eq_getElem_cons hlt, rdOK, show (t : Int) + 1 = ((t + 1 : Nat) : Int) by omega]
    simp only [emendateref35_Column.l0, if_pos q1, if_pos q2, getD_rd l t hlt, w1 t (by omega), hk]
    generalize l[t] = x
    by_cases h1 : (t : Int) = kind
    · by_cases h2 : x = 0 <;> simp [h1, h2]
    · by_cases h2 : x = -1
      · simp [h1, h2]
      · by_cases h3 : x < 1
        · simp [h1, h2, h3, largeB, show ¬ 1 ≤ x by omega]
        · by_cases h4 : x > 60000
          · simp [h1, h2, h3, h4, largeB, show ¬ x ≤ 60000 by omega]
          · simp [h1, h2, h3, h4, largeB, show 1 ≤ x by omega, show x ≤ 60000 by omega]
theorem rcol_ex (c : S51) (hl : c.f1.length ≤ 1000000) (terms : Int) : ∃ k, emendateref35_Column.f k c.f0 c.f1 c.f2 terms = some (vcB terms c) := by
  obtain ⟨kind, l, del⟩ := c
  simp only at hl ⊢
  obtain ⟨k, hk⟩ := rcol_l0 kind del l hl l.length 0 (by omega)
  rw [List.drop_zero, Int.natCast_zero] at hk
  refine ⟨k + 1, ?_⟩
  unfold emendateref35_Column.f
  simp only [emendateref35_Column.j0, vcB]
  by_cases h1 : kind < -1
  · simp [h1, show ¬ (-1 ≤ kind) by omega]
  · by_cases h2 : kind ≥ terms
    · simp [h1, h2, show ¬ (kind < terms) by omega]
    · by_cases h3 : (l.length : Int) = terms
      · subst h3
        by_cases h4 : del < 1
        · have e1 : largeB del = false := by simp [largeB, show ¬ 1 ≤ del by omega]
          have e2 : ¬ del = 1099511627776 := by omega
          simp [h1, h2, h4, e1, e2]
        · by_cases h5 : del > 60000
          · have e1 : largeB del = false := by simp [largeB, show ¬ del ≤ 60000 by omega]
            by_cases h6 : del = 1099511627776
            · subst h6
              simp [h1, h2, e1, hk, show -1 ≤ kind by omega, show kind < (l.length : Int) by omega]
            · simp [h1, h2, h4, h5, e1, h6]
          · have e1 : largeB del = true := by simp [largeB, show 1 ≤ del by omega, show del ≤ 60000 by omega]
            simp [h1, h2, h4, h5, e1, hk, show -1 ≤ kind by omega, show kind < (l.length : Int) by omega]
      · simp [h1, h2, h3]
theorem rcols_l0 (xs : List S51) (hx : xs.length ≤ 1000000) (hl : ∀ c ∈ xs, c.f1.length ≤ 1000000) (terms : Int) : ∀ d j, j + d = xs.length → ∃ k, emendateref35_columns.l0 k xs terms (j : Int) = some ((xs.drop j).all (vcB terms)) := by
  intro d
  induction d with
  | zero =>
    intro j hj
    refine ⟨1, ?_⟩
    simp only [emendateref35_columns.l0]
    rw [if_neg (by omega), List.drop_eq_nil_of_le (by omega)]
    rfl
  | succ d ih =>
    intro j hj
    obtain ⟨k1, hk1⟩ := ih (j + 1) (by omega)
    have hlt : j < xs.length := by omega
    obtain ⟨k2, hk2⟩ := rcol_ex xs[j] (hl _ (List.getElem_mem hlt)) terms
    have e : rd_T51 xs (j : Int) = xs[j] := by simp [rd_T51, hlt]
    have g1 := upO (g := fun k => emendateref35_columns.l0 k xs terms ((j + 1 : Nat) : Int)) (fun k => (emendateref35_columns.mono_l k) _ _ _) (Nat.le_max_left k1 k2) hk1
    have g2 := upO (g := fun k => emendateref35_Column.f k xs[j].f0 xs[j].f1 xs[j].f2 terms) (fun k => emendateref35_Column.mono _ _ _ _ k) (Nat.le_max_right k1 k2) hk2
    refine ⟨max k1 k2 + 1, ?_⟩
    have q1 : (j : Int) < (xs.length : Int) := by omega
    have q2 : 0 ≤ (j : Int) := by omega
    rw [List.drop_eq_getElem_cons hlt, List.all_cons]
    simp only [emendateref35_columns.l0, if_pos q1, if_pos q2, e, w1 j (by omega)]
    rw [g1, g2]
    cases vcB terms xs[j] <;> simp
theorem rcols_ex (xs : List S51) (hx : xs.length ≤ 1000000) (hl : ∀ c ∈ xs, c.f1.length ≤ 1000000) (terms : Int) : ∃ k, emendateref35_columns.f k xs terms = some (xs.all (vcB terms)) := by
  obtain ⟨k, hk⟩ := rcols_l0 xs hx hl terms xs.length 0 (by omega)
  rw [List.drop_zero, Int.natCast_zero] at hk
  exact ⟨k, hk⟩
theorem rval_l0 (xs : List S51) (ins : List Int) (sw : Int) (hn : ins.length ≤ 1000000) : ∀ d t, t + d = ins.length → ∃ k, emendateref35_Valid.l0 k (ins.length : Int) (t : Int) xs ins sw = some (!((ins.drop t).any fun n => !largeB n)) := by
  intro d
  induction d with
  | zero =>
    intro t ht
    refine ⟨1, ?_⟩
    simp only [emendateref35_Valid.l0]
    rw [if_neg (by omega), List.drop_eq_nil_of_le (by omega)]
    rfl
  | succ d ih =>
    intro t ht
    obtain ⟨k, hk⟩ := ih (t + 1) (by omega)
    have hlt : t < ins.length := by omega
    refine ⟨k + 1, ?_⟩
    have q1 : (t : Int) < (ins.length : Int) := by omega
    have q2 : 0 ≤ (t : Int) := by omega
    rw [List.drop_eq_getElem_cons hlt, List.any_cons]
    simp only [emendateref35_Valid.l0, if_pos q1, if_pos q2, getD_rd ins t hlt, w1 t (by omega), hk]
    generalize ins[t] = x
    by_cases h3 : x < 1
    · simp [h3, largeB, show ¬ 1 ≤ x by omega]
    · by_cases h4 : x > 60000
      · simp [h3, h4, largeB, show ¬ x ≤ 60000 by omega]
      · simp [h3, h4, largeB, show 1 ≤ x by omega, show x ≤ 60000 by omega]
theorem rval_ex (xs : List S51) (ins : List Int) (sw terms : Int) (hx : xs.length ≤ 1000000) (hl : ∀ c ∈ xs, c.f1.length ≤ 1000000) (hn : ins.length ≤ 1000000) : ∃ k, emendateref35_Valid.f k xs ins sw terms = some (validB xs ins sw terms) := by
  obtain ⟨k1, hk1⟩ := rval_l0 xs ins sw hn ins.length 0 (by omega)
  rw [List.drop_zero, Int.natCast_zero] at hk1
  obtain ⟨k2, hk2⟩ := rcols_ex xs hx hl terms
  have g1 := upO (g := fun k => emendateref35_Valid.l0 k (ins.length : Int) 0 xs ins sw) (fun k => (emendateref35_Valid.mono_l k).2 _ _ _ _ _) (Nat.le_max_left k1 k2) hk1
  have g2 := upO (g := fun k => emendateref35_columns.f k xs terms) (fun k => emendateref35_columns.mono _ _ k) (Nat.le_trans (Nat.le_max_right k1 k2) (Nat.le_succ _)) hk2
  refine ⟨max k1 k2 + 1, ?_⟩
  unfold emendateref35_Valid.f
  simp only [emendateref35_Valid.j0, validB]
  by_cases h1 : terms < 0
  · simp [h1, show ¬ 0 ≤ terms by omega]
  · by_cases h2 : (xs.length : Int) > 60
    · have : ¬ xs.length ≤ 60 := by omega
      simp [h1, h2, this]
    · by_cases h3 : (ins.length : Int) = terms
      · subst h3
        have e0 : xs.length ≤ 60 := by omega
        by_cases h4 : sw < 0
        · have e1 : largeB sw = false := by simp [largeB, show ¬ 1 ≤ sw by omega]
          have e2 : ¬ sw = 0 := by omega
          simp [h2, h4, e1, e2]
        · by_cases h5 : sw > 60000
          · have e1 : largeB sw = false := by simp [largeB, show ¬ sw ≤ 60000 by omega]
            have e2 : ¬ sw = 0 := by omega
            simp [h2, h4, h5, e1, e2]
          · have e1 : (decide (sw = 0) || largeB sw) = true := by
              by_cases e : sw = 0
              · simp [e]
              · simp [largeB, show 1 ≤ sw by omega, show sw ≤ 60000 by omega]
            rw [if_neg (by omega), if_neg h2, if_pos rfl, if_neg h4, if_neg h5, g2, Option.bind_some, e1, decide_eq_true (show 0 ≤ (ins.length : Int) by omega), decide_eq_true e0, decide_eq_true rfl]
            cases xs.all (vcB (ins.length : Int))
            · simp
            · simp only [Bool.not_true, Bool.false_eq_true, if_false, g1, Bool.true_and, Bool.and_true]
      · simp [h1, h2, h3]
end Go.Proofs.Ytcigcacjjdpgfaa.PA
/- The reference's same, SameColumns, Same and Few: their plain answers. Plain Lean. -/
namespace Go.Proofs.Ytcigcacjjdpgfaa.PA
open Go.RowKit Go.Proofs.YtcigcacjjdpgfaaW.PrintWords Go.Proofs.YtcigcacjjdpgfaaW.PrintLast Go.Proofs.YtcigcacjjdpgfaaW.PrintMore Go.Proofs.Ytcigcacjjdpgfaa.Hand
set_option linter.unusedVariables false
set_option linter.unusedSimpArgs false
theorem sameC_ex (a b : List S51) (hm : a.length ≤ 1000000) (hr : ∀ c ∈ a, c.f1.length ≤ 1000000) : ∃ k, emendateref35_SameColumns.f k a b = some (eqC a b) := ⟨0, if_pos ⟨hm, hr⟩⟩
theorem sameIn_ex (a : List S51) (i : List Int) (s : Int) (b : List S51) (j : List Int) (t : Int) (hm : a.length ≤ 1000000) (hr : ∀ c ∈ a, c.f1.length ≤ 1000000) (hi : i.length ≤ 1000000) :
    ∃ k, emendateref35_Same.f k a i s b j t = some (decide (s = t) && eqI i j && eqC a b) := by
  obtain ⟨k1, hk1⟩ := same_ex i j hi
  obtain ⟨k2, hk2⟩ := sameC_ex a b hm hr
  have g1 := upO (g := fun k => emendateref35_same.f k i j) (fun k => emendateref35_same.mono _ _ k) (Nat.le_max_left k1 k2) hk1
  have g2 := upO (g := fun k => emendateref35_SameColumns.f k a b) (fun k => emendateref35_SameColumns.mono _ _ k) (Nat.le_max_right k1 k2) hk2
  refine ⟨max k1 k2, ?_⟩
  unfold emendateref35_Same.f
  rw [g1, g2]
  by_cases e : s = t
  · cases h : eqI i j <;> simp [e]
  · simp [e]
def fewB (xs : List S51) (ins : List Int) (tokens terms : Int) : Bool := decide (¬ (xs.length : Int) > tokens) && decide (¬ (ins.length : Int) > terms) && xs.all (fun c => decide (¬ (c.f1.length : Int) > terms))
theorem few_l0 (xs : List S51) (ins : List Int) (sw terms : Int) (hm : xs.length ≤ 1000000) : ∀ d t, t + d = xs.length → ∃ k, emendateref35_Few.l0 k terms (t : Int) xs ins sw = some ((xs.drop t).all (fun c => decide (¬ (c.f1.length : Int) > terms))) := by
  intro d
  induction d with
  | zero =>
    intro t ht
    refine ⟨1, ?_⟩
    simp only [emendateref35_Few.l0]
    rw [if_neg (by omega), List.drop_eq_nil_of_le (by omega)]
    rfl
  | succ d ih =>
    intro t ht
    obtain ⟨k, hk⟩ := ih (t + 1) (by omega)
    have h1 : t < xs.length := by omega
    refine ⟨k + 1, ?_⟩
    have q1 : (t : Int) < (xs.length : Int) := by omega
    have q2 : 0 ≤ (t : Int) := by omega
    rw [List.drop_eq_getElem_cons h1, List.all_cons]
    simp only [emendateref35_Few.l0, if_pos q1, if_pos q2, rdT51_at xs t h1, w1 t (by omega), hk]
    by_cases e : (xs[t].f1.length : Int) > terms <;> simp [e]
theorem few_ex (xs : List S51) (ins : List Int) (sw tokens terms : Int) (hm : tokens ≤ 1000000) : ∃ k, emendateref35_Few.f k xs ins sw tokens terms = some (fewB xs ins tokens terms) := by
  by_cases h1 : (xs.length : Int) > tokens
  · refine ⟨1, ?_⟩
    unfold emendateref35_Few.f
    rw [if_pos h1]
    simp [emendateref35_Few.j0, fewB, h1]
  · obtain ⟨k, hk⟩ := few_l0 xs ins sw terms (by omega) xs.length 0 (by omega)
    rw [List.drop_zero, Int.natCast_zero] at hk
    refine ⟨k + 1, ?_⟩
    unfold emendateref35_Few.f
    rw [if_neg h1]
    simp only [emendateref35_Few.j0, fewB]
    by_cases h2 : (ins.length : Int) > terms
    · simp [h2]
    · rw [if_neg (by simpa using h2), hk]
      simp [h1, h2]
end Go.Proofs.Ytcigcacjjdpgfaa.PA
