import Derived.Test.YtkaedhooccpniaaPureM1
import Derived.Test.YtkaedhooccpniaaPAx15
import Derived.Test.YtkaedhooccpniaaPAx17
/- First, plain Lean: the reference's table. -/
namespace Go.Proofs.Ytkaedhooccpniaa.Hand
open Go.RowKit Go.Proofs.YtkaedhooccpniaaW.PrintWords Go.Proofs.YtkaedhooccpniaaW.PrintLast Go.Proofs.YtkaedhooccpniaaW.PrintMore Go.Proofs.Ytkaedhooccpniaa.PA
set_option linter.unusedVariables false
set_option linter.unusedSimpArgs false
/-- A flat table of which every true entry is allowed. -/
structure FlatQ (t n : Nat) (P : Nat → Nat → Prop) (s : List Bool) : Prop where
  len : s.length = n * t
  snd : ∀ i a, a < t → s.getD (i * t + a) false = true → P i a
theorem FlatQ.zero (t n : Nat) (P : Nat → Nat → Prop) : FlatQ t n P (List.replicate (n * t) false) := ⟨by simp, fun i a _ h => absurd h (rep_false _ _)⟩
theorem FlatQ.put {t n : Nat} {P : Nat → Nat → Prop} {s : List Bool} (h : FlatQ t n P s) {i a : Nat} (hi : i < n) (ha : a < t) (hp : P i a) : FlatQ t n P (s.set (i * t + a) true) := by
  refine ⟨by rw [List.length_set]; exact h.len, fun j b hb hq => ?_⟩
  rw [getD_set_b _ _ _ (by rw [h.len]; exact ix_lt hi ha), Bool.or_eq_true, decide_eq_true_eq] at hq
  rcases hq with e | e
  · obtain ⟨rfl, rfl⟩ := ix_inj ha hb e
    exact hp
  · exact h.snd j b hb e
/-- One entry more, where something has it and it is not there. -/
def putIf (t : Nat) (h : Nat) (has : List Bool → Nat → Bool) (x : List Bool × Bool) (a : Nat) : List Bool × Bool := if has x.1 a = true ∧ x.1.getD (h * t + a) false = false then (x.1.set (h * t + a) true, true) else x
theorem putIf_yes {t h : Nat} {has : List Bool → Nat → Bool} {x : List Bool × Bool} {a : Nat} (h1 : has x.1 a = true) (h2 : x.1.getD (h * t + a) false = false) : putIf t h has x a = (x.1.set (h * t + a) true, true) := if_pos ⟨h1, h2⟩
theorem putIf_no {t h : Nat} {has : List Bool → Nat → Bool} {x : List Bool × Bool} {a : Nat} (h1 : has x.1 a = false) : putIf t h has x a = x := if_neg (by simp [h1])
theorem putIf_old {t h : Nat} {has : List Bool → Nat → Bool} {x : List Bool × Bool} {a : Nat} (h2 : x.1.getD (h * t + a) false = true) : putIf t h has x a = x := if_neg (fun e => absurd (h2.symm.trans e.2) (by simp))
theorem putIf_adds {t n h : Nat} {P : Nat → Nat → Prop} {has : List Bool → Nat → Bool} (hh : h < n) {a : Nat} (ha : a < t) (hp : ∀ s, FlatQ t n P s → has s a = true → P h a) :
    Adds (FlatQ t n P) (fun s => s.count true) (putIf t h has) (fun s a => has s a = true → s.getD (h * t + a) false = true) a := by
  intro s b hs
  unfold putIf
  by_cases hc : has s a = true ∧ s.getD (h * t + a) false = false
  · rw [if_pos hc]
    refine ⟨hs.put hh ha (hp s hs hc.1), .inl ⟨rfl, ?_⟩⟩
    show s.count true < (s.set (h * t + a) true).count true
    rw [count_set (by rw [hs.len]; exact ix_lt hh ha) hc.2]
    omega
  · rw [if_neg hc]
    refine ⟨hs, .inr ⟨rfl, fun h1 => ?_⟩⟩
    cases hx : s.getD (h * t + a) false with
    | true => rfl
    | false => exact absurd ⟨h1, hx⟩ hc
theorem putIf_len {t h : Nat} {has : List Bool → Nat → Bool} (x : List Bool × Bool) (a : Nat) : (putIf t h has x a).1.length = x.1.length := by
  unfold putIf
  split
  · simp
  · rfl
theorem fold_len {ι : Type} {g : List Bool × Bool → ι → List Bool × Bool} (hg : ∀ x a, (g x a).1.length = x.1.length) : ∀ (l : List ι) x, (l.foldl g x).1.length = x.1.length
  | [], x => rfl
  | i :: l, x => by rw [List.foldl_cons, fold_len hg l, hg]
def hasF (t : Nat) (y : Int) (s : List Bool) (a : Nat) : Bool := decide (y = (a : Int)) || (decide (y < 0) && s.getD ((-1 - y).toNat * t + a) false)
def firstK (t : Nat) (null : List Bool) (r : S41) (x : List Bool × Bool) (k : Nat) : List Bool × Bool := if (r.f1.take k).all (nullSym null) = true then (List.range' 0 t).foldl (putIf t r.f0.toNat (hasF t (r.f1.getD k 0))) x else x
def firstR (t : Nat) (null : List Bool) (x : List Bool × Bool) (r : S41) : List Bool × Bool := (List.range' 0 r.f1.length).foldl (firstK t null r) x
theorem firstK_len {t : Nat} {null : List Bool} {r : S41} (x : List Bool × Bool) (k : Nat) : (firstK t null r x k).1.length = x.1.length := by
  unfold firstK
  split
  · exact fold_len putIf_len _ _
  · rfl
theorem firstR_len {t : Nat} {null : List Bool} (x : List Bool × Bool) (r : S41) : (firstR t null x r).1.length = x.1.length := fold_len firstK_len _ _
def FrP (null : List Bool) (rules : List S41) (i a : Nat) : Prop := Fst null rules i a
def FrD (t : Nat) (null : List Bool) (s : List Bool) (r : S41) : Prop := ∀ k ∈ List.range' 0 r.f1.length, (r.f1.take k).all (nullSym null) = true → ∀ a ∈ List.range' 0 t, hasF t (r.f1.getD k 0) s a = true → s.getD (r.f0.toNat * t + a) false = true
theorem firstR_adds {t n : Nat} {st : Int} {rules : List S41} {null : List Bool} (hg : GV t n st rules) {r : S41} (hr : r ∈ rules) : Adds (FlatQ t n (FrP null rules)) (fun s => s.count true) (firstR t null) (FrD t null) r := by
  have hh := hg.head r hr
  have hsy := hg.sym r hr
  have hA : ∀ k ∈ List.range' 0 r.f1.length, (r.f1.take k).all (nullSym null) = true → ∀ a ∈ List.range' 0 t, Adds (FlatQ t n (FrP null rules)) (fun s => s.count true) (putIf t r.f0.toNat (hasF t (r.f1.getD k 0))) (fun s a => hasF t (r.f1.getD k 0) s a = true → s.getD (r.f0.toNat * t + a) false = true) a := by
    intro k hk hn a ha
    have hk' : k < r.f1.length := by simpa using hk
    have ha' : a < t := by simpa using ha
    refine putIf_adds (by omega) ha' (fun s hs h => ?_)
    have hm := hsy _ (List.getElem_mem hk')
    rw [List.getD_eq_getElem?_getD, List.getElem?_eq_getElem hk'] at h
    simp only [Option.getD_some, hasF, Bool.or_eq_true, Bool.and_eq_true, decide_eq_true_eq] at h
    rw [FrP, Int.toNat_of_nonneg hh.1]
    rcases h with h | ⟨h1, h2⟩
    · exact .mk hr hk' hn (by omega) (fun _ => h) (fun h0 => by omega)
    · have := hs.snd _ _ ha' h2
      rw [FrP, Int.toNat_of_nonneg (by omega)] at this
      exact .mk hr hk' hn (by omega) (fun h0 => by omega) (fun _ => this)
  have hK : ∀ k ∈ List.range' 0 r.f1.length, Adds (FlatQ t n (FrP null rules)) (fun s => s.count true) (firstK t null r) (fun s k => (r.f1.take k).all (nullSym null) = true → ∀ a ∈ List.range' 0 t, hasF t (r.f1.getD k 0) s a = true → s.getD (r.f0.toNat * t + a) false = true) k := by
    intro k hk s b hs
    unfold firstK
    by_cases hn : (r.f1.take k).all (nullSym null) = true
    · rw [if_pos hn]
      obtain ⟨k1, k2⟩ := fold_adds (List.range' 0 t) (hA k hk hn) s b hs
      refine ⟨k1, ?_⟩
      rcases k2 with e | ⟨e1, e2⟩
      · exact .inl e
      · exact .inr ⟨e1, fun _ => e2⟩
    · rw [if_neg hn]
      exact ⟨hs, .inr ⟨rfl, fun h => absurd h hn⟩⟩
  intro s b hs
  exact fold_adds _ hK s b hs
theorem fold_skip {σ ι : Type} {g : σ → ι → σ} : ∀ (l : List ι) (x : σ), (∀ i ∈ l, ∀ x, g x i = x) → l.foldl g x = x
  | [], x, _ => rfl
  | i :: l, x, h => by rw [List.foldl_cons, h i (by simp), fold_skip l x (fun j hj => h j (by simp [hj]))]
theorem take_not_all {p : Int → Bool} {l : List Int} {u k : Nat} (h : ¬ (l.take u).all p = true) (hk : u ≤ k) : ¬ (l.take k).all p = true := by
  intro h2
  apply h
  rw [List.all_eq_true] at h2 ⊢
  intro x hx
  refine h2 x ?_
  rw [show l.take u = (l.take k).take u by rw [List.take_take, Nat.min_eq_left hk]] at hx
  exact List.mem_of_mem_take hx
/-- The reference's table. -/
structure RfL (t n : Nat) (null : List Bool) (rules : List S41) (s : List Bool) : Prop where
  len : s.length = n * t
  iff : ∀ i a, i < n → a < t → (s.getD (i * t + a) false = true ↔ Fst null rules i a)
theorem rfirst_pure {t n : Nat} {st : Int} {rules : List S41} {null : List Bool} (l0 l1 : List ByteArray) (hl0 : l0.length = t) (hl1 : l1.length = n) (hg : GV t n st rules) (hnull : null.length = n) (hN : Ev (fun k => emendateref21_Nullable.f k l0 l1 st rules) null) :
    ∃ s, Ev (fun k => emendateref21_first.f k l0 l1 st rules) s ∧ RfL t n null rules s := by
  have hlr := hg.rl
  have hn1 := hg.n1
  have ht1 := hg.t1
  have hl : ∀ s V, FlatQ t n (FrP null rules) s → Ev (fun k => emendateref21_first.l0 k (t : Int) null (rules.foldl (firstR t null) (s, false)).1 (rules.foldl (firstR t null) (s, false)).2 l0 l1 st rules) V → Ev (fun k => emendateref21_first.l0 k (t : Int) null s true l0 l1 st rules) V := by
    intro s V hs hV
    have rl : ∀ d i (x : List Bool × Bool), i + d = rules.length → x.1.length = n * t → Ev (fun k => emendateref21_first.l0 k (t : Int) null ((rules.drop i).foldl (firstR t null) x).1 ((rules.drop i).foldl (firstR t null) x).2 l0 l1 st rules) V → Ev (fun k => emendateref21_first.l1 k (t : Int) null x.1 x.2 (i : Int) l0 l1 st rules) V := by
      intro d
      induction d with
      | zero =>
        intro i x hi hx h
        refine Ev.succ ?_
        simp only [emendateref21_first.l1, if_neg (show ¬ (i : Int) < (rules.length : Int) by omega)]
        rw [List.drop_eq_nil_of_le (by omega)] at h
        exact h
      | succ d ih =>
        intro i x hi hx h
        have hlt : i < rules.length := by omega
        have hmem := List.getElem_mem hlt
        have hh := hg.head _ hmem
        have hb := hg.bl _ hmem
        have hsy := hg.sym _ hmem
        have g1 : (i : Int) < (rules.length : Int) := by omega
        have g2 : (0 : Int) ≤ (i : Int) := by omega
        rw [List.drop_eq_getElem_cons hlt, List.foldl_cons] at h
        have h' := ih (i + 1) (firstR t null x rules[i]) (by omega) (by rw [firstR_len]; exact hx) h
        have er := rd_T41_get rules i hlt
        generalize rules[i] = r at h' hh hb hsy er
        have kl : ∀ e u (x : List Bool × Bool), u + e = r.f1.length → x.1.length = n * t → Ev (fun k => emendateref21_first.l1 k (t : Int) null ((List.range' u e).foldl (firstK t null r) x).1 ((List.range' u e).foldl (firstK t null r) x).2 ((i + 1 : Nat) : Int) l0 l1 st rules) V → Ev (fun k => emendateref21_first.l2 k (t : Int) null x.1 x.2 (i : Int) (u : Int) l0 l1 st rules r.f0 r.f1 r.f2) V := by
          intro e
          induction e with
          | zero =>
            intro u x hu hx h
            refine Ev.succ (Ev.succ ?_)
            simp only [emendateref21_first.l2, if_neg (show ¬ (u : Int) < (r.f1.length : Int) by omega), emendateref21_first.j3, if_neg (show ¬ false = true by simp), w1 i (by omega)]
            exact h
          | succ e ihe =>
            intro u x hu hx h
            have hul : u < r.f1.length := by omega
            have q1 : (u : Int) < (r.f1.length : Int) := by omega
            have q2 : (0 : Int) ≤ (u : Int) := by omega
            have q3 : (u : Int) ≤ (r.f1.length : Int) := by omega
            have hall := all_pure (tm := false) hnull hn1 (l := r.f1.take u) (by rw [List.length_take]; omega) (fun y hy => by have := hsy y (List.mem_of_mem_take hy); omega)
            rw [okSym_false] at hall
            rw [List.range'_succ, List.foldl_cons] at h
            refine Ev.succ ?_
            simp only [emendateref21_first.l2, if_pos q1, if_pos q2, if_pos q3, Int.toNat_natCast]
            refine Ev.bind hall ?_
            by_cases hn : (r.f1.take u).all (nullSym null) = true
            · rw [hn]
              refine Ev.succ ?_
              simp only [emendateref21_first.j3, if_true]
              rw [firstK, if_pos hn] at h
              have al : ∀ f v (x : List Bool × Bool), v + f = t → x.1.length = n * t → Ev (fun k => emendateref21_first.l2 k (t : Int) null ((List.range' v f).foldl (putIf t r.f0.toNat (hasF t (r.f1.getD u 0))) x).1 ((List.range' v f).foldl (putIf t r.f0.toNat (hasF t (r.f1.getD u 0))) x).2 (i : Int) ((u + 1 : Nat) : Int) l0 l1 st rules r.f0 r.f1 r.f2) V → Ev (fun k => emendateref21_first.l3 k (t : Int) null x.1 x.2 (i : Int) (u : Int) (v : Int) l0 l1 st rules r.f0 r.f1 r.f2) V := by
                intro f
                induction f with
                | zero =>
                  intro v x hv hx h
                  refine Ev.succ ?_
                  simp only [emendateref21_first.l3, if_neg (show ¬ (v : Int) < (t : Int) by omega), w1 u (by omega)]
                  exact h
                | succ f ihf =>
                  intro v x hv hx h
                  rw [List.range'_succ, List.foldl_cons] at h
                  have h2 := ihf (v + 1) (putIf t r.f0.toNat (hasF t (r.f1.getD u 0)) x v) (by omega) (by rw [putIf_len]; exact hx) h
                  refine Ev.succ ?_
                  have hvt : v < t := by omega
                  have hm := hsy _ (List.getElem_mem hul)
                  have i1 := ix_w (t := t) (a := v) hh.1 (by omega) (by omega) (by omega)
                  have b1 := ix_lt (t := t) (n := n) (i := r.f0.toNat) (a := v) (by omega) hvt
                  have e1 : r.f1.getD u 0 = r.f1[u] := by rw [List.getD_eq_getElem?_getD, List.getElem?_eq_getElem hul]; rfl
                  have rdE : ∀ (j : Nat), rdOf false x.1 (j : Int) = x.1.getD j false := fun j => by rw [rdOf, Int.toNat_natCast]
                  simp only [emendateref21_first.l3, if_pos (show (v : Int) < (t : Int) by omega), if_pos q1, if_pos q2, getD_rd _ u hul, i1, if_pos (show (0 : Int) ≤ ((r.f0.toNat * t + v : Nat) : Int) by omega), if_pos (show ((r.f0.toNat * t + v : Nat) : Int) < (x.1.length : Int) by rw [hx]; exact Int.ofNat_lt.2 b1), w1 v (by omega), Int.toNat_natCast, rdE]
                  rw [e1] at h2
                  by_cases hy : r.f1[u] = (v : Int)
                  · have hh1 : hasF t r.f1[u] x.1 v = true := by rw [hasF, decide_eq_true hy]; rfl
                    simp only [if_pos hy]
                    cases hc : x.1.getD (r.f0.toNat * t + v) false
                    · simp only [if_neg (show ¬ false = true by simp)]
                      rw [putIf_yes hh1 hc] at h2
                      exact h2
                    · simp only [if_true]
                      rw [putIf_old hc] at h2
                      exact h2
                  · simp only [if_neg hy]
                    by_cases h0 : r.f1[u] < 0
                    · have hw : wrap64 (-1 - r.f1[u]) = -1 - r.f1[u] := by unfold wrap64; omega
                      have i2 := ix_w (t := t) (a := v) (h := -1 - r.f1[u]) (by omega) (by omega) (by omega) (by omega)
                      have b2 := ix_lt (t := t) (n := n) (i := (-1 - r.f1[u]).toNat) (a := v) (by omega) hvt
                      have hh1 : hasF t r.f1[u] x.1 v = x.1.getD ((-1 - r.f1[u]).toNat * t + v) false := by rw [hasF, decide_eq_false hy, decide_eq_true h0]; simp
                      simp only [if_pos h0, hw, i2, if_pos (show (0 : Int) ≤ (((-1 - r.f1[u]).toNat * t + v : Nat) : Int) by omega), if_pos (show (((-1 - r.f1[u]).toNat * t + v : Nat) : Int) < (x.1.length : Int) by rw [hx]; exact Int.ofNat_lt.2 b2), rdE]
                      cases hd : x.1.getD ((-1 - r.f1[u]).toNat * t + v) false
                      · simp only [if_neg (show ¬ false = true by simp)]
                        rw [putIf_no (hh1.trans hd)] at h2
                        exact h2
                      · simp only [if_true]
                        cases hc : x.1.getD (r.f0.toNat * t + v) false
                        · simp only [if_neg (show ¬ false = true by simp)]
                          rw [putIf_yes (hh1.trans hd) hc] at h2
                          exact h2
                        · simp only [if_true]
                          rw [putIf_old hc] at h2
                          exact h2
                    · simp only [if_neg h0]
                      rw [putIf_no (by rw [hasF, decide_eq_false hy, decide_eq_false h0]; rfl)] at h2
                      exact h2
              have hx2 : ((List.range' 0 t).foldl (putIf t r.f0.toNat (hasF t (r.f1.getD u 0))) x).1.length = n * t := by rw [fold_len putIf_len]; exact hx
              exact al t 0 x (by omega) hx (ihe (u + 1) _ (by omega) hx2 h)
            · have hn' : (r.f1.take u).all (nullSym null) = false := by
                cases hq : (r.f1.take u).all (nullSym null) with
                | true => exact absurd hq hn
                | false => rfl
              rw [hn']
              refine Ev.succ ?_
              simp only [emendateref21_first.j3, if_neg (show ¬ false = true by simp), w1 i (by omega)]
              rw [firstK, if_neg hn, fold_skip _ _ (fun k hk y => by
                rw [firstK, if_neg (take_not_all hn (by have := List.mem_range'_1.1 hk; omega))])] at h
              exact h
        refine Ev.succ ?_
        simp only [emendateref21_first.l1, if_pos g1, if_pos g2, er]
        exact kl r.f1.length 0 x (by omega) hx h'
    refine Ev.succ ?_
    simp only [emendateref21_first.l0, if_true]
    exact rl rules.length 0 (s, false) (by omega) hs.len (by rw [List.drop_zero]; exact hV)
  obtain ⟨s, k1, k2, k3⟩ := passes (ι := S41) (l := rules) (g := firstR t null) (D := FrD t null) (Q := FlatQ t n (FrP null rules)) (μ := fun s => s.count true) (M := n * t) (L0 := fun k s b => emendateref21_first.l0 k (t : Int) null s b l0 l1 st rules) (fun r hr => firstR_adds hg hr) (fun s hs => hs.len ▸ List.count_le_length) hl _ _ (FlatQ.zero t n _) (Nat.le_refl _)
  refine ⟨s, ?_, k1.len, fun i a hi ha => ⟨k1.snd i a ha, fun h => ?_⟩⟩
  · have hmul := Nat.mul_le_mul (show n ≤ 1000 from hn1) (show t ≤ 1000 from ht1)
    have hw : wrap64 ((l1.length : Int) * (l0.length : Int)) = ((n * t : Nat) : Int) := by
      rw [hl0, hl1, ← Int.natCast_mul]
      unfold wrap64
      omega
    refine Ev.bind hN ?_
    simp only [hw, if_pos (show (0 : Int) ≤ ((n * t : Nat) : Int) by omega), Int.toNat_natCast, if_pos (show n * t ≤ 281474976710656 by omega)]
    rw [hl0]
    refine k3 s (Ev.succ ?_)
    simp only [emendateref21_first.l0, if_neg (show ¬ false = true by simp)]
    exact Ev.const s
  · have key : ∀ A b, Fst null rules A b → b < t → s.getD (A.toNat * t + b.toNat) false = true := by
      intro A b hF
      induction hF with
      | @mk r k b hr hk hn h0 ht hs ih =>
        intro hbt
        refine k2 r hr k (by simpa using hk) hn b.toNat (by simp; omega) ?_
        rw [List.getD_eq_getElem?_getD, List.getElem?_eq_getElem hk]
        simp only [Option.getD_some, hasF, Bool.or_eq_true, Bool.and_eq_true, decide_eq_true_eq]
        by_cases hy : 0 ≤ r.f1[k]
        · exact .inl (by rw [ht hy]; omega)
        · exact .inr ⟨by omega, ih (by omega) hbt⟩
    have := key _ _ h (by omega)
    simpa using this
end Go.Proofs.Ytkaedhooccpniaa.Hand
/- Follow, plain Lean: the reference's table. -/
namespace Go.Proofs.Ytkaedhooccpniaa.Hand
open Go.RowKit Go.Proofs.YtkaedhooccpniaaW.PrintWords Go.Proofs.YtkaedhooccpniaaW.PrintLast Go.Proofs.YtkaedhooccpniaaW.PrintMore Go.Proofs.Ytkaedhooccpniaa.PA
set_option linter.unusedVariables false
set_option linter.unusedSimpArgs false
/-- Position j of a body brings column v. -/
def bringsJ (t : Nat) (null fl : List Bool) (b : List Int) (u v : Nat) (j : Nat) : Bool := ((b.take j).drop (u + 1)).all (nullSym null) && (decide (b.getD j 0 = (v : Int) - 1) || (decide (b.getD j 0 < 0) && fl.getD ((-1 - b.getD j 0).toNat * t + (v - 1)) false))
def brings (t : Nat) (null fl : List Bool) (b : List Int) (u v j d : Nat) : Bool := decide (0 < v) && (List.range' j d).any (bringsJ t null fl b u v)
def hasG (t : Nat) (null fl : List Bool) (r : S41) (u : Nat) (s : List Bool) (v : Nat) : Bool := ((r.f1.drop (u + 1)).all (nullSym null) && s.getD (r.f0.toNat * (t + 1) + v) false) || brings t null fl r.f1 u v (u + 1) (r.f1.length - (u + 1))
def folK (t : Nat) (null fl : List Bool) (r : S41) (x : List Bool × Bool) (k : Nat) : List Bool × Bool := if r.f1.getD k 0 < 0 then (List.range' 0 (t + 1)).foldl (putIf (t + 1) (-1 - r.f1.getD k 0).toNat (hasG t null fl r k)) x else x
def folR (t : Nat) (null fl : List Bool) (x : List Bool × Bool) (r : S41) : List Bool × Bool := (List.range' 0 r.f1.length).foldl (folK t null fl r) x
theorem folK_len {t : Nat} {null fl : List Bool} {r : S41} (x : List Bool × Bool) (k : Nat) : (folK t null fl r x k).1.length = x.1.length := by
  unfold folK
  split
  · exact fold_len putIf_len _ _
  · rfl
theorem folR_len {t : Nat} {null fl : List Bool} (x : List Bool × Bool) (r : S41) : (folR t null fl x r).1.length = x.1.length := fold_len folK_len _ _
/-- What stands behind position u begins with column v. -/
def BegAt (null : List Bool) (rules : List S41) (b : List Int) (u : Nat) (a : Int) : Prop := ∃ k, ∃ hk : k < (b.drop (u + 1)).length, ((b.drop (u + 1)).take k).all (nullSym null) = true ∧ 0 ≤ a ∧ (0 ≤ (b.drop (u + 1))[k] → (b.drop (u + 1))[k] = a) ∧ ((b.drop (u + 1))[k] < 0 → Fst null rules (-1 - (b.drop (u + 1))[k]) a)
theorem brings_iff {t n : Nat} {st : Int} {rules : List S41} {null fl : List Bool} (hg : GV t n st rules) (hf : RfL t n null rules fl) {r : S41} (hr : r ∈ rules) (u v : Nat) (hv : v < t + 1) :
    brings t null fl r.f1 u v (u + 1) (r.f1.length - (u + 1)) = true ↔ BegAt null rules r.f1 u ((v : Int) - 1) := by
  have hsy := hg.sym r hr
  unfold brings
  rw [Bool.and_eq_true, decide_eq_true_eq, List.any_eq_true]
  constructor
  · rintro ⟨h0, j, hj, hb⟩
    obtain ⟨j1, j2⟩ := List.mem_range'_1.1 hj
    have hjl : j < r.f1.length := by omega
    have hm := hsy _ (List.getElem_mem hjl)
    simp only [bringsJ, Bool.and_eq_true, Bool.or_eq_true, decide_eq_true_eq, getD_at _ j hjl] at hb
    obtain ⟨hb1, hb2⟩ := hb
    refine ⟨j - (u + 1), by rw [List.length_drop]; omega, ?_, by omega, ?_, ?_⟩
    · rw [List.take_drop, show u + 1 + (j - (u + 1)) = j by omega]
      exact hb1
    · rw [List.getElem_drop]
      simp only [show u + 1 + (j - (u + 1)) = j by omega]
      intro h1
      rcases hb2 with e | ⟨e, _⟩
      · exact e
      · omega
    · rw [List.getElem_drop]
      simp only [show u + 1 + (j - (u + 1)) = j by omega]
      intro h1
      rcases hb2 with e | ⟨_, e⟩
      · omega
      · have := (hf.iff _ _ (by omega) (by omega)).1 e
        rwa [Int.toNat_of_nonneg (by omega), show ((v - 1 : Nat) : Int) = (v : Int) - 1 by omega] at this
  · rintro ⟨k, hk, hn, h0, h1, h2⟩
    rw [List.length_drop] at hk
    rw [List.getElem_drop] at h1 h2
    have hjl : u + 1 + k < r.f1.length := by omega
    have hm := hsy _ (List.getElem_mem hjl)
    refine ⟨by omega, u + 1 + k, List.mem_range'_1.2 ⟨by omega, by omega⟩, ?_⟩
    simp only [bringsJ, Bool.and_eq_true, Bool.or_eq_true, decide_eq_true_eq, getD_at _ _ hjl]
    refine ⟨by rw [← List.take_drop]; exact hn, ?_⟩
    by_cases hy : 0 ≤ r.f1[u + 1 + k]
    · exact .inl (h1 hy)
    · refine .inr ⟨by omega, (hf.iff _ _ (by omega) (by omega)).2 ?_⟩
      rw [Int.toNat_of_nonneg (by omega), show ((v - 1 : Nat) : Int) = (v : Int) - 1 by omega]
      exact h2 (by omega)
def FrD2 (t : Nat) (null fl : List Bool) (s : List Bool) (r : S41) : Prop := ∀ k ∈ List.range' 0 r.f1.length, r.f1.getD k 0 < 0 → ∀ a ∈ List.range' 0 (t + 1), hasG t null fl r k s a = true → s.getD ((-1 - r.f1.getD k 0).toNat * (t + 1) + a) false = true
def RFolQ (t n : Nat) (null : List Bool) (st : Int) (rules : List S41) (s : List Bool) : Prop := FlatQ (t + 1) n (FolP null st rules) s
theorem folR_adds {t n : Nat} {st : Int} {rules : List S41} {null fl : List Bool} (hg : GV t n st rules) (hf : RfL t n null rules fl) {r : S41} (hr : r ∈ rules) : Adds (FlatQ (t + 1) n (FolP null st rules)) (fun s => s.count true) (folR t null fl) (FrD2 t null fl) r := by
  have hh := hg.head r hr
  have hsy := hg.sym r hr
  have hA : ∀ k ∈ List.range' 0 r.f1.length, r.f1.getD k 0 < 0 → ∀ a ∈ List.range' 0 (t + 1), Adds (FlatQ (t + 1) n (FolP null st rules)) (fun s => s.count true) (putIf (t + 1) (-1 - r.f1.getD k 0).toNat (hasG t null fl r k)) (fun s a => hasG t null fl r k s a = true → s.getD ((-1 - r.f1.getD k 0).toNat * (t + 1) + a) false = true) a := by
    intro k hk h0 a ha
    have hk' : k < r.f1.length := by simpa using hk
    have ha' : a < t + 1 := by have := List.mem_range'_1.1 ha; omega
    have hm := hsy _ (List.getElem_mem hk')
    rw [getD_at _ _ hk'] at h0 ⊢
    refine putIf_adds (by omega) ha' (fun s hs h => ?_)
    rw [FolP, Int.toNat_of_nonneg (by omega)]
    simp only [hasG, Bool.or_eq_true, Bool.and_eq_true] at h
    rcases h with ⟨h1, h2⟩ | h
    · have := hs.snd _ _ ha' h2
      rw [FolP, Int.toNat_of_nonneg hh.1] at this
      exact .fol hr hk' h0 h1 this
    · obtain ⟨j, hj, p1, p2, p3, p4⟩ := (brings_iff hg hf hr k a ha').1 h
      exact .beg hr hk' h0 hj p1 p2 p3 p4
  have hK : ∀ k ∈ List.range' 0 r.f1.length, Adds (FlatQ (t + 1) n (FolP null st rules)) (fun s => s.count true) (folK t null fl r) (fun s k => r.f1.getD k 0 < 0 → ∀ a ∈ List.range' 0 (t + 1), hasG t null fl r k s a = true → s.getD ((-1 - r.f1.getD k 0).toNat * (t + 1) + a) false = true) k := by
    intro k hk s b hs
    unfold folK
    by_cases hn : r.f1.getD k 0 < 0
    · rw [if_pos hn]
      obtain ⟨k1, k2⟩ := fold_adds (List.range' 0 (t + 1)) (hA k hk hn) s b hs
      refine ⟨k1, ?_⟩
      rcases k2 with e | ⟨e1, e2⟩
      · exact .inl e
      · exact .inr ⟨e1, fun _ => e2⟩
    · rw [if_neg hn]
      exact ⟨hs, .inr ⟨rfl, fun h => absurd h hn⟩⟩
  intro s b hs
  exact fold_adds _ hK s b hs
theorem bringsJ_none {t : Nat} {null fl : List Bool} {b : List Int} {u v j : Nat} (h : ¬ ((b.take j).drop (u + 1)).all (nullSym null) = true) {i : Nat} (hi : j ≤ i) : bringsJ t null fl b u v i = false := by
  unfold bringsJ
  have : ((b.take i).drop (u + 1)).all (nullSym null) = false := by
    cases hq : ((b.take i).drop (u + 1)).all (nullSym null) with
    | false => rfl
    | true =>
      exfalso
      apply h
      rw [List.all_eq_true] at hq ⊢
      intro x hx
      refine hq x ?_
      rw [show b.take j = (b.take i).take j by rw [List.take_take, Nat.min_eq_left hi], List.drop_take] at hx
      exact List.mem_of_mem_take hx
  rw [this, Bool.false_and]
/-- The end of one column: put it in or not. -/
def resOf (s : List Bool) (b : Bool) (ix : Nat) (has : Bool) : List Bool × Bool := if has = true ∧ s.getD ix false = false then (s.set ix true, true) else (s, b)
set_option maxHeartbeats 4000000 in
theorem l4_pure {t n : Nat} {st : Int} {rules : List S41} {null fl : List Bool} (l0 l1 : List ByteArray) (hg : GV t n st rules) (hnull : null.length = n) (hfl : fl.length = n * t) {r : S41} (hr : r ∈ rules) (V : List (List Int)) (s : List Bool) (ch : Bool) (hs : s.length = n * (t + 1)) (i u v : Nat) (hi : i ≤ 1000) (hv : v < t + 1) (hu : u < r.f1.length) (hx : r.f1[u] < 0) :
    ∀ d j (x : Bool), j + d = r.f1.length → u + 1 ≤ j → Ev (fun k => emendateref21_Follow.l3 k (t : Int) ((t + 1 : Nat) : Int) null fl (resOf s ch ((-1 - r.f1[u]).toNat * (t + 1) + v) (x || brings t null fl r.f1 u v j d)).1 (resOf s ch ((-1 - r.f1[u]).toNat * (t + 1) + v) (x || brings t null fl r.f1 u v j d)).2 (i : Int) (u : Int) (-1 - r.f1[u]) ((v + 1 : Nat) : Int) l0 l1 st rules r.f0 r.f1 r.f2) V →
      Ev (fun k => emendateref21_Follow.l4 k (t : Int) ((t + 1 : Nat) : Int) null fl s ch (i : Int) (u : Int) (-1 - r.f1[u]) (v : Int) x (j : Int) l0 l1 st rules r.f0 r.f1 r.f2) V := by
  have hh := hg.head r hr
  have hsy := hg.sym r hr
  have hb := hg.bl r hr
  have hn1 := hg.n1
  have ht1 := hg.t1
  have hm := hsy _ (List.getElem_mem hu)
  have i1 := ix_w (t := t + 1) (a := v) (h := -1 - r.f1[u]) (by omega) (by omega) (by omega) (by omega)
  have b1 := ix_lt (t := t + 1) (n := n) (i := (-1 - r.f1[u]).toNat) (a := v) (by omega) hv
  have rdE : ∀ (s : List Bool) (j : Nat), rdOf false s (j : Int) = s.getD j false := fun s j => by rw [rdOf, Int.toNat_natCast]
  generalize hix : (-1 - r.f1[u]).toNat * (t + 1) + v = ix at i1 b1
  have I1 := Aside0.mk i1
  have B1 := Aside0.mk b1
  clear i1 b1 hix
  -- the end of the loop
  have fin : ∀ x : Bool, Ev (fun k => emendateref21_Follow.l3 k (t : Int) ((t + 1 : Nat) : Int) null fl (resOf s ch ix x).1 (resOf s ch ix x).2 (i : Int) (u : Int) (-1 - r.f1[u]) ((v + 1 : Nat) : Int) l0 l1 st rules r.f0 r.f1 r.f2) V →
      Ev (fun k => if x = true then (if 0 ≤ (wrap64 ((wrap64 ((-1 - r.f1[u]) * ((t + 1 : Nat) : Int))) + (v : Int))) then (if (wrap64 ((wrap64 ((-1 - r.f1[u]) * ((t + 1 : Nat) : Int))) + (v : Int))) < (s.length : Int) then (if (rdOf false s (wrap64 ((wrap64 ((-1 - r.f1[u]) * ((t + 1 : Nat) : Int))) + (v : Int))) = true) then (emendateref21_Follow.l3 k (t : Int) ((t + 1 : Nat) : Int) null fl s ch (i : Int) (u : Int) (-1 - r.f1[u]) (wrap64 ((v : Int) + 1)) l0 l1 st rules r.f0 r.f1 r.f2) else (emendateref21_Follow.l3 k (t : Int) ((t + 1 : Nat) : Int) null fl (s.set ((wrap64 ((wrap64 ((-1 - r.f1[u]) * ((t + 1 : Nat) : Int))) + (v : Int))) : Int).toNat true) true (i : Int) (u : Int) (-1 - r.f1[u]) (wrap64 ((v : Int) + 1)) l0 l1 st rules r.f0 r.f1 r.f2)) else (none)) else (none)) else (emendateref21_Follow.l3 k (t : Int) ((t + 1 : Nat) : Int) null fl s ch (i : Int) (u : Int) (-1 - r.f1[u]) (wrap64 ((v : Int) + 1)) l0 l1 st rules r.f0 r.f1 r.f2)) V := by
    intro x h
    cases x
    · simp only [if_neg (show ¬ false = true by simp), w1 v (by omega)]
      rw [resOf, if_neg (by simp)] at h
      exact h
    · simp only [if_true, I1.out, if_pos (show (0 : Int) ≤ (ix : Int) by omega), if_pos (show (ix : Int) < (s.length : Int) by rw [hs]; exact Int.ofNat_lt.2 B1.out), rdE, w1 v (by omega), Int.toNat_natCast]
      cases hc : s.getD ix false
      · simp only [if_neg (show ¬ false = true by simp)]
        rw [resOf, if_pos ⟨rfl, hc⟩] at h
        exact h
      · simp only [if_true]
        rw [resOf, if_neg (by rw [hc]; simp)] at h
        exact h
  have end0 : ∀ j (x : Bool), Ev (fun k => emendateref21_Follow.l3 k (t : Int) ((t + 1 : Nat) : Int) null fl (resOf s ch ix (x || brings t null fl r.f1 u v j 0)).1 (resOf s ch ix (x || brings t null fl r.f1 u v j 0)).2 (i : Int) (u : Int) (-1 - r.f1[u]) ((v + 1 : Nat) : Int) l0 l1 st rules r.f0 r.f1 r.f2) V → _ := fun j x h => by
    rw [show brings t null fl r.f1 u v j 0 = false by simp [brings], Bool.or_false] at h
    exact fin x h
  intro d
  induction d with
  | zero =>
    intro j x hj hju h
    refine Ev.succ ?_
    simp only [emendateref21_Follow.l4, if_neg (show ¬ (j : Int) < (r.f1.length : Int) by omega)]
    exact end0 j x h
  | succ d ih =>
    intro j x hj hju h
    have hjl : j < r.f1.length := by omega
    refine Ev.succ ?_
    simp only [emendateref21_Follow.l4, if_pos (show (j : Int) < (r.f1.length : Int) by omega)]
    by_cases hv0 : (v : Int) > 0
    · have g1 : (0 : Int) ≤ ((u + 1 : Nat) : Int) := by omega
      have g2 : ((u + 1 : Nat) : Int) ≤ (j : Int) := by omega
      have g3 : (j : Int) ≤ (r.f1.length : Int) := by omega
      have hall := all_pure (tm := false) hnull hn1 (l := (r.f1.take j).drop (u + 1)) (by rw [List.length_drop, List.length_take]; omega) (fun y hy => by have := hsy y (List.mem_of_mem_take (List.mem_of_mem_drop hy)); omega)
      rw [okSym_false] at hall
      simp only [if_pos hv0, w1 u (by omega), if_pos g1, if_pos g2, if_pos g3, Int.toNat_natCast]
      refine Ev.bind hall ?_
      have hbr : brings t null fl r.f1 u v j (d + 1) = (bringsJ t null fl r.f1 u v j || brings t null fl r.f1 u v (j + 1) d) := by
        unfold brings
        rw [List.range'_succ, List.any_cons, show decide (0 < v) = true by simp; omega]
        rfl
      rw [hbr, ← Bool.or_assoc] at h
      by_cases hn : ((r.f1.take j).drop (u + 1)).all (nullSym null) = true
      · rw [hn]
        simp only [if_true]
        cases x
        · have hm2 := hsy _ (List.getElem_mem hjl)
          simp only [if_neg (show ¬ false = true by simp), if_pos (show (0 : Int) ≤ (j : Int) by omega), getD_rd _ j hjl]
          have hw2 : wrap64 ((v : Int) - 1) = (v : Int) - 1 := by unfold wrap64; omega
          simp only [hw2]
          rw [Bool.false_or] at h
          by_cases hy : r.f1[j] = (v : Int) - 1
          · simp only [if_pos hy, w1 j (by omega)]
            have e : bringsJ t null fl r.f1 u v j = true := by
              simp only [bringsJ, hn, getD_at _ _ hjl, decide_eq_true hy, Bool.true_or, Bool.and_self]
            rw [e] at h
            exact ih (j + 1) true (by omega) (by omega) h
          · simp only [if_neg hy]
            by_cases h0 : r.f1[j] < 0
            · have hw3 : wrap64 (-1 - r.f1[j]) = -1 - r.f1[j] := by unfold wrap64; omega
              have i2 := ix_w (t := t) (a := v) (h := -1 - r.f1[j]) (by omega) (by omega) (by omega) (by omega)
              have b2 := ix_lt (t := t) (n := n) (i := (-1 - r.f1[j]).toNat) (a := v - 1) (by omega) (by omega)
              have i3 : wrap64 ((((-1 - r.f1[j]).toNat * t + v : Nat) : Int) - 1) = (((-1 - r.f1[j]).toNat * t + (v - 1) : Nat) : Int) := by
                have := Nat.mul_le_mul (show (-1 - r.f1[j]).toNat ≤ 1000 by omega) (show t ≤ 1000 from ht1)
                unfold wrap64
                omega
              have e : bringsJ t null fl r.f1 u v j = fl.getD ((-1 - r.f1[j]).toNat * t + (v - 1)) false := by
                simp only [bringsJ, hn, getD_at _ _ hjl, decide_eq_false hy, decide_eq_true h0, Bool.true_and, Bool.false_or]
              simp only [if_pos h0, hw3, i2, i3, if_pos (show (0 : Int) ≤ (((-1 - r.f1[j]).toNat * t + (v - 1) : Nat) : Int) by omega), if_pos (show (((-1 - r.f1[j]).toNat * t + (v - 1) : Nat) : Int) < (fl.length : Int) by rw [hfl]; exact Int.ofNat_lt.2 b2), rdE, w1 j (by omega)]
              rw [e] at h
              exact ih (j + 1) _ (by omega) (by omega) h
            · have e : bringsJ t null fl r.f1 u v j = false := by
                simp only [bringsJ, hn, getD_at _ _ hjl, decide_eq_false hy, decide_eq_false h0, Bool.true_and, Bool.false_or, Bool.false_and]
              simp only [if_neg h0, w1 j (by omega)]
              rw [e] at h
              exact ih (j + 1) false (by omega) (by omega) h
        · simp only [if_true, w1 j (by omega)]
          rw [Bool.true_or] at h
          exact ih (j + 1) true (by omega) (by omega) h
      · have hn' : ((r.f1.take j).drop (u + 1)).all (nullSym null) = false := by
          cases hq : ((r.f1.take j).drop (u + 1)).all (nullSym null) with
          | true => exact absurd hq hn
          | false => rfl
        rw [hn']
        simp only [if_neg (show ¬ false = true by simp)]
        rw [bringsJ_none hn (Nat.le_refl _), Bool.or_false, show brings t null fl r.f1 u v (j + 1) d = false by
          unfold brings
          rw [List.any_eq_false.2 (fun k hk => by rw [bringsJ_none hn (by have := List.mem_range'_1.1 hk; omega)]; simp), Bool.and_false], Bool.or_false] at h
        exact fin x h
    · simp only [if_neg hv0]
      rw [show brings t null fl r.f1 u v j (d + 1) = false by unfold brings; rw [show decide (0 < v) = false by simp; omega]; rfl, Bool.or_false] at h
      exact fin x h
end Go.Proofs.Ytkaedhooccpniaa.Hand
/- Follow, plain Lean: the reference's table, its passes; the lists of the sets. -/
namespace Go.Proofs.Ytkaedhooccpniaa.Hand
open Go.RowKit Go.Proofs.YtkaedhooccpniaaW.PrintWords Go.Proofs.YtkaedhooccpniaaW.PrintLast Go.Proofs.YtkaedhooccpniaaW.PrintMore Go.Proofs.Ytkaedhooccpniaa.PA
set_option linter.unusedVariables false
set_option linter.unusedSimpArgs false
theorem resOf_putIf {t : Nat} {h : Nat} {has : List Bool → Nat → Bool} (x : List Bool × Bool) (a : Nat) : putIf t h has x a = resOf x.1 x.2 (h * t + a) (has x.1 a) := by
  unfold putIf resOf
  rfl
set_option maxHeartbeats 4000000 in
theorem l1_pure {t n : Nat} {st : Int} {rules : List S41} {null fl : List Bool} (l0 l1 : List ByteArray) (hg : GV t n st rules) (hnull : null.length = n) (hfl : fl.length = n * t) (V : List (List Int)) :
    ∀ d i (x : List Bool × Bool), i + d = rules.length → x.1.length = n * (t + 1) → Ev (fun k => emendateref21_Follow.l0 k (t : Int) ((t + 1 : Nat) : Int) null fl ((rules.drop i).foldl (folR t null fl) x).1 ((rules.drop i).foldl (folR t null fl) x).2 l0 l1 st rules) V → Ev (fun k => emendateref21_Follow.l1 k (t : Int) ((t + 1 : Nat) : Int) null fl x.1 x.2 (i : Int) l0 l1 st rules) V := by
  have hlr := hg.rl
  have hn1 := hg.n1
  have ht1 := hg.t1
  intro d
  induction d with
  | zero =>
    intro i x hi hx h
    refine Ev.succ ?_
    simp only [emendateref21_Follow.l1, if_neg (show ¬ (i : Int) < (rules.length : Int) by omega)]
    rw [List.drop_eq_nil_of_le (by omega)] at h
    exact h
  | succ d ih =>
    intro i x hi hx h
    have hlt : i < rules.length := by omega
    have hmem := List.getElem_mem hlt
    have g1 : (i : Int) < (rules.length : Int) := by omega
    have g2 : (0 : Int) ≤ (i : Int) := by omega
    rw [List.drop_eq_getElem_cons hlt, List.foldl_cons] at h
    have h' := ih (i + 1) (folR t null fl x rules[i]) (by omega) (by rw [folR_len]; exact hx) h
    have er := rd_T41_get rules i hlt
    clear h ih
    generalize rules[i] = r at h' hmem er
    have hh := hg.head _ hmem
    have hb := hg.bl _ hmem
    have hsy := hg.sym _ hmem
    have kl : ∀ e u (x : List Bool × Bool), u + e = r.f1.length → x.1.length = n * (t + 1) → Ev (fun k => emendateref21_Follow.l1 k (t : Int) ((t + 1 : Nat) : Int) null fl ((List.range' u e).foldl (folK t null fl r) x).1 ((List.range' u e).foldl (folK t null fl r) x).2 ((i + 1 : Nat) : Int) l0 l1 st rules) V → Ev (fun k => emendateref21_Follow.l2 k (t : Int) ((t + 1 : Nat) : Int) null fl x.1 x.2 (i : Int) (u : Int) l0 l1 st rules r.f0 r.f1 r.f2) V := by
      intro e
      induction e with
      | zero =>
        intro u x hu hx h
        refine Ev.succ ?_
        simp only [emendateref21_Follow.l2, if_neg (show ¬ (u : Int) < (r.f1.length : Int) by omega), w1 i (by omega)]
        exact h
      | succ e ihe =>
        intro u x hu hx h
        have hul : u < r.f1.length := by omega
        rw [List.range'_succ, List.foldl_cons, folK] at h
        have hm := hsy _ (List.getElem_mem hul)
        refine Ev.succ ?_
        simp only [emendateref21_Follow.l2, if_pos (show (u : Int) < (r.f1.length : Int) by omega), if_pos (show (0 : Int) ≤ (u : Int) by omega), getD_rd _ u hul]
        rw [getD_at _ _ hul] at h
        by_cases h0 : r.f1[u] < 0
        · have hw : wrap64 (-1 - r.f1[u]) = -1 - r.f1[u] := by unfold wrap64; omega
          rw [if_pos h0] at h
          simp only [if_neg (show ¬ r.f1[u] ≥ 0 by omega), hw]
          clear hw
          have hall := all_pure (tm := false) hnull hn1 (l := r.f1.drop (u + 1)) (by rw [List.length_drop]; omega) (fun y hy => by have := hsy y (List.mem_of_mem_drop hy); omega)
          rw [okSym_false] at hall
          have al : ∀ f v (x : List Bool × Bool), v + f = t + 1 → x.1.length = n * (t + 1) → Ev (fun k => emendateref21_Follow.l2 k (t : Int) ((t + 1 : Nat) : Int) null fl ((List.range' v f).foldl (putIf (t + 1) (-1 - r.f1[u]).toNat (hasG t null fl r u)) x).1 ((List.range' v f).foldl (putIf (t + 1) (-1 - r.f1[u]).toNat (hasG t null fl r u)) x).2 (i : Int) ((u + 1 : Nat) : Int) l0 l1 st rules r.f0 r.f1 r.f2) V → Ev (fun k => emendateref21_Follow.l3 k (t : Int) ((t + 1 : Nat) : Int) null fl x.1 x.2 (i : Int) (u : Int) (-1 - r.f1[u]) (v : Int) l0 l1 st rules r.f0 r.f1 r.f2) V := by
            intro f
            induction f with
            | zero =>
              intro v x hv hx h
              refine Ev.succ ?_
              simp only [emendateref21_Follow.l3, if_neg (show ¬ (v : Int) < ((t + 1 : Nat) : Int) by omega), w1 u (by omega)]
              exact h
            | succ f ihf =>
              intro v x hv hx h
              rw [List.range'_succ, List.foldl_cons] at h
              have h2 := ihf (v + 1) (putIf (t + 1) (-1 - r.f1[u]).toNat (hasG t null fl r u) x v) (by omega) (by rw [putIf_len]; exact hx) h
              have hvt : v < t + 1 := by omega
              rw [resOf_putIf, hasG] at h2
              have b1 := ix_lt (t := t + 1) (n := n) (i := r.f0.toNat) (a := v) (by omega) hvt
              have I1 := Aside0.mk (ix_w (t := t + 1) (a := v) hh.1 (by omega) (by omega) (by omega))
              have rdE : ∀ (s : List Bool) (j : Nat), rdOf false s (j : Int) = s.getD j false := fun s j => by rw [rdOf, Int.toNat_natCast]
              have fin := fun y => l4_pure l0 l1 hg hnull hfl hmem V x.1 x.2 hx i u v (by omega) hvt hul h0 (r.f1.length - (u + 1)) (u + 1) y (by omega) (Nat.le_refl _)
              refine Ev.succ ?_
              simp only [emendateref21_Follow.l3, if_pos (show (v : Int) < ((t + 1 : Nat) : Int) by omega), w1 u (by omega), if_pos (show (0 : Int) ≤ ((u + 1 : Nat) : Int) by omega), if_pos (show ((u + 1 : Nat) : Int) ≤ (r.f1.length : Int) by omega), Int.toNat_natCast]
              refine Ev.bind hall ?_
              cases hn : (r.f1.drop (u + 1)).all (nullSym null) with
              | true =>
                rw [hn, Bool.true_and] at h2
                simp only [if_true, I1.out, if_pos (show (0 : Int) ≤ ((r.f0.toNat * (t + 1) + v : Nat) : Int) by omega), if_pos (show ((r.f0.toNat * (t + 1) + v : Nat) : Int) < (x.1.length : Int) by rw [hx]; exact Int.ofNat_lt.2 b1), rdE]
                refine Ev.succ ?_
                simp only [emendateref21_Follow.j4, w1 u (by omega)]
                exact fin _ h2
              | false =>
                rw [hn, Bool.false_and] at h2
                simp only [if_neg (show ¬ false = true by simp)]
                refine Ev.succ ?_
                simp only [emendateref21_Follow.j4, w1 u (by omega)]
                exact fin _ h2
          have hx2 : ((List.range' 0 (t + 1)).foldl (putIf (t + 1) (-1 - r.f1[u]).toNat (hasG t null fl r u)) x).1.length = n * (t + 1) := by rw [fold_len putIf_len]; exact hx
          exact al (t + 1) 0 x (by omega) hx (ihe (u + 1) _ (by omega) hx2 h)
        · rw [if_neg h0] at h
          simp only [if_pos (show r.f1[u] ≥ 0 by omega), w1 u (by omega)]
          exact ihe (u + 1) x (by omega) hx h
    refine Ev.succ ?_
    simp only [emendateref21_Follow.l1, if_pos g1, if_pos g2, er]
    exact kl r.f1.length 0 x (by omega) hx h'
/-- The reference's table, of which the lists are made. -/
structure RoL (t n : Nat) (null : List Bool) (st : Int) (rules : List S41) (s : List Bool) : Prop where
  len : s.length = n * (t + 1)
  iff : ∀ i a, i < n → a < t + 1 → (s.getD (i * (t + 1) + a) false = true ↔ Fol null st rules i ((a : Int) - 1))
theorem rfol_pure {t n : Nat} {st : Int} {rules : List S41} {null fl : List Bool} (l0 l1 : List ByteArray) (hl0 : l0.length = t) (hl1 : l1.length = n) (hg : GV t n st rules) (hnull : null.length = n) (hN : Ev (fun k => emendateref21_Nullable.f k l0 l1 st rules) null) (hF : Ev (fun k => emendateref21_first.f k l0 l1 st rules) fl) (hf : RfL t n null rules fl) :
    ∃ s, RoL t n null st rules s ∧ ∀ V, Ev (fun k => emendateref21_sets.f k s ((t + 1 : Nat) : Int) 1) V → Ev (fun k => emendateref21_Follow.f k l0 l1 st rules) V := by
  have hn1 := hg.n1
  have ht1 := hg.t1
  have hst0 := hg.st0
  have hst1 := hg.st1
  have hQ0 : FlatQ (t + 1) n (FolP null st rules) ((List.replicate (n * (t + 1)) false).set (st.toNat * (t + 1) + 0) true) := (FlatQ.zero (t + 1) n (FolP null st rules)).put (by omega) (by omega) (by
    rw [FolP, Int.toNat_of_nonneg hst0]
    exact .start)
  obtain ⟨s, ⟨k1, k1'⟩, k2, k3⟩ := passes (ι := S41) (l := rules) (g := folR t null fl) (D := FrD2 t null fl) (Q := fun s => FlatQ (t + 1) n (FolP null st rules) s ∧ s.getD (st.toNat * (t + 1) + 0) false = true) (μ := fun s => s.count true) (M := n * (t + 1)) (L0 := fun k s b => emendateref21_Follow.l0 k (t : Int) ((t + 1 : Nat) : Int) null fl s b l0 l1 st rules)
    (fun r hr s b hs => by
      obtain ⟨p1, p2⟩ := folR_adds hg hf hr s b hs.1
      refine ⟨⟨p1, ?_⟩, p2⟩
      have mono : ∀ (x : List Bool × Bool) h has a j, x.1.getD j false = true → (putIf (t + 1) h has x a).1.getD j false = true := by
        intro x h has a j hj
        unfold putIf
        split
        · show (x.1.set (h * (t + 1) + a) true).getD j false = true
          by_cases hl : h * (t + 1) + a < x.1.length
          · rw [getD_set_b _ _ _ hl, hj, Bool.or_true]
          · rw [List.set_eq_of_length_le (by omega)]; exact hj
        · exact hj
      have monoF : ∀ (l : List Nat) (x : List Bool × Bool) h has j, x.1.getD j false = true → (l.foldl (putIf (t + 1) h has) x).1.getD j false = true := by
        intro l
        induction l with
        | nil => intro x h has j hj; exact hj
        | cons a l ih => intro x h has j hj; exact ih _ _ _ _ (mono x h has a j hj)
      have monoK : ∀ (l : List Nat) (x : List Bool × Bool) j, x.1.getD j false = true → (l.foldl (folK t null fl r) x).1.getD j false = true := by
        intro l
        induction l with
        | nil => intro x j hj; exact hj
        | cons a l ih =>
          intro x j hj
          refine ih _ _ ?_
          unfold folK
          split
          · exact monoF _ _ _ _ _ hj
          · exact hj
      exact monoK _ (s, b) _ hs.2)
    (fun s hs => hs.1.len ▸ List.count_le_length)
    (fun s V hs hV => by
      refine Ev.succ ?_
      simp only [emendateref21_Follow.l0, if_true]
      exact l1_pure l0 l1 hg hnull hf.len V rules.length 0 (s, false) (by omega) hs.1.len (by rw [List.drop_zero]; exact hV)) _ _ ⟨hQ0, by
        rw [getD_set_b _ _ _ (by rw [List.length_replicate]; exact ix_lt (by omega) (by omega))]; simp⟩ (Nat.le_refl _)
  refine ⟨s, ⟨k1.len, fun i a hi ha => ⟨k1.snd i a ha, fun h => ?_⟩⟩, fun V hV => ?_⟩
  · have key : ∀ A b, Fol null st rules A b → s.getD (A.toNat * (t + 1) + (b + 1).toNat) false = true := by
      intro A b hF
      induction hF with
      | start => exact k1'
      | @beg r i k a hr hi hx hk hn h0 ht hs =>
        have hsy := hg.sym r hr
        have hlt := Fol.lt hg (Fol.beg (st := st) hr hi hx hk hn h0 ht hs)
        have := k2 r hr i (by simpa using hi) (by rw [getD_at _ _ hi]; exact hx) (a + 1).toNat (List.mem_range'_1.2 ⟨by omega, by omega⟩) (by
          rw [hasG, Bool.or_eq_true]
          exact .inr ((brings_iff hg hf hr i _ (by omega)).2 ⟨k, hk, hn, by omega, fun h => by rw [ht h]; omega, fun h => by rw [show (((a + 1).toNat : Nat) : Int) - 1 = a by omega]; exact hs h⟩))
        rwa [getD_at _ _ hi] at this
      | @fol r i a hr hi hx hn hF ih =>
        have hlt := Fol.lt hg hF
        have := k2 r hr i (by simpa using hi) (by rw [getD_at _ _ hi]; exact hx) (a + 1).toNat (List.mem_range'_1.2 ⟨by omega, by omega⟩) (by
          rw [hasG, Bool.or_eq_true, Bool.and_eq_true]
          exact .inl ⟨hn, ih⟩)
        rwa [getD_at _ _ hi] at this
    have := key _ _ h
    rwa [Int.toNat_natCast, show ((a : Int) - 1 + 1).toNat = a by omega] at this
  · have hmul := Nat.mul_le_mul (show n ≤ 1000 from hn1) (show t + 1 ≤ 1001 by omega)
    have I2 := Aside0.mk (show wrap64 ((n : Int) * ((t + 1 : Nat) : Int)) = ((n * (t + 1) : Nat) : Int) by
      rw [← Int.natCast_mul]
      unfold wrap64
      omega)
    have I3 := Aside0.mk (show wrap64 (st * ((t + 1 : Nat) : Int)) = ((st.toNat * (t + 1) + 0 : Nat) : Int) by
      have := ix_w (t := t + 1) (a := 0) hst0 (by omega) (by omega) (by omega)
      obtain ⟨i, rfl⟩ := Int.eq_ofNat_of_zero_le hst0
      rw [Int.toNat_natCast] at *
      have h2 := Nat.mul_le_mul (show i ≤ 1000 by omega) (show t + 1 ≤ 1001 by omega)
      clear this
      rw [← Int.natCast_mul]
      unfold wrap64
      omega)
    have b1 := ix_lt (t := t + 1) (n := n) (i := st.toNat) (a := 0) (by omega) (by omega)
    unfold emendateref21_Follow.f
    refine Ev.bind hN (Ev.bind hF ?_)
    simp only [hl0, hl1, w1 t (by omega), I2.out, I3.out, if_pos (show (0 : Int) ≤ ((n * (t + 1) : Nat) : Int) by omega), Int.toNat_natCast, if_pos (show n * (t + 1) ≤ 281474976710656 by omega), Option.bind_some, List.length_replicate, if_pos (show (0 : Int) ≤ ((st.toNat * (t + 1) + 0 : Nat) : Int) by omega), if_pos (Int.ofNat_lt.2 b1)]
    refine k3 V (Ev.succ ?_)
    simp only [emendateref21_Follow.l0, if_neg (show ¬ false = true by simp)]
    have := Ev.bind (B := fun _ x => some x) hV (Ev.const V)
    exact this
/-- The lists of a table's rows. -/
def rowsOf (n w : Nat) (m : Nat → Nat → Bool) (sh : Int) : List (List Int) := (List.range n).map (fun i => ((List.range w).filter (m i)).map (fun (j : Nat) => (j : Int) - sh))
theorem sets_pure {n w : Nat} {s : List Bool} (hs : s.length = n * w) (hw : 0 < w) (hw1 : w ≤ 1001) (hn1 : n ≤ 1000) (sh : Int) (hsh : 0 ≤ sh ∧ sh ≤ 1) : Ev (fun k => emendateref21_sets.f k s (w : Int) sh) (rowsOf n w (fun i j => s.getD (i * w + j) false) sh) := by
  have hbig := Nat.mul_le_mul hn1 hw1
  have key : ∀ d i (acc : List (List Int)), i + d = n → acc.length = i → Ev (fun k => emendateref21_sets.l0 k s (w : Int) sh acc ((i * w : Nat) : Int)) (acc ++ (List.range' i d).map (fun i => ((List.range w).filter (fun j => s.getD (i * w + j) false)).map (fun (j : Nat) => (j : Int) - sh))) := by
    intro d
    induction d with
    | zero =>
      intro i acc hi hacc
      refine Ev.succ ?_
      obtain rfl : i = n := by omega
      simp only [emendateref21_sets.l0, if_neg (show ¬ ((i * w : Nat) : Int) < (s.length : Int) by rw [hs]; omega)]
      simpa using Ev.const acc
    | succ d ih =>
      intro i acc hi hacc
      have hin : i < n := by omega
      have hlt := ix_lt (t := w) (n := n) (i := i) (a := 0) hin hw
      have inner : ∀ e j (row : List Int), j + e = w → row.length ≤ j → Ev (fun k => emendateref21_sets.l1 k s (w : Int) sh acc ((i * w : Nat) : Int) row (j : Int)) (acc ++ [row ++ ((List.range' j e).filter (fun j => s.getD (i * w + j) false)).map (fun (j : Nat) => (j : Int) - sh)] ++ (List.range' (i + 1) d).map (fun i => ((List.range w).filter (fun j => s.getD (i * w + j) false)).map (fun (j : Nat) => (j : Int) - sh))) := by
        intro e
        induction e with
        | zero =>
          intro j row hj hr
          have I1 := Aside0.mk (show wrap64 (((i * w : Nat) : Int) + (w : Int)) = (((i + 1) * w : Nat) : Int) by
            rw [Nat.succ_mul]
            unfold wrap64
            omega)
          refine Ev.succ ?_
          simp only [emendateref21_sets.l1, if_neg (show ¬ (j : Int) < (w : Int) by omega), if_pos (show acc.length < 5864062014805 by omega), I1.out]
          have := ih (i + 1) (acc ++ [row]) (by omega) (by simp; omega)
          simpa using this
        | succ e ihe =>
          intro j row hj hr
          have hjw : j < w := by omega
          have b1 := ix_lt (t := w) (n := n) (i := i) (a := j) hin hjw
          have I1 := Aside0.mk (show wrap64 (((i * w : Nat) : Int) + (j : Int)) = ((i * w + j : Nat) : Int) by unfold wrap64; omega)
          have I2 := Aside0.mk (show wrap64 ((j : Int) - sh) = (j : Int) - sh by unfold wrap64; omega)
          have rdE : rdOf false s ((i * w + j : Nat) : Int) = s.getD (i * w + j) false := by rw [rdOf, Int.toNat_natCast]
          refine Ev.succ ?_
          simp only [emendateref21_sets.l1, if_pos (show (j : Int) < (w : Int) by omega), I1.out, I2.out, rdE, if_pos (show (0 : Int) ≤ ((i * w + j : Nat) : Int) by omega), if_pos (show ((i * w + j : Nat) : Int) < (s.length : Int) by rw [hs]; exact Int.ofNat_lt.2 b1), w1 j (by omega), if_pos (show row.length < 17592186044416 by omega)]
          rw [List.range'_succ, List.filter_cons]
          cases hc : s.getD (i * w + j) false with
          | true =>
            simp only [if_true]
            have := ihe (j + 1) (row ++ [(j : Int) - sh]) (by omega) (by simp; omega)
            simpa using this
          | false =>
            simp only [if_neg (show ¬ false = true by simp)]
            exact ihe (j + 1) row (by omega) (by omega)
      refine Ev.succ ?_
      simp only [emendateref21_sets.l0, if_pos (show ((i * w : Nat) : Int) < (s.length : Int) by rw [hs]; exact Int.ofNat_lt.2 (by simpa using hlt))]
      have := inner w 0 [] (by omega) (by simp)
      rw [List.range'_succ, List.map_cons]
      simpa [List.range_eq_range'] using this
  have := key n 0 [] (by omega) rfl
  unfold rowsOf
  rw [List.range_eq_range' (n := n)]
  unfold emendateref21_sets.f
  simpa using this
end Go.Proofs.Ytkaedhooccpniaa.Hand
