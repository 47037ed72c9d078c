import Derived.Test.YtkaedhooccpniaaHandM1
import Derived.Test.YtkaedhooccpniaaHandM3
import Derived.Test.YtkaedhooccpniaaPAx9
/- Least fixed points, plain Lean: Nullable, Productive, Reachable, the program's and the reference's. -/
namespace Go.Proofs.Ytkaedhooccpniaa.Hand
open Go.RowKit Go.Proofs.YtkaedhooccpniaaW.PrintWords Go.Proofs.YtkaedhooccpniaaW.PrintLast Go.Proofs.YtkaedhooccpniaaW.PrintMore Go.Proofs.Ytkaedhooccpniaa.PA
set_option linter.unusedVariables false
set_option linter.unusedSimpArgs false
/-- With fuel enough. -/
def Ev {α : Type} (F : Nat → Option α) (a : α) : Prop := ∃ K, ∀ k, K ≤ k → F k = some a
theorem Ev.succ {α : Type} {F : Nat → Option α} {a : α} (h : Ev (fun k => F (k + 1)) a) : Ev F a := by
  obtain ⟨K, h⟩ := h
  refine ⟨K + 1, fun k hk => ?_⟩
  obtain ⟨j, rfl⟩ : ∃ j, k = j + 1 := ⟨k - 1, by omega⟩
  exact h j (by omega)
theorem Ev.const {α : Type} (a : α) : Ev (fun _ => some a) a := ⟨0, fun _ _ => rfl⟩
theorem Ev.bind {α β : Type} {A : Nat → Option α} {B : Nat → α → Option β} {a : α} {b : β} (h : Ev A a) (k : Ev (fun k => B k a) b) : Ev (fun k => (A k).bind (B k)) b := by
  obtain ⟨K, h⟩ := h
  obtain ⟨L, k⟩ := k
  refine ⟨max K L, fun j hj => ?_⟩
  show (A j).bind (B j) = some b
  rw [h j (by omega)]
  exact k j (by omega)
theorem Ev.get {α : Type} {F : Nat → Option α} {a : α} (h : Ev F a) : ∃ k, F k = some a := by
  obtain ⟨K, h⟩ := h
  exact ⟨K, h K (Nat.le_refl _)⟩
theorem Ev.both {α β : Type} {F : Nat → Option α} {G : Nat → Option β} {a : α} {b : β} (h : Ev F a) (k : Ev G b) : ∃ k, F k = some a ∧ G k = some b := by
  obtain ⟨K, h⟩ := h
  obtain ⟨L, k⟩ := k
  exact ⟨max K L, h _ (by omega), k _ (by omega)⟩
theorem Ev.three {α β γ : Type} {F : Nat → Option α} {G : Nat → Option β} {H : Nat → Option γ} {a : α} {b : β} {c : γ} (h : Ev F a) (k : Ev G b) (l : Ev H c) : ∃ k, F k = some a ∧ G k = some b ∧ H k = some c := by
  obtain ⟨K, h⟩ := h
  obtain ⟨L, k⟩ := k
  obtain ⟨M, l⟩ := l
  exact ⟨max K (max L M), h _ (by omega), k _ (by omega), l _ (by omega)⟩
theorem w1 (t : Nat) (h : t ≤ 1000000000000) : wrap64 ((t : Int) + 1) = ((t + 1 : Nat) : Int) := by
  unfold wrap64
  omega
/-- A grammar of moderate size. -/
structure GV (t n : Nat) (st : Int) (rules : List S41) : Prop where
  n0 : 0 < n
  n1 : n ≤ 1000
  t1 : t ≤ 1000
  st0 : 0 ≤ st
  st1 : st < n
  rl : rules.length ≤ 1000
  head : ∀ r ∈ rules, 0 ≤ r.f0 ∧ r.f0 < n
  bl : ∀ r ∈ rules, r.f1.length ≤ 1000
  sym : ∀ r ∈ rules, ∀ x ∈ r.f1, -(n : Int) ≤ x ∧ x < t
theorem GV.gok {t n : Nat} {st : Int} {rules : List S41} (h : GV t n st rules) : gokB n st rules = true := by
  have h1 := h.n0
  have h2 := h.n1
  have h3 := h.t1
  simp only [gokB, Bool.and_eq_true, decide_eq_true_eq]
  refine ⟨⟨⟨⟨h1, by omega⟩, h.st0⟩, h.st1⟩, ?_⟩
  rw [List.all_eq_true]
  intro r hr
  simp only [ruleB, Bool.and_eq_true, decide_eq_true_eq]
  refine ⟨h.head r hr, ?_⟩
  rw [List.all_eq_true]
  intro x hx
  have := h.sym r hr x hx
  simp only [symB, Bool.and_eq_true, Bool.or_eq_true, decide_eq_true_eq]
  omega
theorem scan_ex {σ : Type} {step : σ → S41 → σ × Bool} {rules : List S41} (Q : σ → Prop) (μ : σ → Nat) (hQ : ∀ s r, r ∈ rules → Q s → Q (step s r).1) (hup : ∀ s r, r ∈ rules → Q s → (step s r).2 = true → μ s < μ (step s r).1)
    (hno : ∀ s r, r ∈ rules → Q s → (step s r).2 = false → (step s r).1 = s) (s : σ) (hs : Q s) : ∀ rs, (∀ r ∈ rs, r ∈ rules) →
    ((scan step rs s).2 = true ∧ μ s < μ (scan step rs s).1 ∧ Q (scan step rs s).1) ∨ ((scan step rs s).2 = false ∧ (scan step rs s).1 = s ∧ ∀ r ∈ rs, (step s r).2 = false)
  | [], _ => .inr ⟨rfl, rfl, fun r h => by cases h⟩
  | r :: rs, h => by
    have hr := h r (by simp)
    rw [scan]
    cases hq : (step s r).2 with
    | true => rw [if_pos rfl]; exact .inl ⟨rfl, hup s r hr hs hq, hQ s r hr hs⟩
    | false =>
      rw [if_neg (by simp), hno s r hr hs hq]
      rcases scan_ex Q μ hQ hup hno s hs rs (fun r' h' => h r' (by simp [h'])) with h1 | ⟨h1, h2, h3⟩
      · exact .inl h1
      · refine .inr ⟨h1, h2, fun r' h' => ?_⟩
        rcases List.mem_cons.1 h' with rfl | h'
        · exact hq
        · exact h3 r' h'
theorem run_ex {σ : Type} {step : σ → S41 → σ × Bool} {rules : List S41} (Q : σ → Prop) (μ : σ → Nat) (M : Nat) (hQ : ∀ s r, r ∈ rules → Q s → Q (step s r).1) (hup : ∀ s r, r ∈ rules → Q s → (step s r).2 = true → μ s < μ (step s r).1)
    (hno : ∀ s r, r ∈ rules → Q s → (step s r).2 = false → (step s r).1 = s) (hM : ∀ s, Q s → μ s ≤ M) : ∀ d s, Q s → M - μ s ≤ d → ∃ s', Ev (fun k => run step rules k s) s' ∧ Q s' ∧ ∀ r ∈ rules, (step s' r).2 = false := by
  intro d
  induction d with
  | zero =>
    intro s hs hd
    have h0 := hM s hs
    rcases scan_ex Q μ hQ hup hno s hs rules (fun _ h => h) with ⟨h1, h2, h3⟩ | ⟨h1, h2, h3⟩
    · have := hM _ h3
      omega
    · refine ⟨s, Ev.succ ?_, hs, h3⟩
      simp only [run, h1, h2]
      exact Ev.const s
  | succ d ih =>
    intro s hs hd
    rcases scan_ex Q μ hQ hup hno s hs rules (fun _ h => h) with ⟨h1, h2, h3⟩ | ⟨h1, h2, h3⟩
    · obtain ⟨s', k1, k2, k3⟩ := ih _ h3 (by omega)
      refine ⟨s', Ev.succ ?_, k2, k3⟩
      simp only [run, h1, if_true]
      exact k1
    · refine ⟨s, Ev.succ ?_, hs, h3⟩
      simp only [run, h1, h2]
      exact Ev.const s
theorem rdOf_set (bs : List Bool) (i j : Int) (h0 : 0 ≤ i) (hj : 0 ≤ j) (hi : i.toNat < bs.length) : rdOf false (bs.set i.toNat true) j = (decide (i = j) || rdOf false bs j) := by
  unfold rdOf
  rw [getD_set_b _ _ _ hi]
  congr 1
  by_cases e : i = j
  · simp [e]
  · simp [e]; omega
theorem rdOf_rep (n : Nat) (i : Int) : rdOf false (List.replicate n false) i = false := by
  unfold rdOf
  rw [List.getD_eq_getElem?_getD, List.getElem?_replicate]
  split <;> rfl
theorem bools_ext {a b : List Bool} (hl : a.length = b.length) (h : ∀ i : Int, 0 ≤ i → (rdOf false a i = true ↔ rdOf false b i = true)) : a = b := by
  apply row_ext hl
  intro j _
  have := h j (by omega)
  unfold rdOf at this
  rw [Int.toNat_natCast] at this
  exact Bool.eq_iff_iff.2 this
/-- The heads that are accepted. -/
inductive Hd (tm : Bool) (rules : List S41) : Int → Prop
  | mk {r : S41} : r ∈ rules → (∀ x ∈ r.f1, 0 ≤ x → tm = true) → (∀ x ∈ r.f1, x < 0 → Hd tm rules (-1 - x)) → Hd tm rules r.f0
structure HdL (tm : Bool) (n : Nat) (rules : List S41) (bs : List Bool) : Prop where
  len : bs.length = n
  iff : ∀ i : Int, 0 ≤ i → (rdOf false bs i = true ↔ Hd tm rules i)
theorem HdL.ext {tm : Bool} {n : Nat} {rules : List S41} {a b : List Bool} (h : HdL tm n rules a) (k : HdL tm n rules b) : a = b :=
  bools_ext (h.len.trans k.len.symm) (fun i hi => (h.iff i hi).trans (k.iff i hi).symm)
structure HdS (tm : Bool) (n : Nat) (rules : List S41) (bs : List Bool) : Prop where
  len : bs.length = n
  snd : ∀ i : Int, 0 ≤ i → rdOf false bs i = true → Hd tm rules i
theorem okSym_iff {tm : Bool} {bs : List Bool} {l : List Int} : l.all (okSym tm bs) = true ↔ (∀ x ∈ l, 0 ≤ x → tm = true) ∧ (∀ x ∈ l, x < 0 → rdOf false bs (-1 - x) = true) := by
  rw [List.all_eq_true]
  constructor
  · intro h
    refine ⟨fun x hx h0 => ?_, fun x hx h0 => ?_⟩
    · have := h x hx
      simp only [okSym, Bool.or_eq_true, Bool.and_eq_true, decide_eq_true_eq] at this
      rcases this with h | h
      · exact h.2
      · omega
    · have := h x hx
      simp only [okSym, Bool.or_eq_true, Bool.and_eq_true, decide_eq_true_eq] at this
      rcases this with h | h
      · omega
      · exact h.2
  · rintro ⟨h1, h2⟩ x hx
    simp only [okSym, Bool.or_eq_true, Bool.and_eq_true, decide_eq_true_eq]
    by_cases h0 : 0 ≤ x
    · exact .inl ⟨h0, h1 x hx h0⟩
    · exact .inr ⟨by omega, h2 x hx (by omega)⟩
theorem HdS.step {tm : Bool} {t n : Nat} {st : Int} {rules : List S41} {bs : List Bool} (hg : GV t n st rules) (h : HdS tm n rules bs) {r : S41} (hr : r ∈ rules) (ha : r.f1.all (okSym tm bs) = true) : HdS tm n rules (bs.set r.f0.toNat true) := by
  have hh := hg.head r hr
  refine ⟨by rw [List.length_set]; exact h.len, fun i hi hq => ?_⟩
  rw [rdOf_set _ _ _ hh.1 hi (by rw [h.len]; omega)] at hq
  rw [Bool.or_eq_true] at hq
  rcases hq with hq | hq
  · obtain rfl := of_decide_eq_true hq
    obtain ⟨h1, h2⟩ := okSym_iff.1 ha
    exact .mk hr h1 (fun x hx h0 => h.snd _ (by omega) (h2 x hx h0))
  · exact h.snd i hi hq
theorem HdS.done {tm : Bool} {t n : Nat} {st : Int} {rules : List S41} {bs : List Bool} (hg : GV t n st rules) (h : HdS tm n rules bs) (hc : ∀ r ∈ rules, r.f1.all (okSym tm bs) = true → rdOf false bs r.f0 = true) : HdL tm n rules bs := by
  refine ⟨h.len, fun i hi => ⟨h.snd i hi, fun hh => ?_⟩⟩
  clear hi
  induction hh with
  | mk hr h1 h2 ih => exact hc _ hr (okSym_iff.2 ⟨h1, fun x hx h0 => ih x hx h0⟩)
theorem HdS.zero (tm : Bool) (n : Nat) (rules : List S41) : HdS tm n rules (List.replicate n false) := ⟨by simp, fun i _ h => by rw [rdOf_rep] at h; cases h⟩
theorem count_le {bs : List Bool} {n : Nat} (h : bs.length = n) : bs.count true ≤ n := h ▸ List.count_le_length
/-- The program's. -/
theorem heads_pure {tm : Bool} {t n : Nat} {st : Int} {rules : List S41} (hg : GV t n st rules) : ∃ bs, Ev (fun k => run (headStep tm) rules k (List.replicate n false)) bs ∧ HdL tm n rules bs := by
  have hstep : ∀ (s : List Bool) (r : S41), headStep tm s r = if rdOf false s r.f0 = true ∨ ¬ r.f1.all (okSym tm s) = true then (s, false) else (s.set r.f0.toNat true, true) := fun s r => by
    unfold headStep
    by_cases h1 : rdOf false s r.f0 = true
    · simp [h1]
    · by_cases h2 : r.f1.all (okSym tm s) = true
      · simp [h1, h2]
      · simp [h1, h2]
  have a1 : ∀ s r, r ∈ rules → HdS tm n rules s → HdS tm n rules (headStep tm s r).1 := by
    intro s r hr hs
    rw [hstep]
    split
    · exact hs
    · rename_i h
      exact hs.step hg hr (Decidable.byContradiction fun e => h (.inr e))
  have a2 : ∀ s r, r ∈ rules → HdS tm n rules s → (headStep tm s r).2 = true → s.count true < (headStep tm s r).1.count true := by
    intro s r hr hs h
    rw [hstep] at h ⊢
    split at h
    · cases h
    · rename_i hq
      rw [if_neg hq]
      have hh := hg.head r hr
      have h1 : rdOf false s r.f0 = false := by
        cases hx : rdOf false s r.f0 with
        | true => exact absurd (.inl hx) hq
        | false => rfl
      show s.count true < (s.set r.f0.toNat true).count true
      rw [count_set (by rw [hs.len]; omega) h1]
      omega
  have a3 : ∀ s r, r ∈ rules → HdS tm n rules s → (headStep tm s r).2 = false → (headStep tm s r).1 = s := by
    intro s r hr hs h
    rw [hstep] at h ⊢
    split at h
    · rename_i hq
      rw [if_pos hq]
    · cases h
  obtain ⟨bs, h1, h2, h3⟩ := run_ex (step := headStep tm) (rules := rules) (HdS tm n rules) (fun s => s.count true) n a1 a2 a3 (fun s hs => count_le hs.len) n _ (HdS.zero tm n rules) (by omega)
  refine ⟨bs, h1, h2.done hg (fun r hr ha => ?_)⟩
  have := h3 r hr
  rw [hstep] at this
  split at this
  · rename_i h
    rcases h with h | h
    · exact h
    · exact absurd ha h
  · cases this
/-- The reference's all. -/
theorem all_pure {tm : Bool} {n : Nat} {bs : List Bool} (hn : bs.length = n) (hn1 : n ≤ 1000) {l : List Int} (hl : l.length ≤ 1000) (hx : ∀ x ∈ l, -(n : Int) ≤ x ∧ x < 1000000) : Ev (fun k => emendateref21_all.f k l bs tm) (l.all (okSym tm bs)) := by
  have key : ∀ d i, i + d = l.length → Ev (fun k => emendateref21_all.l0 k l bs tm (i : Int)) ((l.drop i).all (okSym tm bs)) := by
    intro d
    induction d with
    | zero =>
      intro i hi
      refine Ev.succ ?_
      simp only [emendateref21_all.l0, if_neg (show ¬ (i : Int) < (l.length : Int) by omega)]
      rw [List.drop_eq_nil_of_le (by omega)]
      exact Ev.const true
    | succ d ih =>
      intro i hi
      have hlt : i < l.length := by omega
      refine Ev.succ ?_
      have h1 : (i : Int) < (l.length : Int) := by omega
      have h2 : (0 : Int) ≤ (i : Int) := by omega
      have hm := hx l[i] (List.getElem_mem hlt)
      have ih' := ih (i + 1) (by omega)
      simp only [emendateref21_all.l0, if_pos h1, if_pos h2, getD_rd l i hlt, w1 i (by omega)]
      rw [List.drop_eq_getElem_cons hlt, List.all_cons]
      generalize l[i] = x at hm
      by_cases h0 : x ≥ 0
      · simp only [if_pos h0, if_neg (show ¬ x < 0 by omega)]
        cases tm
        · simp only [if_neg (show ¬ false = true by simp)]
          rw [show okSym false bs x = false by simp [okSym]; omega]
          exact Ev.const false
        · simp only [if_true]
          rw [show okSym true bs x = true by simp [okSym, h0], Bool.true_and]
          exact ih'
      · have hw : wrap64 (-1 - x) = -1 - x := by unfold wrap64; omega
        simp only [if_neg h0, if_pos (show x < 0 by omega), hw, if_pos (show 0 ≤ -1 - x by omega), if_pos (show -1 - x < (bs.length : Int) by omega)]
        rw [show okSym tm bs x = rdOf false bs (-1 - x) by simp [okSym]; rw [show decide (0 ≤ x) = false by simp; omega, show decide (x < 0) = true by simp; omega]; simp]
        cases rdOf false bs (-1 - x)
        · simp only [Bool.false_and, if_neg (show ¬ false = true by simp)]
          exact Ev.const false
        · simp only [Bool.true_and, if_true]
          exact ih'
  have := key l.length 0 (by omega)
  rw [List.drop_zero] at this
  exact this
/-- The reference's fixpoint. -/
theorem fix_pure {tm : Bool} {t n : Nat} {st : Int} {rules : List S41} (l0 l1 : List ByteArray) (hl1 : l1.length = n) (hg : GV t n st rules) : ∃ bs, Ev (fun k => emendateref21_fixpoint.f k l0 l1 st rules tm) bs ∧ HdL tm n rules bs := by
  have key : ∀ m (bs : List Bool), HdS tm n rules bs → n - bs.count true ≤ m → ∃ r, Ev (fun k => emendateref21_fixpoint.l0 k tm bs true l0 l1 st rules) r ∧ HdL tm n rules r := by
    intro m
    induction m using Nat.strongRecOn with
    | _ m ihm =>
    intro bs hs hm
    have inner : ∀ d i (cs : List Bool) (ch : Bool), i + d = rules.length → HdS tm n rules cs → (ch = true → bs.count true < cs.count true) → (ch = false → cs = bs ∧ ∀ j (hj : j < rules.length), j < i → rules[j].f1.all (okSym tm bs) = true → rdOf false bs rules[j].f0 = true) →
        ∃ r, Ev (fun k => emendateref21_fixpoint.l1 k tm cs ch (i : Int) l0 l1 st rules) r ∧ HdL tm n rules r := by
      intro d
      induction d with
      | zero =>
        intro i cs ch hi hc h1 h2
        cases ch
        · obtain ⟨rfl, h3⟩ := h2 rfl
          refine ⟨cs, Ev.succ (Ev.succ ?_), hs.done hg (fun r hr ha => ?_)⟩
          · simp only [emendateref21_fixpoint.l1, if_neg (show ¬ (i : Int) < (rules.length : Int) by omega), emendateref21_fixpoint.l0]
            exact Ev.const _
          · obtain ⟨j, hj, rfl⟩ := List.getElem_of_mem hr
            exact h3 j hj (by omega) ha
        · have h3 := h1 rfl
          have h4 := count_le hc.len
          obtain ⟨r, k1, k2⟩ := ihm (n - cs.count true) (by omega) cs hc (Nat.le_refl _)
          refine ⟨r, Ev.succ ?_, k2⟩
          simp only [emendateref21_fixpoint.l1, if_neg (show ¬ (i : Int) < (rules.length : Int) by omega)]
          exact k1
      | succ d ih =>
        intro i cs ch hi hc h1 h2
        have hlt : i < rules.length := by omega
        have hlr := hg.rl
        have hmem := List.getElem_mem hlt
        have hh := hg.head _ hmem
        have hb := hg.bl _ hmem
        have hsy := hg.sym _ hmem
        have hcl := hc.len
        have g1 : (i : Int) < (rules.length : Int) := by omega
        have g2 : (0 : Int) ≤ (i : Int) := by omega
        have ht := hg.t1
        have hall := all_pure (tm := tm) hc.len hg.n1 hb (fun x hx => ⟨(hsy x hx).1, by have := (hsy x hx).2; omega⟩)
        have e1 : ∀ k, emendateref21_fixpoint.l1 (k + 1) tm cs ch (i : Int) l0 l1 st rules = if rdOf false cs rules[i].f0 = true then emendateref21_fixpoint.l1 k tm cs ch ((i + 1 : Nat) : Int) l0 l1 st rules else (emendateref21_all.f k rules[i].f1 cs tm).bind fun b => if b = true then emendateref21_fixpoint.l1 k tm (cs.set rules[i].f0.toNat true) true ((i + 1 : Nat) : Int) l0 l1 st rules else emendateref21_fixpoint.l1 k tm cs ch ((i + 1 : Nat) : Int) l0 l1 st rules := fun k => by
          simp only [emendateref21_fixpoint.l1, if_pos g1, if_pos g2, rd_T41_get rules i hlt, if_pos hh.1, if_pos (show rules[i].f0 < (cs.length : Int) by omega), w1 i (by omega)]
        by_cases hq : rdOf false cs rules[i].f0 = true
        · obtain ⟨r, k1, k2⟩ := ih (i + 1) cs ch (by omega) hc h1 (fun e => ⟨(h2 e).1, fun j hj hji ha => by
            by_cases ej : j = i
            · subst ej
              obtain ⟨rfl, _⟩ := h2 e
              exact hq
            · exact (h2 e).2 j hj (by omega) ha⟩)
          refine ⟨r, Ev.succ ?_, k2⟩
          simp only [e1, if_pos hq]
          exact k1
        · cases ha : rules[i].f1.all (okSym tm cs) with
          | true =>
            have hset := hc.step hg hmem ha
            have hcnt := count_set (row := cs) (i := rules[i].f0.toNat) (by omega) (by simpa [rdOf] using hq)
            obtain ⟨r, k1, k2⟩ := ih (i + 1) (cs.set rules[i].f0.toNat true) true (by omega) hset (fun _ => by
              rw [hcnt]
              cases ch
              · obtain ⟨rfl, _⟩ := h2 rfl; omega
              · have := h1 rfl; omega) (fun e => by cases e)
            refine ⟨r, Ev.succ ?_, k2⟩
            simp only [e1, if_neg hq]
            rw [ha] at hall
            refine Ev.bind hall ?_
            simp only [if_true]
            exact k1
          | false =>
            obtain ⟨r, k1, k2⟩ := ih (i + 1) cs ch (by omega) hc h1 (fun e => ⟨(h2 e).1, fun j hj hji ha' => by
              by_cases ej : j = i
              · subst ej
                obtain ⟨rfl, _⟩ := h2 e
                rw [ha] at ha'
                cases ha'
              · exact (h2 e).2 j hj (by omega) ha'⟩)
            refine ⟨r, Ev.succ ?_, k2⟩
            simp only [e1, if_neg hq]
            rw [ha] at hall
            refine Ev.bind hall ?_
            simp only [if_neg (show ¬ false = true by simp)]
            exact k1
    obtain ⟨r, k1, k2⟩ := inner rules.length 0 bs false (by omega) hs (fun e => by cases e) (fun _ => ⟨rfl, fun j _ h => absurd h (Nat.not_lt_zero _)⟩)
    refine ⟨r, Ev.succ ?_, k2⟩
    simp only [emendateref21_fixpoint.l0, if_true]
    exact k1
  have hn1 := hg.n1
  obtain ⟨r, k1, k2⟩ := key n _ (HdS.zero tm n rules) (by omega)
  refine ⟨r, ?_, k2⟩
  simp only [emendateref21_fixpoint.f, if_pos (show (0 : Int) ≤ (l1.length : Int) by omega), Int.toNat_natCast, if_pos (show l1.length ≤ 281474976710656 by omega)]
  rw [hl1]
  exact k1
end Go.Proofs.Ytkaedhooccpniaa.Hand
/- Passes that add until nothing is added: folds with a flag; tables of sets. Plain Lean. -/
namespace Go.Proofs.Ytkaedhooccpniaa.Hand
open Go.RowKit Go.Proofs.YtkaedhooccpniaaW.PrintWords Go.Proofs.YtkaedhooccpniaaW.PrintLast Go.Proofs.YtkaedhooccpniaaW.PrintMore Go.Proofs.Ytkaedhooccpniaa.PA
set_option linter.unusedVariables false
set_option linter.unusedSimpArgs false
/-- One step adds something and says so, or leaves all as it was, with nothing to add. -/
def Adds {σ ι : Type} (Q : σ → Prop) (μ : σ → Nat) (g : σ × Bool → ι → σ × Bool) (D : σ → ι → Prop) (i : ι) : Prop :=
  ∀ s b, Q s → Q (g (s, b) i).1 ∧ (((g (s, b) i).2 = true ∧ μ s < μ (g (s, b) i).1) ∨ (g (s, b) i = (s, b) ∧ D s i))
theorem fold_adds {σ ι : Type} {Q : σ → Prop} {μ : σ → Nat} {g : σ × Bool → ι → σ × Bool} {D : σ → ι → Prop} : ∀ (l : List ι), (∀ i ∈ l, Adds Q μ g D i) → ∀ s b, Q s →
    Q (l.foldl g (s, b)).1 ∧ (((l.foldl g (s, b)).2 = true ∧ μ s < μ (l.foldl g (s, b)).1) ∨ (l.foldl g (s, b) = (s, b) ∧ ∀ i ∈ l, D s i))
  | [], _, s, b, hs => ⟨hs, .inr ⟨rfl, fun i h => by cases h⟩⟩
  | i :: l, h, s, b, hs => by
    obtain ⟨h1, h2⟩ := h i (by simp) s b hs
    rw [List.foldl_cons]
    rcases h2 with ⟨e1, e2⟩ | ⟨e1, e2⟩
    · obtain ⟨k1, k2⟩ := fold_adds l (fun j hj => h j (by simp [hj])) (g (s, b) i).1 (g (s, b) i).2 h1
      refine ⟨k1, .inl ?_⟩
      rcases k2 with ⟨f1, f2⟩ | ⟨f1, f2⟩
      · exact ⟨f1, Nat.lt_trans e2 f2⟩
      · have f1' : l.foldl g (g (s, b) i) = g (s, b) i := f1
        rw [f1']
        exact ⟨e1, e2⟩
    · rw [e1]
      obtain ⟨k1, k2⟩ := fold_adds l (fun j hj => h j (by simp [hj])) s b hs
      refine ⟨k1, ?_⟩
      rcases k2 with f | ⟨f1, f2⟩
      · exact .inl f
      · refine .inr ⟨f1, fun j hj => ?_⟩
        rcases List.mem_cons.1 hj with rfl | hj
        · exact e2
        · exact f2 j hj
/-- Passes of the reference's kind, until one adds nothing. -/
theorem passes {σ β ι : Type} {Q : σ → Prop} {μ : σ → Nat} {M : Nat} {D : σ → ι → Prop} {L0 : Nat → σ → Bool → Option β} {g : σ × Bool → ι → σ × Bool} {l : List ι} (hg : ∀ i ∈ l, Adds Q μ g D i) (hM : ∀ s, Q s → μ s ≤ M)
    (hl : ∀ s V, Q s → Ev (fun k => L0 k (l.foldl g (s, false)).1 (l.foldl g (s, false)).2) V → Ev (fun k => L0 k s true) V) : ∀ d s, Q s → M - μ s ≤ d → ∃ s', Q s' ∧ (∀ i ∈ l, D s' i) ∧ ∀ V, Ev (fun k => L0 k s' false) V → Ev (fun k => L0 k s true) V := by
  intro d
  induction d with
  | zero =>
    intro s hs hd
    obtain ⟨k1, k2⟩ := fold_adds l hg s false hs
    rcases k2 with ⟨e1, e2⟩ | ⟨e1, e2⟩
    · have := hM _ k1; have := hM _ hs; omega
    · exact ⟨s, hs, e2, fun V hV => hl s V hs (by rw [e1]; exact hV)⟩
  | succ d ih =>
    intro s hs hd
    obtain ⟨k1, k2⟩ := fold_adds l hg s false hs
    rcases k2 with ⟨e1, e2⟩ | ⟨e1, e2⟩
    · obtain ⟨s', j1, j2, j3⟩ := ih _ k1 (by omega)
      exact ⟨s', j1, j2, fun V hV => hl s V hs (by rw [e1]; exact j3 V hV)⟩
    · exact ⟨s, hs, e2, fun V hV => hl s V hs (by rw [e1]; exact hV)⟩
theorem sum_set : ∀ (l : List Nat) (i x : Nat) (h : i < l.length), (l.set i x).sum + l[i] = l.sum + x
  | [], i, x, h => by simp at h
  | a :: l, 0, x, h => by simp; omega
  | a :: l, i + 1, x, h => by
    have := sum_set l i x (by simpa using h)
    simp only [List.set_cons_succ, List.sum_cons, List.getElem_cons_succ]
    omega
theorem sum_bound : ∀ (l : List Nat) (m : Nat), (∀ x ∈ l, x ≤ m) → l.sum ≤ l.length * m
  | [], m, _ => by simp
  | a :: l, m, h => by
    have h1 := sum_bound l m (fun x hx => h x (by simp [hx]))
    have h2 := h a (by simp)
    simp only [List.sum_cons, List.length_cons, Nat.succ_mul]
    omega
/-- How many members all sets have. -/
def mu (tab : List (List Bool)) : Nat := (tab.map (fun r => r.count true)).sum
theorem mu_set (tab : List (List Bool)) (i : Nat) (row : List Bool) (hi : i < tab.length) : mu (tab.set i row) + (tab.getD i []).count true = mu tab + row.count true := by
  have := sum_set (tab.map (fun r => r.count true)) i (row.count true) (by simpa using hi)
  unfold mu
  rw [List.map_set, List.getD_eq_getElem?_getD, List.getElem?_eq_getElem hi]
  simpa using this
theorem orRow_le : ∀ (a b : List Bool), a.length = b.length → a.count true ≤ (orRow a b).count true ∧ (¬ a.count true < (orRow a b).count true → orRow a b = a)
  | [], [], _ => by simp [orRow]
  | [], _ :: _, h => by simp at h
  | _ :: _, [], h => by simp at h
  | x :: a, y :: b, h => by
    obtain ⟨h1, h2⟩ := orRow_le a b (by simpa using h)
    have e : orRow (x :: a) (y :: b) = (x || y) :: orRow a b := rfl
    rw [e]
    have key : ∀ (m p : Nat), (m ≤ p) → (¬ m < p → orRow a b = a) → ∀ z : Bool, (m + (if z == true then 1 else 0) ≤ p + (if (z || y) == true then 1 else 0)) ∧ (¬ m + (if z == true then 1 else 0) < p + (if (z || y) == true then 1 else 0) → (z || y) :: orRow a b = z :: a) := by
      intro m p h1 h2 z
      cases z <;> cases y
      all_goals
        constructor
        · simp
          try omega
        · intro hh
          simp at hh
          try simp
          first | exact h2 (by omega) | omega
    rw [List.count_cons, List.count_cons]
    exact key _ _ h1 h2 x
/-- Sets that hold nothing but what P allows. -/
structure TabQ (n wd : Nat) (P : Nat → Nat → Prop) (tab : List (List Bool)) : Prop where
  len : tab.length = n
  rl : ∀ i, i < n → (tab.getD i []).length = wd
  snd : ∀ i c, getT tab i c = true → P i c
theorem getD_set_row (tab : List (List Bool)) (i j : Nat) (row : List Bool) (hi : i < tab.length) : (tab.set i row).getD j [] = if i = j then row else tab.getD j [] := by
  rw [List.getD_eq_getElem?_getD, List.getElem?_set]
  by_cases e : i = j
  · subst e; simp [hi]
  · rw [if_neg e, if_neg e, List.getD_eq_getElem?_getD]
theorem TabQ.mu_le {n wd : Nat} {P : Nat → Nat → Prop} {tab : List (List Bool)} (h : TabQ n wd P tab) : mu tab ≤ n * wd := by
  unfold mu
  have := sum_bound (tab.map (fun r => r.count true)) wd (fun x hx => by
    obtain ⟨r, hr, rfl⟩ := List.mem_map.1 hx
    obtain ⟨i, hi, rfl⟩ := List.getElem_of_mem hr
    have h2 := h.rl i (by rw [← h.len]; exact hi)
    rw [List.getD_eq_getElem?_getD, List.getElem?_eq_getElem hi] at h2
    simp only [Option.getD_some] at h2
    exact h2 ▸ List.count_le_length)
  rw [List.length_map, h.len] at this
  exact this
theorem TabQ.zero (n wd : Nat) (P : Nat → Nat → Prop) : TabQ n wd P (noSets n wd) := by
  refine ⟨by simp [noSets], fun i hi => by simp [noSets, List.getD_eq_getElem?_getD, List.getElem?_replicate, hi], fun i c h => ?_⟩
  unfold getT noSets at h
  rw [List.getD_eq_getElem?_getD (l := List.replicate n _), List.getElem?_replicate] at h
  split at h
  · simp only [Option.getD_some] at h
    rw [List.getD_eq_getElem?_getD, List.getElem?_replicate] at h
    split at h <;> cases h
  · simp at h
theorem addTo_spec {n wd : Nat} {P : Nat → Nat → Prop} {tab : List (List Bool)} (h : TabQ n wd P tab) {i : Nat} (hi : i < n) {row : List Bool} (hr : row.length = wd) (hp : ∀ c, row.getD c false = true → P i c) :
    TabQ n wd P (addTo tab i row).1 ∧ (((addTo tab i row).2 = true ∧ mu tab < mu (addTo tab i row).1) ∨ ((addTo tab i row).2 = false ∧ (addTo tab i row).1 = tab ∧ ∀ c, row.getD c false = true → getT tab i c = true)) := by
  have hl := h.rl i hi
  have hlen : (tab.getD i []).length = row.length := by rw [hl, hr]
  obtain ⟨c1, c2⟩ := orRow_le (tab.getD i []) row hlen
  have hil : i < tab.length := by rw [h.len]; exact hi
  have hmu := mu_set tab i (orRow (tab.getD i []) row) hil
  refine ⟨⟨by simp [addTo, h.len], fun j hj => ?_, fun j c hc => ?_⟩, ?_⟩
  · show ((tab.set i (orRow (tab.getD i []) row)).getD j []).length = wd
    rw [getD_set_row _ _ _ _ hil]
    split
    · rw [orRow_length _ _ hlen]; exact hl
    · exact h.rl j hj
  · have hc' : ((tab.set i (orRow (tab.getD i []) row)).getD j []).getD c false = true := hc
    rw [getD_set_row _ _ _ _ hil] at hc'
    split at hc'
    · rename_i e
      subst e
      rw [orRow_get _ _ hlen, Bool.or_eq_true] at hc'
      rcases hc' with e | e
      · exact h.snd i c e
      · exact hp c e
    · exact h.snd j c hc'
  · by_cases hlt : (tab.getD i []).count true < (orRow (tab.getD i []) row).count true
    · refine .inl ⟨decide_eq_true hlt, ?_⟩
      show mu tab < mu (tab.set i (orRow (tab.getD i []) row))
      omega
    · have he := c2 hlt
      refine .inr ⟨decide_eq_false hlt, ?_, fun c hc => ?_⟩
      · show tab.set i (orRow (tab.getD i []) row) = tab
        rw [he, List.getD_eq_getElem?_getD, List.getElem?_eq_getElem hil]
        simp
      · unfold getT
        rw [← he, orRow_get _ _ hlen, hc, Bool.or_true]
theorem okSym_false (bs : List Bool) : okSym false bs = nullSym bs := by
  funext x
  simp [okSym, nullSym]
/-- What the symbols begin with. -/
theorem beg_mem {tab : List (List Bool)} {null : List Bool} {n wd : Nat} (ht : ∀ i, i < n → (tab.getD i []).length = wd) : ∀ (l : List Int) (acc : List Bool), (∀ x ∈ l, x < 0 → -1 - x < n) → (∀ x ∈ l, 0 ≤ x → (x + 1).toNat < wd) → acc.length = wd → ∀ c,
    ((beg tab null l acc).1.getD c false = true ↔ acc.getD c false = true ∨ ∃ k, ∃ hk : k < l.length, (l.take k).all (nullSym null) = true ∧ ((0 ≤ l[k] ∧ (l[k] + 1).toNat = c) ∨ (l[k] < 0 ∧ getT tab (-1 - l[k]).toNat c = true)))
  | [], acc, _, _, _, c => by
    rw [beg]
    constructor
    · exact .inl
    · rintro (h | ⟨k, hk, _⟩)
      · exact h
      · simp at hk
  | x :: l, acc, hx, hw, ha, c => by
    rw [beg]
    by_cases h0 : 0 ≤ x
    · have hxw := hw x (by simp) h0
      rw [if_pos h0]
      show (acc.set (x + 1).toNat true).getD c false = true ↔ _
      rw [getD_set_b _ _ _ (by rw [ha]; exact hxw), Bool.or_eq_true, decide_eq_true_eq]
      constructor
      · rintro (e | e)
        · exact .inr ⟨0, by simp, by simp, .inl ⟨h0, e⟩⟩
        · exact .inl e
      · rintro (e | ⟨k, hk, hn, hh⟩)
        · exact .inr e
        · cases k with
          | zero =>
            rcases hh with ⟨_, e⟩ | ⟨e, _⟩
            · exact .inl e
            · simp at e; omega
          | succ k =>
            rw [List.take_succ_cons, List.all_cons, Bool.and_eq_true] at hn
            simp [nullSym] at hn
            omega
    · have hk1 := hx x (by simp) (by omega)
      have hl : (orRow acc (tab.getD (-1 - x).toNat [])).length = wd := by rw [orRow_length _ _ (by rw [ha, ht _ (by omega)]), ha]
      have hor : ∀ c, (orRow acc (tab.getD (-1 - x).toNat [])).getD c false = (acc.getD c false || getT tab (-1 - x).toNat c) := fun c => orRow_get _ _ (by rw [ha, ht _ (by omega)]) c
      rw [if_neg h0]
      by_cases hn : rdOf false null (-1 - x) = true
      · rw [if_pos hn, beg_mem ht l _ (fun y hy => hx y (by simp [hy])) (fun y hy => hw y (by simp [hy])) hl c, hor, Bool.or_eq_true]
        constructor
        · rintro ((e | e) | ⟨k, hk, hn2, hh⟩)
          · exact .inl e
          · exact .inr ⟨0, by simp, by simp, .inr ⟨by simp; omega, by simpa using e⟩⟩
          · refine .inr ⟨k + 1, by simpa using hk, ?_, by simpa using hh⟩
            rw [List.take_succ_cons, List.all_cons, hn2, Bool.and_true]
            simp [nullSym, hn]
            omega
        · rintro (e | ⟨k, hk, hn2, hh⟩)
          · exact .inl (.inl e)
          · cases k with
            | zero =>
              rcases hh with ⟨e, _⟩ | ⟨_, e⟩
              · simp at e; omega
              · exact .inl (.inr (by simpa using e))
            | succ k =>
              rw [List.take_succ_cons, List.all_cons, Bool.and_eq_true] at hn2
              exact .inr ⟨k, by simpa using hk, hn2.2, by simpa using hh⟩
      · rw [if_neg hn]
        show (orRow acc (tab.getD (-1 - x).toNat [])).getD c false = true ↔ _
        rw [hor, Bool.or_eq_true]
        constructor
        · rintro (e | e)
          · exact .inl e
          · exact .inr ⟨0, by simp, by simp, .inr ⟨by simp; omega, by simpa using e⟩⟩
        · rintro (e | ⟨k, hk, hn2, hh⟩)
          · exact .inl e
          · cases k with
            | zero =>
              rcases hh with ⟨e, _⟩ | ⟨_, e⟩
              · simp at e; omega
              · exact .inr (by simpa using e)
            | succ k =>
              rw [List.take_succ_cons, List.all_cons, Bool.and_eq_true] at hn2
              simp [nullSym, hn] at hn2
theorem beg_all {tab : List (List Bool)} {null : List Bool} : ∀ (l : List Int) (acc : List Bool), (beg tab null l acc).2 = l.all (nullSym null)
  | [], acc => rfl
  | x :: l, acc => by
    rw [beg, List.all_cons]
    by_cases h0 : 0 ≤ x
    · rw [if_pos h0]
      simp [nullSym]
      omega
    · rw [if_neg h0]
      by_cases hn : rdOf false null (-1 - x) = true
      · rw [if_pos hn, beg_all l]
        simp [nullSym, hn]
        omega
      · rw [if_neg hn]
        simp [nullSym, hn]
theorem rep_false (n c : Nat) : ¬ (List.replicate n false).getD c false = true := by
  rw [List.getD_eq_getElem?_getD, List.getElem?_replicate]
  split <;> simp
theorem ix_inj {t i j a b : Nat} (ha : a < t) (hb : b < t) (h : i * t + a = j * t + b) : i = j ∧ a = b := by
  have h1 : (i * t + a) / t = (j * t + b) / t := by rw [h]
  have h2 : (i * t + a) % t = (j * t + b) % t := by rw [h]
  rw [Nat.mul_comm i, Nat.mul_comm j, Nat.mul_add_div (by omega), Nat.mul_add_div (by omega), Nat.div_eq_of_lt ha, Nat.div_eq_of_lt hb] at h1
  rw [Nat.mul_comm i, Nat.mul_comm j, Nat.mul_add_mod, Nat.mul_add_mod, Nat.mod_eq_of_lt ha, Nat.mod_eq_of_lt hb] at h2
  exact ⟨by omega, h2⟩
theorem ix_lt {t n i a : Nat} (hi : i < n) (ha : a < t) : i * t + a < n * t := by
  have := Nat.mul_le_mul_right t (show i + 1 ≤ n from hi)
  rw [Nat.succ_mul] at this
  omega
theorem ix_w {t a : Nat} {h : Int} (h0 : 0 ≤ h) (h1 : h ≤ 1000) (ht : t ≤ 1001) (ha : a ≤ t) : wrap64 (wrap64 (h * (t : Int)) + (a : Int)) = ((h.toNat * t + a : Nat) : Int) := by
  obtain ⟨i, rfl⟩ := Int.eq_ofNat_of_zero_le h0
  have := Nat.mul_le_mul (show i ≤ 1000 by omega) ht
  rw [Int.toNat_natCast, ← Int.natCast_mul]
  unfold wrap64
  omega
theorem getD_at (l : List Int) (i : Nat) (h : i < l.length) : l.getD i 0 = l[i] := by rw [List.getD_eq_getElem?_getD, List.getElem?_eq_getElem h]; rfl
end Go.Proofs.Ytkaedhooccpniaa.Hand
/- First, plain Lean: the program's sets. -/
namespace Go.Proofs.Ytkaedhooccpniaa.Hand
open Go.RowKit Go.Proofs.YtkaedhooccpniaaW.PrintWords Go.Proofs.YtkaedhooccpniaaW.PrintLast Go.Proofs.YtkaedhooccpniaaW.PrintMore Go.Proofs.Ytkaedhooccpniaa.PA
set_option linter.unusedVariables false
set_option linter.unusedSimpArgs false
/-- Terminal a may begin nonterminal A. -/
inductive Fst (null : List Bool) (rules : List S41) : Int → Int → Prop
  | mk {r : S41} {k : Nat} {a : Int} : r ∈ rules → (hk : k < r.f1.length) → (r.f1.take k).all (nullSym null) = true → 0 ≤ a → (0 ≤ r.f1[k] → r.f1[k] = a) → (r.f1[k] < 0 → Fst null rules (-1 - r.f1[k]) a) → Fst null rules r.f0 a
def FirP (null : List Bool) (rules : List S41) (i c : Nat) : Prop := 1 ≤ c ∧ Fst null rules i ((c : Int) - 1)
theorem Fst.lt {null : List Bool} {t n : Nat} {st : Int} {rules : List S41} (hg : GV t n st rules) {A a : Int} (h : Fst null rules A a) : 0 ≤ A ∧ A < n ∧ 0 ≤ a ∧ a < t := by
  induction h with
  | @mk r k a hr hk hn h0 ht hs ih =>
    have hh := hg.head r hr
    refine ⟨hh.1, hh.2, h0, ?_⟩
    by_cases hy : 0 ≤ r.f1[k]
    · rw [← ht hy]
      exact (hg.sym r hr _ (List.getElem_mem hk)).2
    · exact (ih (by omega)).2.2.2
structure FsL (t n : Nat) (null : List Bool) (rules : List S41) (tab : List (List Bool)) : Prop where
  q : TabQ n (t + 1) (FirP null rules) tab
  all : ∀ A a, Fst null rules A a → getT tab A.toNat (a + 1).toNat = true
theorem FsL.iff {t n : Nat} {null : List Bool} {rules : List S41} {tab : List (List Bool)} (h : FsL t n null rules tab) (i c : Nat) : getT tab i c = true ↔ 1 ≤ c ∧ Fst null rules i ((c : Int) - 1) := by
  refine ⟨h.q.snd i c, fun ⟨h1, h2⟩ => ?_⟩
  have := h.all _ _ h2
  rwa [Int.toNat_natCast, show ((c : Int) - 1 + 1).toNat = c by omega] at this
theorem first_pure {t n : Nat} {st : Int} {rules : List S41} {null : List Bool} (hg : GV t n st rules) : ∃ tab, Ev (fun k => run (firstStep (t + 1) null) rules k (noSets n (t + 1))) tab ∧ FsL t n null rules tab := by
  have hspec : ∀ s r, r ∈ rules → TabQ n (t + 1) (FirP null rules) s → ∀ c, ((beg s null r.f1 (List.replicate (t + 1) false)).1.getD c false = true ↔ ∃ k, ∃ hk : k < r.f1.length, (r.f1.take k).all (nullSym null) = true ∧ ((0 ≤ r.f1[k] ∧ (r.f1[k] + 1).toNat = c) ∨ (r.f1[k] < 0 ∧ getT s (-1 - r.f1[k]).toNat c = true))) := by
    intro s r hr hs c
    have hsy := hg.sym r hr
    rw [beg_mem (n := n) hs.rl r.f1 _ (fun x hx h0 => by have := hsy x hx; omega) (fun x hx h0 => by have := hsy x hx; omega) (by simp) c]
    constructor
    · rintro (h | h)
      · exact absurd h (rep_false _ _)
      · exact h
    · exact .inr
  have hone : ∀ s r, r ∈ rules → TabQ n (t + 1) (FirP null rules) s → _ := fun s r hr hs => by
    have hh := hg.head r hr
    have hsy := hg.sym r hr
    exact addTo_spec hs (i := r.f0.toNat) (by omega) (row := (beg s null r.f1 (List.replicate (t + 1) false)).1) (beg_length hs.rl _ _ (fun x hx h0 => by have := hsy x hx; omega) (by simp)) (fun c hc => by
      obtain ⟨k, hk, hn, hh2⟩ := (hspec s r hr hs c).1 hc
      have hm := hsy _ (List.getElem_mem hk)
      rw [FirP, Int.toNat_of_nonneg hh.1]
      rcases hh2 with ⟨h0, rfl⟩ | ⟨h0, hq⟩
      · refine ⟨by omega, ?_⟩
        rw [show (((r.f1[k] + 1).toNat : Nat) : Int) - 1 = r.f1[k] by omega]
        exact .mk hr hk hn h0 (fun _ => rfl) (fun h => by omega)
      · obtain ⟨q1, q2⟩ := hs.snd _ _ hq
        rw [Int.toNat_of_nonneg (by omega)] at q2
        exact ⟨q1, .mk hr hk hn (by omega) (fun h => by omega) (fun _ => q2)⟩)
  obtain ⟨tab, h1, h2, h3⟩ := run_ex (step := firstStep (t + 1) null) (rules := rules) (TabQ n (t + 1) (FirP null rules)) mu (n * (t + 1))
    (fun s r hr hs => (hone s r hr hs).1)
    (fun s r hr hs h => by
      rcases (hone s r hr hs).2 with ⟨_, e⟩ | ⟨e, _⟩
      · exact e
      · exact absurd (h.symm.trans e) (by simp))
    (fun s r hr hs h => by
      rcases (hone s r hr hs).2 with ⟨e, _⟩ | ⟨_, e, _⟩
      · exact absurd (h.symm.trans e) (by simp)
      · exact e)
    (fun s hs => hs.mu_le) _ _ (TabQ.zero n (t + 1) _) (Nat.le_refl _)
  refine ⟨tab, h1, h2, fun A a h => ?_⟩
  induction h with
  | @mk r k a hr hk hn h0 ht hs ih =>
    have hd : ∀ c, (beg tab null r.f1 (List.replicate (t + 1) false)).1.getD c false = true → getT tab r.f0.toNat c = true := by
      rcases (hone tab r hr h2).2 with ⟨e, _⟩ | ⟨_, _, e⟩
      · exact absurd ((h3 r hr).symm.trans e) (by simp)
      · exact e
    refine hd _ ((hspec tab r hr h2 _).2 ⟨k, hk, hn, ?_⟩)
    by_cases hy : 0 ≤ r.f1[k]
    · exact .inl ⟨hy, by rw [ht hy]⟩
    · exact .inr ⟨by omega, ih (by omega)⟩
end Go.Proofs.Ytkaedhooccpniaa.Hand
/- Follow, plain Lean: the program's sets. -/
namespace Go.Proofs.Ytkaedhooccpniaa.Hand
open Go.RowKit Go.Proofs.YtkaedhooccpniaaW.PrintWords Go.Proofs.YtkaedhooccpniaaW.PrintLast Go.Proofs.YtkaedhooccpniaaW.PrintMore Go.Proofs.Ytkaedhooccpniaa.PA
set_option linter.unusedVariables false
set_option linter.unusedSimpArgs false
/-- a may stand behind nonterminal A; -1 is the end. -/
inductive Fol (null : List Bool) (st : Int) (rules : List S41) : Int → Int → Prop
  | start : Fol null st rules st (-1)
  | beg {r : S41} {i k : Nat} {a : Int} : r ∈ rules → (hi : i < r.f1.length) → r.f1[i] < 0 → (hk : k < (r.f1.drop (i + 1)).length) → ((r.f1.drop (i + 1)).take k).all (nullSym null) = true → 0 ≤ a → (0 ≤ (r.f1.drop (i + 1))[k] → (r.f1.drop (i + 1))[k] = a) → ((r.f1.drop (i + 1))[k] < 0 → Fst null rules (-1 - (r.f1.drop (i + 1))[k]) a) → Fol null st rules (-1 - r.f1[i]) a
  | fol {r : S41} {i : Nat} {a : Int} : r ∈ rules → (hi : i < r.f1.length) → r.f1[i] < 0 → (r.f1.drop (i + 1)).all (nullSym null) = true → Fol null st rules r.f0 a → Fol null st rules (-1 - r.f1[i]) a
theorem Fol.lt {null : List Bool} {t n : Nat} {st : Int} {rules : List S41} (hg : GV t n st rules) {A a : Int} (h : Fol null st rules A a) : 0 ≤ A ∧ A < n ∧ -1 ≤ a ∧ a < t := by
  induction h with
  | start => have := hg.st0; have := hg.st1; omega
  | @beg r i k a hr hi hx hk hn h0 ht hs =>
    have hsy := hg.sym r hr
    have h1 := hsy _ (List.getElem_mem hi)
    refine ⟨by omega, by omega, by omega, ?_⟩
    by_cases hy : 0 ≤ (r.f1.drop (i + 1))[k]
    · rw [← ht hy]
      exact (hsy _ (List.mem_of_mem_drop (List.getElem_mem hk))).2
    · exact (Fst.lt hg (hs (by omega))).2.2.2
  | @fol r i a hr hi hx hn _ ih =>
    have h1 := hg.sym r hr _ (List.getElem_mem hi)
    exact ⟨by omega, by omega, ih.2.2⟩
def FolP (null : List Bool) (st : Int) (rules : List S41) (i c : Nat) : Prop := Fol null st rules i ((c : Int) - 1)
theorem addTo_mono {tab : List (List Bool)} {i : Nat} {row : List Bool} (hi : i < tab.length) (hl : (tab.getD i []).length = row.length) {j c : Nat} (h : getT tab j c = true) : getT (addTo tab i row).1 j c = true := by
  show ((tab.set i (orRow (tab.getD i []) row)).getD j []).getD c false = true
  rw [getD_set_row _ _ _ _ hi]
  split
  · rename_i e
    subst e
    rw [orRow_get _ _ hl, show (tab.getD i []).getD c false = true from h, Bool.true_or]
  · exact h
def FolQ (t n : Nat) (null : List Bool) (st : Int) (rules : List S41) (tab : List (List Bool)) : Prop := TabQ n (t + 1) (FolP null st rules) tab ∧ getT tab st.toNat 0 = true
def FolD (t : Nat) (null : List Bool) (ftab : List (List Bool)) (r : S41) (tab : List (List Bool)) (i : Nat) : Prop :=
  r.f1.getD i 0 < 0 → (∀ c, (beg ftab null (r.f1.drop (i + 1)) (List.replicate (t + 1) false)).1.getD c false = true → getT tab (-1 - r.f1.getD i 0).toNat c = true) ∧ ((r.f1.drop (i + 1)).all (nullSym null) = true → ∀ c, getT tab r.f0.toNat c = true → getT tab (-1 - r.f1.getD i 0).toNat c = true)
theorem folBeg {t n : Nat} {st : Int} {rules : List S41} {null : List Bool} {ftab : List (List Bool)} (hg : GV t n st rules) (hf : FsL t n null rules ftab) {r : S41} (hr : r ∈ rules) (i : Nat) (c : Nat) :
    (beg ftab null (r.f1.drop (i + 1)) (List.replicate (t + 1) false)).1.getD c false = true ↔ ∃ k, ∃ hk : k < (r.f1.drop (i + 1)).length, ((r.f1.drop (i + 1)).take k).all (nullSym null) = true ∧ ((0 ≤ (r.f1.drop (i + 1))[k] ∧ ((r.f1.drop (i + 1))[k] + 1).toNat = c) ∨ ((r.f1.drop (i + 1))[k] < 0 ∧ 1 ≤ c ∧ Fst null rules (-1 - (r.f1.drop (i + 1))[k]) ((c : Int) - 1))) := by
  have hsy : ∀ x ∈ r.f1.drop (i + 1), -(n : Int) ≤ x ∧ x < t := fun x hx => hg.sym r hr x (List.mem_of_mem_drop hx)
  rw [beg_mem (n := n) hf.q.rl _ _ (fun x hx h0 => by have := hsy x hx; omega) (fun x hx h0 => by have := hsy x hx; omega) (by simp) c]
  constructor
  · rintro (h | ⟨k, hk, hn, h⟩)
    · exact absurd h (rep_false _ _)
    · refine ⟨k, hk, hn, ?_⟩
      rcases h with h | ⟨h0, h⟩
      · exact .inl h
      · have := (hf.iff _ _).1 h
        rw [Int.toNat_of_nonneg (by omega)] at this
        exact .inr ⟨h0, this⟩
  · rintro ⟨k, hk, hn, h⟩
    refine .inr ⟨k, hk, hn, ?_⟩
    rcases h with h | ⟨h0, h⟩
    · exact .inl h
    · refine .inr ⟨h0, (hf.iff _ _).2 ?_⟩
      rw [Int.toNat_of_nonneg (by omega)]
      exact h
theorem folAt_adds {t n : Nat} {st : Int} {rules : List S41} {null : List Bool} {ftab : List (List Bool)} (hg : GV t n st rules) (hf : FsL t n null rules ftab) {r : S41} (hr : r ∈ rules) {i : Nat} (hi : i < r.f1.length) :
    Adds (FolQ t n null st rules) mu (folAt (t + 1) null ftab r) (FolD t null ftab r) i := by
  intro s b hs
  have hsy := hg.sym r hr
  have hh := hg.head r hr
  have hm := hsy _ (List.getElem_mem hi)
  have e1 : r.f1.getD i 0 = r.f1[i] := by rw [List.getD_eq_getElem?_getD, List.getElem?_eq_getElem hi]; rfl
  by_cases h0 : 0 ≤ r.f1.getD i 0
  · rw [folAt, if_pos h0]
    exact ⟨hs, .inr ⟨rfl, fun h => by omega⟩⟩
  · have hB : (-1 - r.f1.getD i 0).toNat < n := by rw [e1]; omega
    have hbl : (beg ftab null (r.f1.drop (i + 1)) (List.replicate (t + 1) false)).1.length = t + 1 := beg_length hf.q.rl _ _ (fun x hx h0 => by have := hsy x (List.mem_of_mem_drop hx); omega) (by simp)
    have hcast : (((-1 - r.f1.getD i 0).toNat : Nat) : Int) = -1 - r.f1[i] := by rw [e1]; omega
    obtain ⟨q1, k1⟩ := addTo_spec hs.1 hB hbl (fun c hc => by
      obtain ⟨k, hk, hn, hh2⟩ := (folBeg hg hf hr i c).1 hc
      rw [FolP, hcast]
      rcases hh2 with ⟨g0, rfl⟩ | ⟨g0, g1, g2⟩
      · rw [show ((((r.f1.drop (i + 1))[k] + 1).toNat : Nat) : Int) - 1 = (r.f1.drop (i + 1))[k] by omega]
        exact .beg hr hi (by omega) hk hn g0 (fun _ => rfl) (fun h => by omega)
      · exact .beg hr hi (by omega) hk hn (by omega) (fun h => by omega) (fun _ => g2))
    have q2 : getT (addTo s (-1 - r.f1.getD i 0).toNat (beg ftab null (r.f1.drop (i + 1)) (List.replicate (t + 1) false)).1).1 st.toNat 0 = true := addTo_mono (by rw [hs.1.len]; exact hB) (by rw [hs.1.rl _ hB, hbl]) hs.2
    rw [folAt, if_neg h0]
    simp only [beg_all, FolD]
    have hcl := (folBeg hg hf hr i)
    generalize (beg ftab null (r.f1.drop (i + 1)) (List.replicate (t + 1) false)).1 = row at q1 k1 q2 hbl hcl
    by_cases ha : (r.f1.drop (i + 1)).all (nullSym null) = true
    · rw [if_pos ha]
      have hrl := q1.rl r.f0.toNat (by omega)
      obtain ⟨p1, j1⟩ := addTo_spec q1 hB hrl (fun c hc => by
        have := q1.snd r.f0.toNat c hc
        rw [FolP, Int.toNat_of_nonneg hh.1] at this
        rw [FolP, hcast]
        exact .fol hr hi (by omega) ha this)
      have p2 : getT (addTo (addTo s (-1 - r.f1.getD i 0).toNat row).1 (-1 - r.f1.getD i 0).toNat ((addTo s (-1 - r.f1.getD i 0).toNat row).1.getD r.f0.toNat [])).1 st.toNat 0 = true := addTo_mono (by rw [q1.len]; exact hB) (by rw [q1.rl _ hB, hrl]) q2
      refine ⟨⟨p1, p2⟩, ?_⟩
      rcases j1 with ⟨f1, f2⟩ | ⟨f1, f2, f3⟩
      · refine .inl ⟨by rw [f1]; rfl, Nat.lt_of_le_of_lt ?_ f2⟩
        rcases k1 with ⟨_, e⟩ | ⟨_, e, _⟩
        · exact Nat.le_of_lt e
        · rw [e]; exact Nat.le_refl _
      · rcases k1 with ⟨g1, g2⟩ | ⟨g1, g2, g3⟩
        · refine .inl ⟨by rw [g1]; simp, ?_⟩
          show mu s < mu (addTo _ _ _).1
          rw [f2]
          exact g2
        · refine .inr ⟨?_, fun _ => ⟨g3, fun _ c hc => ?_⟩⟩
          · rw [f1, g1, f2, g2]; simp
          · rw [g2] at f3
            exact f3 c hc
    · rw [if_neg ha]
      refine ⟨⟨q1, q2⟩, ?_⟩
      rcases k1 with ⟨g1, g2⟩ | ⟨g1, g2, g3⟩
      · exact .inl ⟨by rw [g1]; rfl, g2⟩
      · refine .inr ⟨?_, fun _ => ⟨g3, fun h => absurd h ha⟩⟩
        rw [g1, g2]; simp
structure FoL (t n : Nat) (null : List Bool) (st : Int) (rules : List S41) (tab : List (List Bool)) : Prop where
  q : TabQ n (t + 1) (FolP null st rules) tab
  all : ∀ A a, Fol null st rules A a → getT tab A.toNat (a + 1).toNat = true
theorem FoL.iff {t n : Nat} {null : List Bool} {st : Int} {rules : List S41} {tab : List (List Bool)} (h : FoL t n null st rules tab) (i c : Nat) : getT tab i c = true ↔ Fol null st rules i ((c : Int) - 1) := by
  refine ⟨h.q.snd i c, fun h2 => ?_⟩
  have := h.all _ _ h2
  rwa [Int.toNat_natCast, show ((c : Int) - 1 + 1).toNat = c by omega] at this
theorem folInit_q {t n : Nat} {st : Int} {rules : List S41} {null : List Bool} (hg : GV t n st rules) : FolQ t n null st rules (folInit n (t + 1) st) := by
  have h0 := hg.st0
  have h1 := hg.st1
  have hz := TabQ.zero n (t + 1) (FolP null st rules)
  have hst : st.toNat < n := by omega
  have hl := hz.rl st.toNat hst
  have key : ∀ j c, getT (folInit n (t + 1) st) j c = true ↔ (j = st.toNat ∧ c = 0) := by
    intro j c
    unfold folInit
    show (((noSets n (t + 1)).set st.toNat _).getD j []).getD c false = true ↔ _
    rw [getD_set_row _ _ _ _ (by rw [hz.len]; exact hst)]
    have hno : ∀ i c, getT (noSets n (t + 1)) i c = false := fun i c => by
      cases h : getT (noSets n (t + 1)) i c with
      | false => rfl
      | true => exact absurd ((TabQ.zero n (t + 1) (fun _ _ => False)).snd i c h) (fun h => h)
    split
    · rename_i e
      subst e
      rw [getD_set_b _ _ _ (by rw [hl]; omega), show ((noSets n (t + 1)).getD st.toNat []).getD c false = false from hno _ _, Bool.or_false, decide_eq_true_eq]
      constructor
      · rintro rfl; exact ⟨rfl, rfl⟩
      · rintro ⟨_, rfl⟩; rfl
    · rename_i e
      rw [show ((noSets n (t + 1)).getD j []).getD c false = false from hno _ _]
      constructor
      · intro h; cases h
      · rintro ⟨rfl, _⟩; exact absurd rfl e
  refine ⟨⟨?_, fun i hi => ?_, fun i c h => ?_⟩, (key _ _).2 ⟨rfl, rfl⟩⟩
  · simp [folInit, noSets]
  · unfold folInit
    rw [getD_set_row _ _ _ _ (by rw [hz.len]; exact hst)]
    split
    · rw [List.length_set]; exact hl
    · exact hz.rl i hi
  · obtain ⟨rfl, rfl⟩ := (key _ _).1 h
    rw [FolP, Int.toNat_of_nonneg h0]
    exact .start
theorem fol_pure {t n : Nat} {st : Int} {rules : List S41} {null : List Bool} {ftab : List (List Bool)} (hg : GV t n st rules) (hf : FsL t n null rules ftab) : ∃ tab, Ev (fun k => run (folStep (t + 1) null ftab) rules k (folInit n (t + 1) st)) tab ∧ FoL t n null st rules tab := by
  have hone : ∀ s r, r ∈ rules → FolQ t n null st rules s → _ := fun s r hr hs => fold_adds (List.range r.f1.length) (fun i hi => folAt_adds hg hf hr (by simpa using hi)) s false hs
  obtain ⟨tab, h1, h2, h3⟩ := run_ex (step := folStep (t + 1) null ftab) (rules := rules) (FolQ t n null st rules) mu (n * (t + 1))
    (fun s r hr hs => (hone s r hr hs).1)
    (fun s r hr hs h => by
      rcases (hone s r hr hs).2 with ⟨_, e⟩ | ⟨e, _⟩
      · exact e
      · exact absurd (h.symm.trans (congrArg Prod.snd e)) (by simp))
    (fun s r hr hs h => by
      rcases (hone s r hr hs).2 with ⟨e, _⟩ | ⟨e, _⟩
      · exact absurd (h.symm.trans e) (by simp)
      · exact congrArg Prod.fst e)
    (fun s hs => hs.1.mu_le) _ _ (folInit_q hg) (Nat.le_refl _)
  refine ⟨tab, h1, h2.1, fun A a h => ?_⟩
  have hd : ∀ r ∈ rules, ∀ i, i < r.f1.length → FolD t null ftab r tab i := fun r hr i hi => by
    rcases (hone tab r hr h2).2 with ⟨e, _⟩ | ⟨_, e⟩
    · exact absurd ((h3 r hr).symm.trans e) (by simp)
    · exact e i (by simpa using hi)
  induction h with
  | start => exact h2.2
  | @beg r i k a hr hi hx hk hn h0 ht hs =>
    have e1 : r.f1.getD i 0 = r.f1[i] := by rw [List.getD_eq_getElem?_getD, List.getElem?_eq_getElem hi]; rfl
    have := (hd r hr i hi (by rw [e1]; exact hx)).1 (a + 1).toNat ((folBeg hg hf hr i _).2 ⟨k, hk, hn, by
      by_cases hy : 0 ≤ (r.f1.drop (i + 1))[k]
      · exact .inl ⟨hy, by rw [ht hy]⟩
      · exact .inr ⟨by omega, by omega, by rw [show (((a + 1).toNat : Nat) : Int) - 1 = a by omega]; exact hs (by omega)⟩⟩)
    rwa [e1] at this
  | @fol r i a hr hi hx hn _ ih =>
    have e1 : r.f1.getD i 0 = r.f1[i] := by rw [List.getD_eq_getElem?_getD, List.getElem?_eq_getElem hi]; rfl
    have := (hd r hr i hi (by rw [e1]; exact hx)).2 hn _ ih
    rwa [e1] at this
end Go.Proofs.Ytkaedhooccpniaa.Hand
