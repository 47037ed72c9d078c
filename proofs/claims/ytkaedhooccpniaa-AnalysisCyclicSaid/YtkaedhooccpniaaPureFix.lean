import Derived.Test.YtkaedhooccpniaaHandM1
import Derived.Test.YtkaedhooccpniaaHandM3
import Derived.Test.YtkaedhooccpniaaPAx9
/- Least fixed points, plain Lean: Nullable, Productive, Reachable, the program's and the reference's. -/
namespace Go.Proofs.Ytkaedhooccpniaa.Hand
open Go.RowKit Go.Proofs.YtkaedhooccpniaaW.PrintWords Go.Proofs.YtkaedhooccpniaaW.PrintLast Go.Proofs.YtkaedhooccpniaaW.PrintMore Go.Proofs.Ytkaedhooccpniaa.PA
set_option linter.unusedVariables false
set_option linter.unusedSimpArgs false
/-- With fuel enough. -/
def Ev {α : Type} (F : Nat → Option α) (a : α) : Prop := ∃ K, ∀ k, K ≤ k → F k = some a
theorem Ev.succ {α : Type} {F : Nat → Option α} {a : α} (h : Ev (fun k => F (k + 1)) a) : Ev F a := by
  obtain ⟨K, h⟩ := h
  refine ⟨K + 1, fun k hk => ?_⟩
  obtain ⟨j, rfl⟩ : ∃ j, k = j + 1 := ⟨k - 1, by omega⟩
  exact h j (by omega)
theorem Ev.const {α : Type} (a : α) : Ev (fun _ => some a) a := ⟨0, fun _ _ => rfl⟩
theorem Ev.bind {α β : Type} {A : Nat → Option α} {B : Nat → α → Option β} {a : α} {b : β} (h : Ev A a) (k : Ev (fun k => B k a) b) : Ev (fun k => (A k).bind (B k)) b := by
  obtain ⟨K, h⟩ := h
  obtain ⟨L, k⟩ := k
  refine ⟨max K L, fun j hj => ?_⟩
  show (A j).bind (B j) = some b
  rw [h j (by omega)]
  exact k j (by omega)
theorem Ev.get {α : Type} {F : Nat → Option α} {a : α} (h : Ev F a) : ∃ k, F k = some a := by
  obtain ⟨K, h⟩ := h
  exact ⟨K, h K (Nat.le_refl _)⟩
theorem w1 (t : Nat) (h : t ≤ 1000000000000) : wrap64 ((t : Int) + 1) = ((t + 1 : Nat) : Int) := by
  unfold wrap64
  omega
/-- A grammar of moderate size. -/
structure GV (t n : Nat) (st : Int) (rules : List S41) : Prop where
  n0 : 0 < n
  n1 : n ≤ 1000
  t1 : t ≤ 1000
  st0 : 0 ≤ st
  st1 : st < n
  rl : rules.length ≤ 1000
  head : ∀ r ∈ rules, 0 ≤ r.f0 ∧ r.f0 < n
  bl : ∀ r ∈ rules, r.f1.length ≤ 1000
  sym : ∀ r ∈ rules, ∀ x ∈ r.f1, -(n : Int) ≤ x ∧ x < t
theorem GV.gok {t n : Nat} {st : Int} {rules : List S41} (h : GV t n st rules) : gokB n st rules = true := by
  have h1 := h.n0
  have h2 := h.n1
  have h3 := h.t1
  simp only [gokB, Bool.and_eq_true, decide_eq_true_eq]
  refine ⟨⟨⟨⟨h1, by omega⟩, h.st0⟩, h.st1⟩, ?_⟩
  rw [List.all_eq_true]
  intro r hr
  simp only [ruleB, Bool.and_eq_true, decide_eq_true_eq]
  refine ⟨h.head r hr, ?_⟩
  rw [List.all_eq_true]
  intro x hx
  have := h.sym r hr x hx
  simp only [symB, Bool.and_eq_true, Bool.or_eq_true, decide_eq_true_eq]
  omega
theorem scan_ex {σ : Type} {step : σ → S41 → σ × Bool} {rules : List S41} (Q : σ → Prop) (μ : σ → Nat) (hQ : ∀ s r, r ∈ rules → Q s → Q (step s r).1) (hup : ∀ s r, r ∈ rules → Q s → (step s r).2 = true → μ s < μ (step s r).1)
    (hno : ∀ s r, r ∈ rules → Q s → (step s r).2 = false → (step s r).1 = s) (s : σ) (hs : Q s) : ∀ rs, (∀ r ∈ rs, r ∈ rules) →
    ((scan step rs s).2 = true ∧ μ s < μ (scan step rs s).1 ∧ Q (scan step rs s).1) ∨ ((scan step rs s).2 = false ∧ (scan step rs s).1 = s ∧ ∀ r ∈ rs, (step s r).2 = false)
  | [], _ => .inr ⟨rfl, rfl, fun r h => by cases h⟩
  | r :: rs, h => by
    have hr := h r (by simp)
    rw [scan]
    cases hq : (step s r).2 with
    | true => rw [if_pos rfl]; exact .inl ⟨rfl, hup s r hr hs hq, hQ s r hr hs⟩
    | false =>
      rw [if_neg (by simp), hno s r hr hs hq]
      rcases scan_ex Q μ hQ hup hno s hs rs (fun r' h' => h r' (by simp [h'])) with h1 | ⟨h1, h2, h3⟩
      · exact .inl h1
      · refine .inr ⟨h1, h2, fun r' h' => ?_⟩
        rcases List.mem_cons.1 h' with rfl | h'
        · exact hq
        · exact h3 r' h'
theorem run_ex {σ : Type} {step : σ → S41 → σ × Bool} {rules : List S41} (Q : σ → Prop) (μ : σ → Nat) (M : Nat) (hQ : ∀ s r, r ∈ rules → Q s → Q (step s r).1) (hup : ∀ s r, r ∈ rules → Q s → (step s r).2 = true → μ s < μ (step s r).1)
    (hno : ∀ s r, r ∈ rules → Q s → (step s r).2 = false → (step s r).1 = s) (hM : ∀ s, Q s → μ s ≤ M) : ∀ d s, Q s → M - μ s ≤ d → ∃ s', Ev (fun k => run step rules k s) s' ∧ Q s' ∧ ∀ r ∈ rules, (step s' r).2 = false := by
  intro d
  induction d with
  | zero =>
    intro s hs hd
    have h0 := hM s hs
    rcases scan_ex Q μ hQ hup hno s hs rules (fun _ h => h) with ⟨h1, h2, h3⟩ | ⟨h1, h2, h3⟩
    · have := hM _ h3
      omega
    · refine ⟨s, Ev.succ ?_, hs, h3⟩
      simp only [run, h1, h2]
      exact Ev.const s
  | succ d ih =>
    intro s hs hd
    rcases scan_ex Q μ hQ hup hno s hs rules (fun _ h => h) with ⟨h1, h2, h3⟩ | ⟨h1, h2, h3⟩
    · obtain ⟨s', k1, k2, k3⟩ := ih _ h3 (by omega)
      refine ⟨s', Ev.succ ?_, k2, k3⟩
      simp only [run, h1, if_true]
      exact k1
    · refine ⟨s, Ev.succ ?_, hs, h3⟩
      simp only [run, h1, h2]
      exact Ev.const s
theorem rdOf_set (bs : List Bool) (i j : Int) (h0 : 0 ≤ i) (hj : 0 ≤ j) (hi : i.toNat < bs.length) : rdOf false (bs.set i.toNat true) j = (decide (i = j) || rdOf false bs j) := by
  unfold rdOf
  rw [getD_set_b _ _ _ hi]
  congr 1
  by_cases e : i = j
  · simp [e]
  · simp [e]; omega
theorem rdOf_rep (n : Nat) (i : Int) : rdOf false (List.replicate n false) i = false := by
  unfold rdOf
  rw [List.getD_eq_getElem?_getD, List.getElem?_replicate]
  split <;> rfl
theorem bools_ext {a b : List Bool} (hl : a.length = b.length) (h : ∀ i : Int, 0 ≤ i → (rdOf false a i = true ↔ rdOf false b i = true)) : a = b := by
  apply row_ext hl
  intro j _
  have := h j (by omega)
  unfold rdOf at this
  rw [Int.toNat_natCast] at this
  exact Bool.eq_iff_iff.2 this
/-- The heads that are accepted. -/
inductive Hd (tm : Bool) (rules : List S41) : Int → Prop
  | mk {r : S41} : r ∈ rules → (∀ x ∈ r.f1, 0 ≤ x → tm = true) → (∀ x ∈ r.f1, x < 0 → Hd tm rules (-1 - x)) → Hd tm rules r.f0
structure HdL (tm : Bool) (n : Nat) (rules : List S41) (bs : List Bool) : Prop where
  len : bs.length = n
  iff : ∀ i : Int, 0 ≤ i → (rdOf false bs i = true ↔ Hd tm rules i)
theorem HdL.ext {tm : Bool} {n : Nat} {rules : List S41} {a b : List Bool} (h : HdL tm n rules a) (k : HdL tm n rules b) : a = b :=
  bools_ext (h.len.trans k.len.symm) (fun i hi => (h.iff i hi).trans (k.iff i hi).symm)
structure HdS (tm : Bool) (n : Nat) (rules : List S41) (bs : List Bool) : Prop where
  len : bs.length = n
  snd : ∀ i : Int, 0 ≤ i → rdOf false bs i = true → Hd tm rules i
theorem okSym_iff {tm : Bool} {bs : List Bool} {l : List Int} : l.all (okSym tm bs) = true ↔ (∀ x ∈ l, 0 ≤ x → tm = true) ∧ (∀ x ∈ l, x < 0 → rdOf false bs (-1 - x) = true) := by
  rw [List.all_eq_true]
  constructor
  · intro h
    refine ⟨fun x hx h0 => ?_, fun x hx h0 => ?_⟩
    · have := h x hx
      simp only [okSym, Bool.or_eq_true, Bool.and_eq_true, decide_eq_true_eq] at this
      rcases this with h | h
      · exact h.2
      · omega
    · have := h x hx
      simp only [okSym, Bool.or_eq_true, Bool.and_eq_true, decide_eq_true_eq] at this
      rcases this with h | h
      · omega
      · exact h.2
  · rintro ⟨h1, h2⟩ x hx
    simp only [okSym, Bool.or_eq_true, Bool.and_eq_true, decide_eq_true_eq]
    by_cases h0 : 0 ≤ x
    · exact .inl ⟨h0, h1 x hx h0⟩
    · exact .inr ⟨by omega, h2 x hx (by omega)⟩
theorem HdS.step {tm : Bool} {t n : Nat} {st : Int} {rules : List S41} {bs : List Bool} (hg : GV t n st rules) (h : HdS tm n rules bs) {r : S41} (hr : r ∈ rules) (ha : r.f1.all (okSym tm bs) = true) : HdS tm n rules (bs.set r.f0.toNat true) := by
  have hh := hg.head r hr
  refine ⟨by rw [List.length_set]; exact h.len, fun i hi hq => ?_⟩
  rw [rdOf_set _ _ _ hh.1 hi (by rw [h.len]; omega)] at hq
  rw [Bool.or_eq_true] at hq
  rcases hq with hq | hq
  · obtain rfl := of_decide_eq_true hq
    obtain ⟨h1, h2⟩ := okSym_iff.1 ha
    exact .mk hr h1 (fun x hx h0 => h.snd _ (by omega) (h2 x hx h0))
  · exact h.snd i hi hq
theorem HdS.done {tm : Bool} {t n : Nat} {st : Int} {rules : List S41} {bs : List Bool} (hg : GV t n st rules) (h : HdS tm n rules bs) (hc : ∀ r ∈ rules, r.f1.all (okSym tm bs) = true → rdOf false bs r.f0 = true) : HdL tm n rules bs := by
  refine ⟨h.len, fun i hi => ⟨h.snd i hi, fun hh => ?_⟩⟩
  clear hi
  induction hh with
  | mk hr h1 h2 ih => exact hc _ hr (okSym_iff.2 ⟨h1, fun x hx h0 => ih x hx h0⟩)
theorem HdS.zero (tm : Bool) (n : Nat) (rules : List S41) : HdS tm n rules (List.replicate n false) := ⟨by simp, fun i _ h => by rw [rdOf_rep] at h; cases h⟩
theorem count_le {bs : List Bool} {n : Nat} (h : bs.length = n) : bs.count true ≤ n := h ▸ List.count_le_length
/-- The program's. -/
theorem heads_pure {tm : Bool} {t n : Nat} {st : Int} {rules : List S41} (hg : GV t n st rules) : ∃ bs, Ev (fun k => run (headStep tm) rules k (List.replicate n false)) bs ∧ HdL tm n rules bs := by
  have hstep : ∀ (s : List Bool) (r : S41), headStep tm s r = if rdOf false s r.f0 = true ∨ ¬ r.f1.all (okSym tm s) = true then (s, false) else (s.set r.f0.toNat true, true) := fun s r => by
    unfold headStep
    by_cases h1 : rdOf false s r.f0 = true
    · simp [h1]
    · by_cases h2 : r.f1.all (okSym tm s) = true
      · simp [h1, h2]
      · simp [h1, h2]
  have a1 : ∀ s r, r ∈ rules → HdS tm n rules s → HdS tm n rules (headStep tm s r).1 := by
    intro s r hr hs
    rw [hstep]
    split
    · exact hs
    · rename_i h
      exact hs.step hg hr (Decidable.byContradiction fun e => h (.inr e))
  have a2 : ∀ s r, r ∈ rules → HdS tm n rules s → (headStep tm s r).2 = true → s.count true < (headStep tm s r).1.count true := by
    intro s r hr hs h
    rw [hstep] at h ⊢
    split at h
    · cases h
    · rename_i hq
      rw [if_neg hq]
      have hh := hg.head r hr
      have h1 : rdOf false s r.f0 = false := by
        cases hx : rdOf false s r.f0 with
        | true => exact absurd (.inl hx) hq
        | false => rfl
      show s.count true < (s.set r.f0.toNat true).count true
      rw [count_set (by rw [hs.len]; omega) h1]
      omega
  have a3 : ∀ s r, r ∈ rules → HdS tm n rules s → (headStep tm s r).2 = false → (headStep tm s r).1 = s := by
    intro s r hr hs h
    rw [hstep] at h ⊢
    split at h
    · rename_i hq
      rw [if_pos hq]
    · cases h
  obtain ⟨bs, h1, h2, h3⟩ := run_ex (step := headStep tm) (rules := rules) (HdS tm n rules) (fun s => s.count true) n a1 a2 a3 (fun s hs => count_le hs.len) n _ (HdS.zero tm n rules) (by omega)
  refine ⟨bs, h1, h2.done hg (fun r hr ha => ?_)⟩
  have := h3 r hr
  rw [hstep] at this
  split at this
  · rename_i h
    rcases h with h | h
    · exact h
    · exact absurd ha h
  · cases this
/-- The reference's all. -/
theorem all_pure {tm : Bool} {n : Nat} {bs : List Bool} (hn : bs.length = n) (hn1 : n ≤ 1000) {l : List Int} (hl : l.length ≤ 1000) (hx : ∀ x ∈ l, -(n : Int) ≤ x ∧ x < 1000000) : Ev (fun k => emendateref21_all.f k l bs tm) (l.all (okSym tm bs)) := by
  have key : ∀ d i, i + d = l.length → Ev (fun k => emendateref21_all.l0 k l bs tm (i : Int)) ((l.drop i).all (okSym tm bs)) := by
    intro d
    induction d with
    | zero =>
      intro i hi
      refine Ev.succ ?_
      simp only [emendateref21_all.l0, if_neg (show ¬ (i : Int) < (l.length : Int) by omega)]
      rw [List.drop_eq_nil_of_le (by omega)]
      exact Ev.const true
    | succ d ih =>
      intro i hi
      have hlt : i < l.length := by omega
      refine Ev.succ ?_
      have h1 : (i : Int) < (l.length : Int) := by omega
      have h2 : (0 : Int) ≤ (i : Int) := by omega
      have hm := hx l[i] (List.getElem_mem hlt)
      have ih' := ih (i + 1) (by omega)
      simp only [emendateref21_all.l0, if_pos h1, if_pos h2, getD_rd l i hlt, w1 i (by omega)]
      rw [List.drop_eq_getElem_cons hlt, List.all_cons]
      generalize l[i] = x at hm
      by_cases h0 : x ≥ 0
      · simp only [if_pos h0, if_neg (show ¬ x < 0 by omega)]
        cases tm
        · simp only [if_neg (show ¬ false = true by simp)]
          rw [show okSym false bs x = false by simp [okSym]; omega]
          exact Ev.const false
        · simp only [if_true]
          rw [show okSym true bs x = true by simp [okSym, h0], Bool.true_and]
          exact ih'
      · have hw : wrap64 (-1 - x) = -1 - x := by unfold wrap64; omega
        simp only [if_neg h0, if_pos (show x < 0 by omega), hw, if_pos (show 0 ≤ -1 - x by omega), if_pos (show -1 - x < (bs.length : Int) by omega)]
        rw [show okSym tm bs x = rdOf false bs (-1 - x) by simp [okSym]; rw [show decide (0 ≤ x) = false by simp; omega, show decide (x < 0) = true by simp; omega]; simp]
        cases rdOf false bs (-1 - x)
        · simp only [Bool.false_and, if_neg (show ¬ false = true by simp)]
          exact Ev.const false
        · simp only [Bool.true_and, if_true]
          exact ih'
  have := key l.length 0 (by omega)
  rw [List.drop_zero] at this
  exact this
/-- The reference's fixpoint. -/
theorem fix_pure {tm : Bool} {t n : Nat} {st : Int} {rules : List S41} (l0 l1 : List ByteArray) (hl1 : l1.length = n) (hg : GV t n st rules) : ∃ bs, Ev (fun k => emendateref21_fixpoint.f k l0 l1 st rules tm) bs ∧ HdL tm n rules bs := by
  have key : ∀ m (bs : List Bool), HdS tm n rules bs → n - bs.count true ≤ m → ∃ r, Ev (fun k => emendateref21_fixpoint.l0 k tm bs true l0 l1 st rules) r ∧ HdL tm n rules r := by
    intro m
    induction m using Nat.strongRecOn with
    | _ m ihm =>
    intro bs hs hm
    have inner : ∀ d i (cs : List Bool) (ch : Bool), i + d = rules.length → HdS tm n rules cs → (ch = true → bs.count true < cs.count true) → (ch = false → cs = bs ∧ ∀ j (hj : j < rules.length), j < i → rules[j].f1.all (okSym tm bs) = true → rdOf false bs rules[j].f0 = true) →
        ∃ r, Ev (fun k => emendateref21_fixpoint.l1 k tm cs ch (i : Int) l0 l1 st rules) r ∧ HdL tm n rules r := by
      intro d
      induction d with
      | zero =>
        intro i cs ch hi hc h1 h2
        cases ch
        · obtain ⟨rfl, h3⟩ := h2 rfl
          refine ⟨cs, Ev.succ (Ev.succ ?_), hs.done hg (fun r hr ha => ?_)⟩
          · simp only [emendateref21_fixpoint.l1, if_neg (show ¬ (i : Int) < (rules.length : Int) by omega), emendateref21_fixpoint.l0]
            exact Ev.const _
          · obtain ⟨j, hj, rfl⟩ := List.getElem_of_mem hr
            exact h3 j hj (by omega) ha
        · have h3 := h1 rfl
          have h4 := count_le hc.len
          obtain ⟨r, k1, k2⟩ := ihm (n - cs.count true) (by omega) cs hc (Nat.le_refl _)
          refine ⟨r, Ev.succ ?_, k2⟩
          simp only [emendateref21_fixpoint.l1, if_neg (show ¬ (i : Int) < (rules.length : Int) by omega)]
          exact k1
      | succ d ih =>
        intro i cs ch hi hc h1 h2
        have hlt : i < rules.length := by omega
        have hlr := hg.rl
        have hmem := List.getElem_mem hlt
        have hh := hg.head _ hmem
        have hb := hg.bl _ hmem
        have hsy := hg.sym _ hmem
        have hcl := hc.len
        have g1 : (i : Int) < (rules.length : Int) := by omega
        have g2 : (0 : Int) ≤ (i : Int) := by omega
        have ht := hg.t1
        have hall := all_pure (tm := tm) hc.len hg.n1 hb (fun x hx => ⟨(hsy x hx).1, by have := (hsy x hx).2; omega⟩)
        have e1 : ∀ k, emendateref21_fixpoint.l1 (k + 1) tm cs ch (i : Int) l0 l1 st rules = if rdOf false cs rules[i].f0 = true then emendateref21_fixpoint.l1 k tm cs ch ((i + 1 : Nat) : Int) l0 l1 st rules else (emendateref21_all.f k rules[i].f1 cs tm).bind fun b => if b = true then emendateref21_fixpoint.l1 k tm (cs.set rules[i].f0.toNat true) true ((i + 1 : Nat) : Int) l0 l1 st rules else emendateref21_fixpoint.l1 k tm cs ch ((i + 1 : Nat) : Int) l0 l1 st rules := fun k => by
          simp only [emendateref21_fixpoint.l1, if_pos g1, if_pos g2, rd_T41_get rules i hlt, if_pos hh.1, if_pos (show rules[i].f0 < (cs.length : Int) by omega), w1 i (by omega)]
        by_cases hq : rdOf false cs rules[i].f0 = true
        · obtain ⟨r, k1, k2⟩ := ih (i + 1) cs ch (by omega) hc h1 (fun e => ⟨(h2 e).1, fun j hj hji ha => by
            by_cases ej : j = i
            · subst ej
              obtain ⟨rfl, _⟩ := h2 e
              exact hq
            · exact (h2 e).2 j hj (by omega) ha⟩)
          refine ⟨r, Ev.succ ?_, k2⟩
          simp only [e1, if_pos hq]
          exact k1
        · cases ha : rules[i].f1.all (okSym tm cs) with
          | true =>
            have hset := hc.step hg hmem ha
            have hcnt := count_set (row := cs) (i := rules[i].f0.toNat) (by omega) (by simpa [rdOf] using hq)
            obtain ⟨r, k1, k2⟩ := ih (i + 1) (cs.set rules[i].f0.toNat true) true (by omega) hset (fun _ => by
              rw [hcnt]
              cases ch
              · obtain ⟨rfl, _⟩ := h2 rfl; omega
              · have := h1 rfl; omega) (fun e => by cases e)
            refine ⟨r, Ev.succ ?_, k2⟩
            simp only [e1, if_neg hq]
            rw [ha] at hall
            refine Ev.bind hall ?_
            simp only [if_true]
            exact k1
          | false =>
            obtain ⟨r, k1, k2⟩ := ih (i + 1) cs ch (by omega) hc h1 (fun e => ⟨(h2 e).1, fun j hj hji ha' => by
              by_cases ej : j = i
              · subst ej
                obtain ⟨rfl, _⟩ := h2 e
                rw [ha] at ha'
                cases ha'
              · exact (h2 e).2 j hj (by omega) ha'⟩)
            refine ⟨r, Ev.succ ?_, k2⟩
            simp only [e1, if_neg hq]
            rw [ha] at hall
            refine Ev.bind hall ?_
            simp only [if_neg (show ¬ false = true by simp)]
            exact k1
    obtain ⟨r, k1, k2⟩ := inner rules.length 0 bs false (by omega) hs (fun e => by cases e) (fun _ => ⟨rfl, fun j _ h => absurd h (Nat.not_lt_zero _)⟩)
    refine ⟨r, Ev.succ ?_, k2⟩
    simp only [emendateref21_fixpoint.l0, if_true]
    exact k1
  have hn1 := hg.n1
  obtain ⟨r, k1, k2⟩ := key n _ (HdS.zero tm n rules) (by omega)
  refine ⟨r, ?_, k2⟩
  simp only [emendateref21_fixpoint.f, if_pos (show (0 : Int) ≤ (l1.length : Int) by omega), Int.toNat_natCast, if_pos (show l1.length ≤ 281474976710656 by omega)]
  rw [hl1]
  exact k1
end Go.Proofs.Ytkaedhooccpniaa.Hand
