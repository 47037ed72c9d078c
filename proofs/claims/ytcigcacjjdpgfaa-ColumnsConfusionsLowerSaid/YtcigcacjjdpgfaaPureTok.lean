import Derived.Test.YtcigcacjjdpgfaaPAx11
import Derived.Test.YtcigcacjjdpgfaaPAx12
import Derived.Test.YtcigcacjjdpgfaaHandG2
/- few and the reference's Few of prices: their plain answers; what Of answers is valid. Plain Lean. -/
namespace Go.Proofs.Ytcigcacjjdpgfaa.PA
open Go.RowKit Go.Proofs.YtcigcacjjdpgfaaW.PrintWords Go.Proofs.YtcigcacjjdpgfaaW.PrintLast Go.Proofs.YtcigcacjjdpgfaaW.PrintMore Go.Proofs.Ytcigcacjjdpgfaa.Hand
set_option linter.unusedVariables false
set_option linter.unusedSimpArgs false
def tokB (kinds : List Int) (conf : List (List S53)) : Bool := decide (¬ (kinds.length : Int) > 70) && decide (¬ (conf.length : Int) > 70) && conf.all (fun l => decide (¬ (l.length : Int) > 10))
theorem tokB_ok {kinds : List Int} {conf : List (List S53)} (h : tokB kinds conf = true) : kinds.length ≤ 70 ∧ conf.length ≤ 70 ∧ ∀ l ∈ conf, l.length ≤ 10 := by
  simp only [tokB, Bool.and_eq_true, decide_eq_true_eq, List.all_eq_true] at h
  exact ⟨by omega, by omega, fun c hc => by have := h.2 c hc; omega⟩
theorem tok_l0 (kinds : List Int) (conf : List (List S53)) (hm : conf.length ≤ 1000000) : ∀ d t, t + d = conf.length → ∃ k, emendatelaw35_few.l0 k (t : Int) kinds conf = some ((conf.drop t).all (fun l => decide (¬ (l.length : Int) > 10))) := by
  intro d
  induction d with
  | zero =>
    intro t ht
    refine ⟨1, ?_⟩
    simp only [emendatelaw35_few.l0]
    rw [if_neg (by omega), List.drop_eq_nil_of_le (by omega)]
    rfl
  | succ d ih =>
    intro t ht
    obtain ⟨k, hk⟩ := ih (t + 1) (by omega)
    have h1 : t < conf.length := by omega
    refine ⟨k + 1, ?_⟩
    have q1 : (t : Int) < (conf.length : Int) := by omega
    have q2 : 0 ≤ (t : Int) := by omega
    have e : rd_L5 conf (t : Int) = conf[t] := by simp [rd_L5, h1]
    rw [List.drop_eq_getElem_cons h1, List.all_cons]
    simp only [emendatelaw35_few.l0, if_pos q1, if_pos q2, e, w1 t (by omega), hk]
    by_cases e : (conf[t].length : Int) > 10 <;> simp [e]
theorem tok_ex (kinds : List Int) (conf : List (List S53)) : ∃ k, emendatelaw35_few.f k kinds conf = some (tokB kinds conf) := by
  by_cases h1 : (kinds.length : Int) > 70
  · refine ⟨1, ?_⟩
    unfold emendatelaw35_few.f
    rw [if_pos h1]
    simp [emendatelaw35_few.j0, tokB]
    intro h; omega
  · by_cases h2 : (conf.length : Int) > 70
    · refine ⟨1, ?_⟩
      unfold emendatelaw35_few.f
      rw [if_neg h1]
      simp only [emendatelaw35_few.j0, tokB]
      simp [h2]
    · obtain ⟨k, hk⟩ := tok_l0 kinds conf (by omega) conf.length 0 (by omega)
      rw [List.drop_zero, Int.natCast_zero] at hk
      refine ⟨k + 1, ?_⟩
      unfold emendatelaw35_few.f
      rw [if_neg h1]
      simp only [emendatelaw35_few.j0, tokB]
      rw [if_neg (by simpa using h2), hk]
      simp [h1, h2]
def prB (ins del : List Int) (rep : List (List Int)) (terms : Int) : Bool := decide (¬ (ins.length : Int) > terms) && decide (¬ (del.length : Int) > terms) && decide (¬ (rep.length : Int) > terms) && rep.all (fun l => decide (¬ (l.length : Int) > terms))
theorem prB_ok {ins del : List Int} {rep : List (List Int)} (h : prB ins del rep 20 = true) : ins.length ≤ 20 := by
  simp only [prB, Bool.and_eq_true, decide_eq_true_eq, List.all_eq_true] at h
  omega
theorem pr_l0 (ins del : List Int) (rep : List (List Int)) (sw unk terms : Int) (hm : rep.length ≤ 1000000) : ∀ d t, t + d = rep.length → ∃ k, emendateref34_Few.l0 k terms (t : Int) ins del rep sw unk = some ((rep.drop t).all (fun l => decide (¬ (l.length : Int) > terms))) := by
  intro d
  induction d with
  | zero =>
    intro t ht
    refine ⟨1, ?_⟩
    simp only [emendateref34_Few.l0]
    rw [if_neg (by omega), List.drop_eq_nil_of_le (by omega)]
    rfl
  | succ d ih =>
    intro t ht
    obtain ⟨k, hk⟩ := ih (t + 1) (by omega)
    have h1 : t < rep.length := by omega
    refine ⟨k + 1, ?_⟩
    have q1 : (t : Int) < (rep.length : Int) := by omega
    have q2 : 0 ≤ (t : Int) := by omega
    have e : rd_L1 rep (t : Int) = rep[t] := by simp [rd_L1, h1]
    rw [List.drop_eq_getElem_cons h1, List.all_cons]
    simp only [emendateref34_Few.l0, if_pos q1, if_pos q2, e, w1 t (by omega), hk]
    by_cases e : (rep[t].length : Int) > terms <;> simp [e]
theorem pr_ex (ins del : List Int) (rep : List (List Int)) (sw unk terms : Int) (ht : terms ≤ 1000000) : ∃ k, emendateref34_Few.f k ins del rep sw unk terms = some (prB ins del rep terms) := by
  by_cases h1 : (ins.length : Int) > terms
  · refine ⟨1, ?_⟩
    unfold emendateref34_Few.f
    rw [if_pos h1]
    simp [emendateref34_Few.j0, prB, h1]
  · by_cases h2 : (del.length : Int) > terms
    · refine ⟨1, ?_⟩
      unfold emendateref34_Few.f
      rw [if_neg h1, if_pos h2]
      simp [emendateref34_Few.j0, prB, h2]
    · by_cases h3 : (rep.length : Int) > terms
      · refine ⟨1, ?_⟩
        unfold emendateref34_Few.f
        rw [if_neg h1, if_neg h2]
        simp [emendateref34_Few.j0, prB, h3]
      · obtain ⟨k, hk⟩ := pr_l0 ins del rep sw unk terms (by omega) rep.length 0 (by omega)
        rw [List.drop_zero, Int.natCast_zero] at hk
        refine ⟨k + 1, ?_⟩
        unfold emendateref34_Few.f
        rw [if_neg h1, if_neg h2]
        simp only [emendateref34_Few.j0, prB]
        rw [if_neg (by simpa using h3), hk]
        simp [h1, h2, h3]
/-- A row of prices of reading, as a valid column has it. -/
def RowOK (kind : Int) (r : List Int) : Prop := ∀ t, t < r.length → ((t : Int) = kind → r.getD t 0 = 0) ∧ ((t : Int) ≠ kind → r.getD t 0 = -1 ∨ largeB (r.getD t 0) = true)
theorem rdOK_from (kind : Int) : ∀ (l : List Int) (t : Nat), (∀ j, j < l.length → (((t + j : Nat) : Int) = kind → l.getD j 0 = 0) ∧ (((t + j : Nat) : Int) ≠ kind → l.getD j 0 = -1 ∨ largeB (l.getD j 0) = true)) → rdOK kind l t = true
  | [], _, _ => rfl
  | x :: l, t, h => by
    have h0 := h 0 (by simp)
    simp only [Nat.add_zero, List.getD_cons_zero] at h0
    have ih := rdOK_from kind l (t + 1) (fun j hj => by
      have := h (j + 1) (by simpa using hj)
      rw [List.getD_cons_succ] at this
      rw [show t + 1 + j = t + (j + 1) by omega]
      exact this)
    rw [rdOK, show (t : Int) + 1 = ((t + 1 : Nat) : Int) by omega, ih, Bool.and_true]
    by_cases e : (t : Int) = kind
    · rw [if_pos e]
      exact decide_eq_true (h0.1 e)
    · rw [if_neg e]
      rcases h0.2 e with h1 | h1
      · rw [decide_eq_true h1, Bool.true_or]
      · rw [h1, Bool.or_true]
theorem rdOK_of {kind : Int} {r : List Int} (h : RowOK kind r) : rdOK kind r 0 = true := rdOK_from kind r 0 (fun j hj => by rw [Nat.zero_add]; exact h j hj)
theorem getD_set (r : List Int) (i t : Nat) (v : Int) (ht : t < r.length) : (r.set i v).getD t 0 = if i = t then v else r.getD t 0 := by
  rw [List.getD_eq_getElem?_getD, List.getElem?_set]
  by_cases e : i = t
  · subst e
    simp [ht]
  · rw [if_neg e, if_neg e, List.getD_eq_getElem?_getD]
theorem colStep_get (r : List Int) (x : S53) (t : Nat) (ht : t < r.length) : (colStep r x).getD t 0 = r.getD t 0 ∨ (x.f0.toNat = t ∧ (colStep r x).getD t 0 = x.f1 ∧ (r.getD t 0 < 0 ∨ x.f1 < r.getD t 0)) := by
  unfold colStep
  split
  · rename_i h
    rw [getD_set _ _ _ _ ht]
    by_cases e : x.f0.toNat = t
    · rw [if_pos e]
      exact .inr ⟨e, rfl, .inl (e ▸ h)⟩
    · rw [if_neg e]
      exact .inl rfl
  · split
    · rename_i h
      rw [getD_set _ _ _ _ ht]
      by_cases e : x.f0.toNat = t
      · rw [if_pos e]
        exact .inr ⟨e, rfl, .inr (e ▸ h)⟩
      · rw [if_neg e]
        exact .inl rfl
    · exact .inl rfl
theorem colStep_ok {kind : Int} {r : List Int} {x : S53} (h : RowOK kind r) (h0 : 0 ≤ x.f0) (h1 : x.f0 ≠ kind) (h2 : largeB x.f1 = true) : RowOK kind (colStep r x) := by
  intro t ht
  rw [colStep_length] at ht
  rcases colStep_get r x t ht with e | ⟨e1, e2, _⟩
  · rw [e]
    exact h t ht
  · rw [e2]
    exact ⟨fun e => absurd (by omega) h1, fun _ => .inr h2⟩
theorem foldl_ok {kind : Int} : ∀ (l : List S53) (r : List Int), RowOK kind r → (∀ x ∈ l, 0 ≤ x.f0 ∧ x.f0 ≠ kind ∧ largeB x.f1 = true) → RowOK kind (l.foldl colStep r)
  | [], _, h, _ => h
  | x :: l, r, h, hl => by
    rw [List.foldl_cons]
    have := hl x (by simp)
    exact foldl_ok l _ (colStep_ok h this.1 this.2.1 this.2.2) (fun y hy => hl y (by simp [hy]))
theorem base_ok {ins del : List Int} {rep : List (List Int)} {sw unk kind : Int} (hp : PrOK ins del rep sw unk) (hk : kind < ins.length) : RowOK kind (colBase kind ins rep) ∧ (colBase kind ins rep).length = ins.length := by
  unfold colBase
  by_cases h : kind ≥ 0
  · rw [if_pos h]
    have hlen := (hp.at_ kind.toNat (by omega)).2.2
    refine ⟨fun t ht => ?_, hlen⟩
    have := hp.cell kind.toNat t (by omega) (by omega)
    refine ⟨fun e => this.1 (by omega), fun e => ?_⟩
    rcases this.2 (by omega) with h1 | h1
    · exact .inl h1
    · refine .inr ?_
      simp only [largeB, Bool.and_eq_true, decide_eq_true_eq]
      omega
  · rw [if_neg h]
    refine ⟨fun t ht => ?_, by simp⟩
    rw [List.length_replicate] at ht
    refine ⟨fun e => by omega, fun _ => .inl ?_⟩
    simp [List.getD_eq_getElem?_getD, ht]
theorem badTok_conf {n : Nat} {k : Int} {l : List S53} (h : badTok n k l = false) : ∀ x ∈ l, 0 ≤ x.f0 ∧ x.f0 ≠ k ∧ largeB x.f1 = true := by
  simp only [badTok, Bool.or_eq_false_iff, decide_eq_false_iff_not, List.any_eq_false] at h
  intro x hx
  have := h.2 x hx
  simp only [badC, Bool.or_eq_true, decide_eq_true_eq, not_or, Bool.not_eq_true', Bool.not_eq_false] at this
  exact ⟨by omega, this.1.2, this.2⟩
theorem colT_ok {ins del : List Int} {rep : List (List Int)} {sw unk kind : Int} {l : List S53} (hp : PrOK ins del rep sw unk) (hb : badTok ins.length kind l = false) : vcB ins.length (colT kind l ins del rep unk) = true := by
  obtain ⟨h1, h2, _⟩ := confOK_of hb
  obtain ⟨b1, b2⟩ := base_ok hp h2
  have hd : largeB (colDel kind del unk) = true := by
    simp only [largeB, Bool.and_eq_true, decide_eq_true_eq]
    unfold colDel
    split
    · have := (hp.at_ kind.toNat (by omega)).2.1; omega
    · have := hp.unk; omega
  show (decide (-1 ≤ kind) && decide (kind < (ins.length : Int)) && decide (((l.foldl colStep (colBase kind ins rep)).length : Int) = (ins.length : Int)) && (largeB (colDel kind del unk) || decide (colDel kind del unk = 1099511627776)) && rdOK kind (l.foldl colStep (colBase kind ins rep)) 0) = true
  rw [foldl_length, b2, hd, rdOK_of (foldl_ok l _ b1 (badTok_conf hb)), decide_eq_true (show -1 ≤ kind by omega), decide_eq_true h2, decide_eq_true rfl]
  rfl
theorem badFrom_at {n : Int} {conf : List (List S53)} : ∀ {kinds : List Int} {i : Nat}, badFrom n conf kinds i = false → ∀ j (hj : j < kinds.length), badTok n kinds[j] (confAt conf (i + j)) = false
  | [], _, _, j, hj => absurd hj (by simp)
  | k :: ks, i, h, j, hj => by
    rw [badFrom, Bool.or_eq_false_iff] at h
    match j, hj with
    | 0, _ => exact h.1
    | j + 1, hj =>
      have := badFrom_at h.2 j (by simpa using hj)
      rw [show i + (j + 1) = i + 1 + j by omega]
      exact this
theorem badFrom_no {n : Int} {conf : List (List S53)} : ∀ {kinds : List Int} {i : Nat}, (∀ j (hj : j < kinds.length), badTok n kinds[j] (confAt conf (i + j)) = false) → badFrom n conf kinds i = false
  | [], _, _ => rfl
  | k :: ks, i, h => by
    rw [badFrom, Bool.or_eq_false_iff]
    refine ⟨h 0 (by simp), badFrom_no fun j hj => ?_⟩
    have := h (j + 1) (by simpa using hj)
    rw [show i + (j + 1) = i + 1 + j by omega] at this
    exact this
/-- What Of's success says. -/
theorem ofT_zero {kinds : List Int} {conf : List (List S53)} {ins del : List Int} {rep : List (List Int)} {sw unk : Int} (h : (ofT kinds conf ins del rep sw unk).2.2.2 = 0) :
    pricesB ins del rep sw unk = true ∧ (conf.length = 0 ∨ conf.length = kinds.length) ∧ badFrom ins.length conf kinds 0 = false ∧ kinds.length ≤ 60 ∧ ofT kinds conf ins del rep sw unk = (kinds.mapIdx (fun i k => colT k (confAt conf i) ins del rep unk), ins, sw, 0) := by
  unfold ofT at h ⊢
  by_cases h1 : pricesB ins del rep sw unk = true ∧ (conf.length = 0 ∨ conf.length = kinds.length)
  · rw [if_pos h1] at h ⊢
    by_cases h2 : badFrom ins.length conf kinds 0 = true
    · rw [if_pos h2] at h
      simp at h
    · rw [if_neg h2] at h ⊢
      by_cases h3 : 60 < kinds.length
      · rw [if_pos h3] at h
        simp at h
      · rw [if_neg h3]
        exact ⟨h1.1, h1.2, by simpa using h2, by omega, rfl⟩
  · rw [if_neg h1] at h
    simp at h
theorem ofT_some {kinds : List Int} {conf : List (List S53)} {ins del : List Int} {rep : List (List Int)} {sw unk : Int} (h1 : pricesB ins del rep sw unk = true) (h2 : conf.length = 0 ∨ conf.length = kinds.length) (h3 : badFrom ins.length conf kinds 0 = false) (h4 : kinds.length ≤ 60) :
    ofT kinds conf ins del rep sw unk = (kinds.mapIdx (fun i k => colT k (confAt conf i) ins del rep unk), ins, sw, 0) := by
  unfold ofT
  rw [if_pos ⟨h1, h2⟩, if_neg (by simp [h3]), if_neg (by omega)]
theorem ofT_none {kinds : List Int} {conf : List (List S53)} {ins del : List Int} {rep : List (List Int)} {sw unk : Int} (h : (ofT kinds conf ins del rep sw unk).2.2.2 ≠ 0) : (ofT kinds conf ins del rep sw unk).1 = [] ∧ (ofT kinds conf ins del rep sw unk).2.1 = [] := by
  unfold ofT at h ⊢
  split
  · rename_i h1
    rw [if_pos h1] at h
    split
    · exact ⟨rfl, rfl⟩
    · rename_i h2
      rw [if_neg h2] at h
      split
      · exact ⟨rfl, rfl⟩
      · rename_i h3
        rw [if_neg h3] at h
        exact absurd rfl h
  · exact ⟨rfl, rfl⟩
theorem mem_mapIdx {kinds : List Int} {g : Nat → Int → S51} {c : S51} (h : c ∈ kinds.mapIdx g) : ∃ j, ∃ hj : j < kinds.length, c = g j kinds[j] := by
  obtain ⟨j, hj, e⟩ := List.getElem_of_mem h
  rw [List.length_mapIdx] at hj
  exact ⟨j, hj, by rw [← e, List.getElem_mapIdx]⟩
/-- What Of answers is small, and valid where no error is told. -/
theorem ofT_ok (kinds : List Int) (conf : List (List S53)) (ins del : List Int) (rep : List (List Int)) (sw unk : Int) (hn : ins.length ≤ 20) :
    (ofT kinds conf ins del rep sw unk).1.length ≤ 60 ∧ (∀ c ∈ (ofT kinds conf ins del rep sw unk).1, c.f1.length ≤ 20) ∧ (ofT kinds conf ins del rep sw unk).2.1.length ≤ 20 ∧
    ((ofT kinds conf ins del rep sw unk).2.2.2 = 0 → validB (ofT kinds conf ins del rep sw unk).1 (ofT kinds conf ins del rep sw unk).2.1 (ofT kinds conf ins del rep sw unk).2.2.1 ins.length = true) := by
  by_cases h : (ofT kinds conf ins del rep sw unk).2.2.2 = 0
  · obtain ⟨h1, h2, h3, h4, h5⟩ := ofT_zero h
    have hp := prOK_of h1
    rw [h5]
    have hv : ∀ c ∈ kinds.mapIdx (fun i k => colT k (confAt conf i) ins del rep unk), vcB ins.length c = true := by
      intro c hc
      obtain ⟨j, hj, rfl⟩ := mem_mapIdx hc
      have := badFrom_at h3 j hj
      rw [Nat.zero_add] at this
      exact colT_ok hp this
    refine ⟨by simpa using h4, fun c hc => ?_, hn, fun _ => ?_⟩
    · have := hv c hc
      simp only [vcB, Bool.and_eq_true, decide_eq_true_eq] at this
      omega
    · have hsw := hp.sw
      simp only [validB, Bool.and_eq_true, decide_eq_true_eq, List.all_eq_true, Bool.not_eq_true', List.any_eq_false, List.length_mapIdx]
      refine ⟨⟨⟨⟨by omega, h4⟩, trivial⟩, ?_⟩, fun x hx => ?_, hv⟩
      · by_cases e : sw = 0
        · simp [e]
        · simp [largeB, show 1 ≤ sw by omega, show sw ≤ 60000 by omega]
      · obtain ⟨i, hi, rfl⟩ := List.getElem_of_mem hx
        have := (hp.at_ i hi).1
        rw [List.getD_eq_getElem?_getD, List.getElem?_eq_getElem hi] at this
        simp only [Option.getD_some] at this
        simp [largeB, show 1 ≤ ins[i] by omega, show ins[i] ≤ 60000 by omega]
  · obtain ⟨e1, e2⟩ := ofT_none h
    rw [e1, e2]
    exact ⟨by simp, by simp, by simp, fun e => absurd e h⟩
end Go.Proofs.Ytcigcacjjdpgfaa.PA
