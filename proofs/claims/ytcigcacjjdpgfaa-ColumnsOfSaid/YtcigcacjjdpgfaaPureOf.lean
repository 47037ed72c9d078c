import Derived.Test.YtcigcacjjdpgfaaPAx15
import Derived.Test.YtcigcacjjdpgfaaHandG2
/- The reference's Of answers ofT. Plain Lean. -/
namespace Go.Proofs.Ytcigcacjjdpgfaa.PA
open Go.RowKit Go.Proofs.YtcigcacjjdpgfaaW.PrintWords Go.Proofs.YtcigcacjjdpgfaaW.PrintLast Go.Proofs.YtcigcacjjdpgfaaW.PrintMore Go.Proofs.Ytcigcacjjdpgfaa.Hand
set_option linter.unusedVariables false
set_option linter.unusedSimpArgs false
theorem rdL5_at (l : List (List S53)) (j : Nat) (h : j < l.length) : rd_L5 l (j : Int) = l[j] := by simp [rd_L5, h]
theorem rof_l1 (kinds : List Int) (conf : List (List S53)) (ins del : List Int) (rep : List (List Int)) (sw unk : Int) (t : Nat) (ht : t < kinds.length) (htc : t < conf.length) (hm : kinds.length ≤ 1000000) (hl : conf[t].length ≤ 1000000) (k0 : Nat) (V : List S51 × List Int × Int × Int)
    (hV : emendateref35_Of.l0 k0 kinds conf (ins.length : Int) ((t + 1 : Nat) : Int) ins del rep sw unk = some V) : ∀ d u, u + d = conf[t].length →
    ∃ k, emendateref35_Of.l1 k kinds conf (ins.length : Int) (t : Int) (u : Int) ins del rep sw unk = some (if (conf[t].drop u).any (badC ins.length kinds[t]) = true then ([], [], 0, 1) else V) := by
  have q1 : (t : Int) < (conf.length : Int) := by omega
  have q2 : 0 ≤ (t : Int) := by omega
  have q3 : (t : Int) < (kinds.length : Int) := by omega
  intro d
  induction d with
  | zero =>
    intro u hu
    refine ⟨k0 + 1 + 1, ?_⟩
    simp only [emendateref35_Of.l1, if_pos q1, if_pos q2, rdL5_at conf t htc]
    rw [decide_eq_false (show ¬ (u : Int) < (conf[t].length : Int) by omega), List.drop_eq_nil_of_le (by omega)]
    simp only [emendateref35_Of.j4, w1 t (by omega), hV]
    simp
  | succ d ih =>
    intro u hu
    obtain ⟨k, hk⟩ := ih (u + 1) (by omega)
    have hlt : u < conf[t].length := by omega
    have p1 : (u : Int) < (conf[t].length : Int) := by omega
    have p2 : 0 ≤ (u : Int) := by omega
    refine ⟨k + 1 + 1, ?_⟩
    simp only [emendateref35_Of.l1, if_pos q1, if_pos q2, rdL5_at conf t htc]
    rw [decide_eq_true p1]
    simp only [emendateref35_Of.j4, if_true, if_pos q1, if_pos q2, if_pos q3, if_pos p1, if_pos p2, rdL5_at conf t htc, rdT53_at _ u hlt, getD_rd kinds t ht, w1 u (by omega), hk]
    rw [List.drop_eq_getElem_cons hlt, List.any_cons]
    generalize conf[t][u] = x
    by_cases h1 : x.f0 < 0
    · simp [badC, h1]
    · by_cases h2 : x.f0 ≥ (ins.length : Int)
      · simp [badC, h1, h2]
      · by_cases h3 : x.f0 = kinds[t]
        · simp [badC, h3]
        · by_cases h4 : x.f1 < 1
          · simp [badC, largeB, h4, show ¬ 1 ≤ x.f1 by omega]
          · by_cases h5 : x.f1 > 60000
            · simp [badC, largeB, h5, show ¬ x.f1 ≤ 60000 by omega]
            · have e : badC (ins.length : Int) kinds[t] x = false := by
                simp [badC, largeB, h1, h2, h3, show 1 ≤ x.f1 by omega, show x.f1 ≤ 60000 by omega]
              rw [if_neg h1, if_neg h2, if_neg h3, if_neg h4, if_neg h5, e, Bool.false_or]
theorem rof_bad (kinds : List Int) (conf : List (List S53)) (ins del : List Int) (rep : List (List Int)) (sw unk : Int) (t : Nat) (ht : t < kinds.length) (htc : t < conf.length) (hm : kinds.length ≤ 1000000) (hl : conf[t].length ≤ 1000000) : ∀ d u, u + d = conf[t].length → (conf[t].drop u).any (badC ins.length kinds[t]) = true →
    ∃ k, emendateref35_Of.l1 k kinds conf (ins.length : Int) (t : Int) (u : Int) ins del rep sw unk = some ([], [], 0, 1) := by
  have q1 : (t : Int) < (conf.length : Int) := by omega
  have q2 : 0 ≤ (t : Int) := by omega
  have q3 : (t : Int) < (kinds.length : Int) := by omega
  intro d
  induction d with
  | zero =>
    intro u hu hb
    rw [List.drop_eq_nil_of_le (by omega)] at hb
    simp at hb
  | succ d ih =>
    intro u hu hb
    have hlt : u < conf[t].length := by omega
    have p1 : (u : Int) < (conf[t].length : Int) := by omega
    have p2 : 0 ≤ (u : Int) := by omega
    rw [List.drop_eq_getElem_cons hlt, List.any_cons] at hb
    have step : ∀ k, emendateref35_Of.l1 (k + 1 + 1) kinds conf (ins.length : Int) (t : Int) (u : Int) ins del rep sw unk = if badC ins.length kinds[t] conf[t][u] = true then some ([], [], 0, 1) else emendateref35_Of.l1 k kinds conf (ins.length : Int) (t : Int) ((u + 1 : Nat) : Int) ins del rep sw unk := by
      intro k
      simp only [emendateref35_Of.l1, if_pos q1, if_pos q2, rdL5_at conf t htc]
      rw [decide_eq_true p1]
      simp only [emendateref35_Of.j4, if_true, if_pos q1, if_pos q2, if_pos q3, if_pos p1, if_pos p2, rdL5_at conf t htc, rdT53_at _ u hlt, getD_rd kinds t ht, w1 u (by omega)]
      generalize conf[t][u] = x
      by_cases h1 : x.f0 < 0
      · simp [badC, h1]
      · by_cases h2 : x.f0 ≥ (ins.length : Int)
        · simp [badC, h1, h2]
        · by_cases h3 : x.f0 = kinds[t]
          · simp [badC, h3]
          · by_cases h4 : x.f1 < 1
            · simp [badC, largeB, h4, show ¬ 1 ≤ x.f1 by omega]
            · by_cases h5 : x.f1 > 60000
              · simp [badC, largeB, h5, show ¬ x.f1 ≤ 60000 by omega]
              · have e : badC (ins.length : Int) kinds[t] x = false := by
                  simp [badC, largeB, h1, h2, h3, show 1 ≤ x.f1 by omega, show x.f1 ≤ 60000 by omega]
                rw [if_neg h1, if_neg h2, if_neg h3, if_neg h4, if_neg h5, e]
                simp
    by_cases h : badC ins.length kinds[t] conf[t][u] = true
    · exact ⟨0 + 1 + 1, by rw [step, if_pos h]⟩
    · have h' : badC ins.length kinds[t] conf[t][u] = false := by simpa using h
      rw [h', Bool.false_or] at hb
      obtain ⟨k, hk⟩ := ih (u + 1) (by omega) hb
      exact ⟨k + 1 + 1, by rw [step, if_neg h, hk]⟩
theorem colsFrom_mapIdx (conf : List (List S53)) (ins del : List Int) (rep : List (List Int)) (unk : Int) : ∀ (l : List Int) (j : Nat), colsFrom conf ins del rep unk l j = l.mapIdx (fun i k => colT k (confAt conf (i + j)) ins del rep unk)
  | [], _ => rfl
  | k :: l, j => by
    rw [colsFrom, List.mapIdx_cons, colsFrom_mapIdx conf ins del rep unk l (j + 1)]
    simp only [Nat.zero_add]
    congr 1
    refine congrArg (fun f => List.mapIdx f l) (funext fun i => funext fun k' => ?_)
    rw [show i + (j + 1) = i + 1 + j by omega]
theorem base_GeM {ins del : List Int} {rep : List (List Int)} {sw unk kind : Int} (hp : PrOK ins del rep sw unk) (hk : kind < ins.length) : GeM (colBase kind ins rep) := by
  intro x hx
  unfold colBase at hx
  by_cases h : kind ≥ 0
  · rw [if_pos h] at hx
    obtain ⟨i, hi, rfl⟩ := List.getElem_of_mem hx
    have hlen := (hp.at_ kind.toNat (by omega)).2.2
    have := hp.cell kind.toNat i (by omega) (by omega)
    rw [List.getD_eq_getElem?_getD, List.getElem?_eq_getElem hi] at this
    simp only [Option.getD_some] at this
    by_cases e : kind.toNat = i
    · have := this.1 e; omega
    · have := this.2 e; omega
  · rw [if_neg h] at hx
    have := List.eq_of_mem_replicate hx
    omega
theorem rof_l2 (kinds : List Int) (conf : List (List S53)) (ins del : List Int) (rep : List (List Int)) (sw unk : Int) (hp : PrOK ins del rep sw unk) (hn : ins.length ≤ 60) (hm : kinds.length ≤ 1000000) (hcl : conf.length = 0 ∨ conf.length = kinds.length) (hL : ∀ l ∈ conf, l.length ≤ 1000000)
    (hok : ∀ j (hj : j < kinds.length), badTok ins.length kinds[j] (confAt conf j) = false) : ∀ d j (acc : List S51), j + d = kinds.length → acc.length = j →
    ∃ k, emendateref35_Of.l2 k kinds conf acc (j : Int) ins del rep sw unk = some (acc ++ colsFrom conf ins del rep unk (kinds.drop j) j, ins, sw, 0) := by
  intro d
  induction d with
  | zero =>
    intro j acc hj ha
    refine ⟨1, ?_⟩
    simp only [emendateref35_Of.l2]
    rw [if_neg (by omega), List.drop_eq_nil_of_le (by omega), Option.bind_some, if_pos (by simp only [List.length_nil]; omega)]
    simp [colsFrom]
  | succ d ih =>
    intro j acc hj ha
    have hlt : j < kinds.length := by omega
    obtain ⟨k1, hk1⟩ := ih (j + 1) (acc ++ [colT kinds[j] (confAt conf j) ins del rep unk]) (by omega) (by simp [ha])
    obtain ⟨c1, c2, c3⟩ := confOK_of (hok j hlt)
    have hcl2 : (confAt conf j).length ≤ 1000000 := by
      unfold confAt
      split
      · simp
      · rw [List.getD_eq_getElem?_getD, List.getElem?_eq_getElem (by omega)]
        exact hL _ (List.getElem_mem _)
    obtain ⟨k2, hk2⟩ := rc_ex kinds[j] (confAt conf j) ins del rep sw unk hcl2 hn hp.rl hp.dl (by omega) (fun h => (hp.at_ kinds[j].toNat (by omega)).2.2) c3 (base_GeM hp (by omega))
    have g1 := upO (g := fun k => emendateref35_Of.l2 k kinds conf (acc ++ [colT kinds[j] (confAt conf j) ins del rep unk]) ((j + 1 : Nat) : Int) ins del rep sw unk) (fun k => (emendateref35_Of.mono_l k).2.2.2.2.2 _ _ _ _ _ _ _ _ _) (Nat.le_max_left k1 k2) hk1
    have g2 := upO (g := fun k => emendateref35_column.f k kinds[j] (confAt conf j) ins del rep sw unk) (fun k => emendateref35_column.mono _ _ _ _ _ _ _ k) (Nat.le_max_right k1 k2) hk2
    refine ⟨max k1 k2 + 1, ?_⟩
    have q1 : (j : Int) < (kinds.length : Int) := by omega
    have q2 : 0 ≤ (j : Int) := by omega
    have q3 : acc.length < 3518437208883 := by omega
    rw [List.drop_eq_getElem_cons hlt, colsFrom]
    simp only [emendateref35_Of.l2, if_pos q1, if_pos q2, getD_rd kinds j hlt, w1 j (by omega)]
    rcases hcl with hc | hc
    · have e0 : confAt conf j = [] := by unfold confAt; rw [if_pos hc]
      rw [e0] at g1 g2
      rw [if_neg (by omega), e0]
      simp only [g2, Option.bind_some, if_pos q3]
      rw [g1, List.append_assoc]
      rfl
    · have e0 : rd_L5 conf (j : Int) = confAt conf j := by
        unfold confAt
        rw [if_neg (by omega)]
        simp [rd_L5]
      have q4 : (conf.length : Int) > 0 := by omega
      have q5 : (j : Int) < (conf.length : Int) := by omega
      simp only [if_pos q4, if_pos q5, e0, g2, Option.bind_some, if_pos q3]
      rw [g1, List.append_assoc]
      rfl
theorem rof_l0 (kinds : List Int) (conf : List (List S53)) (ins del : List Int) (rep : List (List Int)) (sw unk : Int) (hp : PrOK ins del rep sw unk) (hn : ins.length ≤ 60) (hm : kinds.length ≤ 1000000) (hcl : conf.length = 0 ∨ conf.length = kinds.length) (hL : ∀ l ∈ conf, l.length ≤ 1000000) :
    ∀ d t, t + d = kinds.length → (∀ j (hj : j < kinds.length), j < t → badTok ins.length kinds[j] (confAt conf j) = false) →
    ∃ k, emendateref35_Of.l0 k kinds conf (ins.length : Int) (t : Int) ins del rep sw unk = some (if badFrom ins.length conf (kinds.drop t) t = true then ([], [], 0, 1) else if 60 < kinds.length then ([], [], 0, 11) else (colsFrom conf ins del rep unk kinds 0, ins, sw, 0)) := by
  intro d
  induction d with
  | zero =>
    intro t ht hok
    rw [List.drop_eq_nil_of_le (by omega), badFrom]
    by_cases h : 60 < kinds.length
    · refine ⟨1, ?_⟩
      simp only [emendateref35_Of.l0]
      rw [if_neg (by omega), if_pos (by omega), if_pos h]
      simp
    · obtain ⟨k, hk⟩ := rof_l2 kinds conf ins del rep sw unk hp hn hm hcl hL (fun j hj => hok j hj (by omega)) kinds.length 0 [] (by omega) rfl
      rw [List.drop_zero, List.nil_append, Int.natCast_zero] at hk
      refine ⟨k + 1, ?_⟩
      simp only [emendateref35_Of.l0]
      rw [if_neg (by omega), if_neg (by omega), if_neg h, hk]
      simp
  | succ d ih =>
    intro t ht hok
    have hlt : t < kinds.length := by omega
    have q1 : (t : Int) < (kinds.length : Int) := by omega
    have q2 : 0 ≤ (t : Int) := by omega
    rw [List.drop_eq_getElem_cons hlt, badFrom]
    by_cases h1 : kinds[t] < -1
    · refine ⟨1 + 1, ?_⟩
      simp only [emendateref35_Of.l0, if_pos q1, if_pos q2, getD_rd kinds t hlt, if_pos h1, emendateref35_Of.j2, if_true]
      simp [badTok, h1]
    · by_cases h2 : kinds[t] ≥ (ins.length : Int)
      · refine ⟨1 + 1, ?_⟩
        simp only [emendateref35_Of.l0, if_pos q1, if_pos q2, getD_rd kinds t hlt, if_neg h1, decide_eq_true h2, emendateref35_Of.j2, if_true]
        simp [badTok, h2]
      · have hbt : badTok ins.length kinds[t] (confAt conf t) = (confAt conf t).any (badC ins.length kinds[t]) := by
          unfold badTok
          rw [decide_eq_false h1, decide_eq_false h2, Bool.false_or, Bool.false_or]
        have main : ∀ V k0, (emendateref35_Of.l0 k0 kinds conf (ins.length : Int) ((t + 1 : Nat) : Int) ins del rep sw unk = some V) → ∃ k, emendateref35_Of.l1 k kinds conf (ins.length : Int) (t : Int) 0 ins del rep sw unk = some (if (confAt conf t).any (badC ins.length kinds[t]) = true then ([], [], 0, 1) else V) := by
          intro V k0 hV
          rcases hcl with hc | hc
          · have e0 : confAt conf t = [] := by unfold confAt; rw [if_pos hc]
            refine ⟨k0 + 1 + 1, ?_⟩
            simp only [emendateref35_Of.l1]
            rw [if_neg (by omega)]
            simp only [emendateref35_Of.j4, w1 t (by omega), hV, e0]
            simp
          · have htc : t < conf.length := by omega
            have e0 : confAt conf t = conf[t] := by
              unfold confAt
              rw [if_neg (by omega), List.getD_eq_getElem?_getD, List.getElem?_eq_getElem htc]
              rfl
            obtain ⟨k, hk⟩ := rof_l1 kinds conf ins del rep sw unk t hlt htc hm (hL _ (List.getElem_mem htc)) k0 V hV conf[t].length 0 (by omega)
            rw [List.drop_zero, Int.natCast_zero] at hk
            exact ⟨k, by rw [e0]; exact hk⟩
        have fin : ∀ V k, emendateref35_Of.l1 k kinds conf (ins.length : Int) (t : Int) 0 ins del rep sw unk = some V → emendateref35_Of.l0 (k + 1 + 1) kinds conf (ins.length : Int) (t : Int) ins del rep sw unk = some V := by
          intro V k hk
          simp only [emendateref35_Of.l0, if_pos q1, if_pos q2, getD_rd kinds t hlt, if_neg h1, decide_eq_false h2, emendateref35_Of.j2, hk]
          simp
        by_cases hb : badTok ins.length kinds[t] (confAt conf t) = true
        · by_cases hc : conf.length = 0
          · have e0 : confAt conf t = [] := by unfold confAt; rw [if_pos hc]
            rw [hbt, e0] at hb
            simp at hb
          · have htc : t < conf.length := by omega
            have e0 : confAt conf t = conf[t] := by
              unfold confAt
              rw [if_neg (by omega), List.getD_eq_getElem?_getD, List.getElem?_eq_getElem htc]
              rfl
            rw [hb, Bool.true_or, if_pos rfl]
            rw [hbt, e0] at hb
            obtain ⟨k, hk⟩ := rof_bad kinds conf ins del rep sw unk t hlt htc hm (hL _ (List.getElem_mem htc)) conf[t].length 0 (by omega) (by rw [List.drop_zero]; exact hb)
            rw [Int.natCast_zero] at hk
            exact ⟨_, fin _ _ hk⟩
        · have hb' : badTok ins.length kinds[t] (confAt conf t) = false := by simpa using hb
          obtain ⟨k0, hk0⟩ := ih (t + 1) (by omega) (fun j hj hjt => by
            rcases Nat.lt_or_ge j t with h | h
            · exact hok j hj h
            · obtain rfl : j = t := by omega
              exact hb')
          obtain ⟨k, hk⟩ := main _ k0 hk0
          rw [← hbt, hb'] at hk
          rw [hb', Bool.false_or]
          exact ⟨_, fin _ _ hk⟩
theorem rof_ex (kinds : List Int) (conf : List (List S53)) (ins del : List Int) (rep : List (List Int)) (sw unk : Int) (hn : ins.length ≤ 60) (hm : kinds.length ≤ 1000000) (hL : ∀ l ∈ conf, l.length ≤ 1000000) :
    ∃ k, emendateref35_Of.f k kinds conf ins del rep sw unk = some (ofT kinds conf ins del rep sw unk) := by
  obtain ⟨k1, hk1⟩ := rv_ex ins del rep sw unk (by omega)
  by_cases hp : pricesB ins del rep sw unk = true
  · by_cases hcl : conf.length = 0 ∨ conf.length = kinds.length
    · obtain ⟨k2, hk2⟩ := rof_l0 kinds conf ins del rep sw unk (prOK_of hp) hn hm hcl hL kinds.length 0 (by omega) (fun j _ h => absurd h (by omega))
      rw [List.drop_zero, Int.natCast_zero, colsFrom_mapIdx] at hk2
      have g1 := upO (g := fun k => emendateref34_Valid.f k ins del rep sw unk (ins.length : Int)) (fun k => emendateref34_Valid.mono _ _ _ _ _ _ k) (Nat.le_trans (Nat.le_max_left k1 k2) (Nat.le_succ _)) hk1
      have g2 := upO (g := fun k => emendateref35_Of.l0 k kinds conf (ins.length : Int) 0 ins del rep sw unk) (fun k => (emendateref35_Of.mono_l k).2.1 _ _ _ _ _ _ _ _ _) (Nat.le_max_right k1 k2) hk2
      refine ⟨max k1 k2 + 1, ?_⟩
      have ho : ofT kinds conf ins del rep sw unk = _ := if_pos ⟨hp, hcl⟩
      rw [ho]
      unfold emendateref35_Of.f
      rw [g1, Option.bind_some, if_pos hp]
      by_cases hc : conf.length = 0
      · rw [if_pos (by omega)]
        simp only [emendateref35_Of.j0]
        rw [if_neg (by simp), g2]
        rfl
      · rw [if_neg (by omega)]
        have hc' : conf.length = kinds.length := by omega
        simp only [emendateref35_Of.j0]
        rw [hc', if_neg (by simp), g2]
        rfl
    · have g1 := upO (g := fun k => emendateref34_Valid.f k ins del rep sw unk (ins.length : Int)) (fun k => emendateref34_Valid.mono _ _ _ _ _ _ k) (Nat.le_succ k1) hk1
      refine ⟨k1 + 1, ?_⟩
      have ho : ofT kinds conf ins del rep sw unk = _ := if_neg (fun h => hcl h.2)
      rw [ho]
      unfold emendateref35_Of.f
      rw [g1, Option.bind_some, if_pos hp, if_neg (by omega)]
      simp only [emendateref35_Of.j0]
      rw [if_pos (by simp; omega)]
  · have g1 := upO (g := fun k => emendateref34_Valid.f k ins del rep sw unk (ins.length : Int)) (fun k => emendateref34_Valid.mono _ _ _ _ _ _ k) (Nat.le_succ k1) hk1
    refine ⟨k1 + 1, ?_⟩
    have ho : ofT kinds conf ins del rep sw unk = _ := if_neg (fun h => hp h.1)
    rw [ho]
    unfold emendateref35_Of.f
    rw [g1, Option.bind_some, if_neg hp]
    simp only [emendateref35_Of.j0]
    simp
end Go.Proofs.Ytcigcacjjdpgfaa.PA
