import Derived.Test.YtkaedhooccpniaaPureFold
import Derived.Test.YtkaedhooccpniaaHandCyc1
import Derived.Test.YtkaedhooccpniaaPAx13
/- Cyclic, plain Lean: the reference's flat table against the program's table of rows. -/
namespace Go.Proofs.Ytkaedhooccpniaa.Hand
open Go.RowKit Go.Proofs.YtkaedhooccpniaaW.PrintWords Go.Proofs.YtkaedhooccpniaaW.PrintLast Go.Proofs.YtkaedhooccpniaaW.PrintMore Go.Proofs.Ytkaedhooccpniaa.PA
set_option linter.unusedVariables false
set_option linter.unusedSimpArgs false
/-- The flat table is the table of rows. -/
structure FT (n : Nat) (s : List Bool) (T : List (List Bool)) : Prop where
  len : s.length = n * n
  tl : T.length = n
  rl : ∀ i, i < n → (T.getD i []).length = n
  eq : ∀ i j, i < n → j < n → s.getD (i * n + j) false = getT T i j
theorem getT_setT {T : List (List Bool)} {n i j : Nat} {v : Bool} (hi : i < T.length) (hj : j < (T.getD i []).length) (i' j' : Nat) : getT (setT T i j v) i' j' = if i = i' ∧ j = j' then v else getT T i' j' := by
  unfold getT setT
  rw [getD_set_row _ _ _ _ hi]
  by_cases e : i = i'
  · subst e
    rw [if_pos rfl]
    generalize T.getD i [] = row at hj ⊢
    rw [List.getD_eq_getElem?_getD, List.getElem?_set]
    by_cases e2 : j = j'
    · subst e2; simp [hj]
    · rw [if_neg e2, if_neg (by simp [e2]), List.getD_eq_getElem?_getD]
  · rw [if_neg e, if_neg (by simp [e])]
theorem FT.shape {n : Nat} {s : List Bool} {T : List (List Bool)} (h : FT n s T) {i j : Nat} (v : Bool) (hi : i < n) : (setT T i j v).length = n ∧ ∀ k, k < n → ((setT T i j v).getD k []).length = n := by
  refine ⟨by simp [setT, h.tl], fun k hk => ?_⟩
  unfold setT
  rw [getD_set_row _ _ _ _ (by rw [h.tl]; exact hi)]
  split
  · rw [List.length_set]; exact h.rl i hi
  · exact h.rl k hk
theorem FT.put {n : Nat} {s : List Bool} {T : List (List Bool)} (h : FT n s T) {i j : Nat} (hi : i < n) (hj : j < n) : FT n (s.set (i * n + j) true) (setT T i j true) := by
  obtain ⟨h1, h2⟩ := h.shape (j := j) true hi
  refine ⟨by rw [List.length_set]; exact h.len, h1, h2, fun i' j' hi' hj' => ?_⟩
  rw [getD_set_b _ _ _ (by rw [h.len]; exact ix_lt hi hj), getT_setT (n := n) (by rw [h.tl]; exact hi) (by rw [h.rl i hi]; exact hj), h.eq i' j' hi' hj']
  by_cases e : i = i' ∧ j = j'
  · obtain ⟨rfl, rfl⟩ := e
    simp
  · rw [if_neg e, decide_eq_false (fun he => e (ix_inj hj hj' he)), Bool.false_or]
theorem FT.keep {n : Nat} {s : List Bool} {T : List (List Bool)} (h : FT n s T) {i j : Nat} (hi : i < n) (hj : j < n) (v : Bool) (hv : v = getT T i j) : FT n s (setT T i j v) := by
  obtain ⟨h1, h2⟩ := h.shape (j := j) v hi
  refine ⟨h.len, h1, h2, fun i' j' hi' hj' => ?_⟩
  rw [getT_setT (n := n) (by rw [h.tl]; exact hi) (by rw [h.rl i hi]; exact hj), h.eq i' j' hi' hj']
  by_cases e : i = i' ∧ j = j'
  · obtain ⟨rfl, rfl⟩ := e
    rw [if_pos ⟨rfl, rfl⟩, hv]
  · rw [if_neg e]
theorem FT.zero (n : Nat) : FT n (List.replicate (n * n) false) (cyc0 n) := by
  have hr : ∀ i, i < n → (cyc0 n).getD i [] = List.replicate n false := fun i hi => by simp [cyc0, List.getD_eq_getElem?_getD, List.getElem?_replicate, hi]
  refine ⟨by simp, by simp [cyc0], fun i hi => by rw [hr i hi]; simp, fun i j hi hj => ?_⟩
  unfold getT
  rw [hr i hi]
  cases h1 : (List.replicate (n * n) false).getD (i * n + j) false with
  | true => exact absurd h1 (rep_false _ _)
  | false =>
    cases h2 : (List.replicate n false).getD j false with
    | true => exact absurd h2 (rep_false _ _)
    | false => rfl
theorem FT.war {n : Nat} {s : List Bool} {T : List (List Bool)} (h : FT n s T) {m i j : Nat} (hm : m < n) (hi : i < n) (hj : j < n) : FT n (if s.getD (i * n + m) false = true ∧ s.getD (m * n + j) false = true then s.set (i * n + j) true else s) (warJ m i T j) := by
  unfold warJ
  rw [h.eq i m hi hm, h.eq m j hm hj]
  by_cases hc : getT T i m = true ∧ getT T m j = true
  · rw [if_pos hc, hc.1, hc.2, Bool.and_self, Bool.or_true]
    exact h.put hi hj
  · rw [if_neg hc]
    refine h.keep hi hj _ ?_
    rw [show (getT T i m && getT T m j) = false by
      cases h1 : getT T i m
      · rfl
      · cases h2 : getT T m j
        · rfl
        · exact absurd ⟨h1, h2⟩ hc, Bool.or_false]
theorem wrap_in (p : Nat) (x : Int) (hp : p ≤ 1000000) (h0 : -1000 ≤ x) (h1 : x < 0) : wrap64 (wrap64 (wrap64 (p : Int) - 1) - x) = ((p + (-1 - x).toNat : Nat) : Int) := by
  unfold wrap64
  omega
theorem ix_w2 {n : Nat} {h x : Int} (h0 : 0 ≤ h) (h1 : h ≤ 1000) (hn : n ≤ 1000) (x0 : -1000 ≤ x) (x1 : x < 0) : wrap64 (wrap64 (wrap64 (h * (n : Int)) - 1) - x) = ((h.toNat * n + (-1 - x).toNat : Nat) : Int) := by
  obtain ⟨i, rfl⟩ := Int.eq_ofNat_of_zero_le h0
  have := Nat.mul_le_mul (show i ≤ 1000 by omega) hn
  rw [Int.toNat_natCast, ← Int.natCast_mul]
  exact wrap_in _ x this x0 x1
theorem rcyc_pure {t n : Nat} {st : Int} {rules : List S41} {null : List Bool} (l0 l1 : List ByteArray) (hl1 : l1.length = n) (hg : GV t n st rules) (hnull : null.length = n) (hN : Ev (fun k => emendateref21_Nullable.f k l0 l1 st rules) null) : Ev (fun k => emendateref21_Cyclic.f k l0 l1 st rules) (cycF null n rules) := by
  have hlr := hg.rl
  have hn1 := hg.n1
  have ht1 := hg.t1
  have rdE : ∀ (s : List Bool) (j : Nat), rdOf false s (j : Int) = s.getD j false := fun s j => by rw [rdOf, Int.toNat_natCast]
  have hix : ∀ i a : Nat, i < n → a < n → Aside0 (wrap64 (wrap64 ((i : Int) * (n : Int)) + (a : Int)) = ((i * n + a : Nat) : Int)) := fun i a hi ha => ⟨by
    have := ix_w (t := n) (a := a) (h := (i : Int)) (by omega) (by omega) (by omega) (by omega)
    rwa [Int.toNat_natCast] at this⟩
  -- the diagonal
  have h5 : ∀ s T, FT n s T → ∀ d i, i + d = n → Ev (fun k => emendateref21_Cyclic.l5 k (n : Int) s ((List.range i).map (fun i => getT T i i) ++ List.replicate d false) (i : Int)) (cycOut n T) := by
    intro s T hT d
    induction d with
    | zero =>
      intro i hi
      obtain rfl : i = n := by omega
      refine Ev.succ ?_
      simp only [emendateref21_Cyclic.l5, if_neg (show ¬ (i : Int) < (i : Int) by omega)]
      simpa [cycOut] using Ev.const (cycOut i T)
    | succ d ih =>
      intro i hi
      have hin : i < n := by omega
      have b1 := ix_lt (t := n) (n := n) (i := i) (a := i) hin hin
      have ih' := ih (i + 1) (by omega)
      refine Ev.succ ?_
      simp only [emendateref21_Cyclic.l5, if_pos (show (i : Int) < (n : Int) by omega), (hix i i hin hin).out, if_pos (show (0 : Int) ≤ ((i * n + i : Nat) : Int) by omega), if_pos (show ((i * n + i : Nat) : Int) < (s.length : Int) by rw [hT.len]; exact Int.ofNat_lt.2 b1), if_pos (show (0 : Int) ≤ (i : Int) by omega), rdE, hT.eq i i hin hin, w1 i (by omega), Int.toNat_natCast]
      have hlen : (i : Int) < (((List.range i).map (fun i => getT T i i) ++ List.replicate (d + 1) false).length : Int) := by simp; omega
      simp only [if_pos hlen]
      have e : ((List.range i).map (fun i => getT T i i) ++ List.replicate (d + 1) false).set i (getT T i i) = (List.range (i + 1)).map (fun i => getT T i i) ++ List.replicate d false := by
        rw [List.range_succ, List.map_append, List.append_assoc, List.set_append_right _ _ (by simp)]
        simp [List.replicate_succ]
      rw [e]
      exact ih'
  -- the third loop
  have h4 : ∀ m i V, m < n → i < n → ∀ d j s T, j + d = n → FT n s T → (∀ s', FT n s' ((List.range' j d).foldl (warJ m i) T) → Ev (fun k => emendateref21_Cyclic.l3 k (n : Int) s' (m : Int) ((i + 1 : Nat) : Int)) V) → Ev (fun k => emendateref21_Cyclic.l4 k (n : Int) s (m : Int) (i : Int) (j : Int)) V := by
    intro m i V hm hi d
    induction d with
    | zero =>
      intro j s T hj hT h
      refine Ev.succ ?_
      simp only [emendateref21_Cyclic.l4, if_neg (show ¬ (j : Int) < (n : Int) by omega), w1 i (by omega)]
      exact h s hT
    | succ d ih =>
      intro j s T hj hT h
      have hjn : j < n := by omega
      have b1 := ix_lt (t := n) (n := n) (i := i) (a := m) hi hm
      have b2 := ix_lt (t := n) (n := n) (i := m) (a := j) hm hjn
      have b3 := ix_lt (t := n) (n := n) (i := i) (a := j) hi hjn
      have hw := hT.war hm hi hjn
      rw [List.range'_succ] at h
      have ih' := ih (j + 1) _ (warJ m i T j) (by omega) hw h
      refine Ev.succ ?_
      simp only [emendateref21_Cyclic.l4, if_pos (show (j : Int) < (n : Int) by omega), (hix i m hi hm).out, (hix m j hm hjn).out, (hix i j hi hjn).out, if_pos (show (0 : Int) ≤ ((i * n + m : Nat) : Int) by omega), if_pos (show ((i * n + m : Nat) : Int) < (s.length : Int) by rw [hT.len]; exact Int.ofNat_lt.2 b1), if_pos (show (0 : Int) ≤ ((m * n + j : Nat) : Int) by omega), if_pos (show ((m * n + j : Nat) : Int) < (s.length : Int) by rw [hT.len]; exact Int.ofNat_lt.2 b2), if_pos (show (0 : Int) ≤ ((i * n + j : Nat) : Int) by omega), if_pos (show ((i * n + j : Nat) : Int) < (s.length : Int) by rw [hT.len]; exact Int.ofNat_lt.2 b3), rdE, w1 j (by omega), Int.toNat_natCast]
      cases c1 : s.getD (i * n + m) false
      · simp only [if_neg (show ¬ false = true by simp)]
        rw [if_neg (by rw [c1]; simp)] at ih'
        exact ih'
      · simp only [if_true]
        cases c2 : s.getD (m * n + j) false
        · simp only [if_neg (show ¬ false = true by simp)]
          rw [if_neg (by rw [c2]; simp)] at ih'
          exact ih'
        · simp only [if_true]
          rw [if_pos ⟨c1, c2⟩] at ih'
          exact ih'
  have h3 : ∀ m V, m < n → ∀ d i s T, i + d = n → FT n s T → (∀ s', FT n s' ((List.range' i d).foldl (warI n m) T) → Ev (fun k => emendateref21_Cyclic.l2 k (n : Int) s' ((m + 1 : Nat) : Int)) V) → Ev (fun k => emendateref21_Cyclic.l3 k (n : Int) s (m : Int) (i : Int)) V := by
    intro m V hm d
    induction d with
    | zero =>
      intro i s T hi hT h
      refine Ev.succ ?_
      simp only [emendateref21_Cyclic.l3, if_neg (show ¬ (i : Int) < (n : Int) by omega), w1 m (by omega)]
      exact h s hT
    | succ d ih =>
      intro i s T hi hT h
      rw [List.range'_succ] at h
      refine Ev.succ ?_
      simp only [emendateref21_Cyclic.l3, if_pos (show (i : Int) < (n : Int) by omega)]
      refine h4 m i V hm (by omega) n 0 s T (by omega) hT (fun s' hs' => ?_)
      refine ih (i + 1) s' (warI n m T i) (by omega) ?_ h
      rw [warI, List.range_eq_range']
      exact hs'
  have h2 : ∀ V, ∀ d m s T, m + d = n → FT n s T → (∀ s', FT n s' ((List.range' m d).foldl (warK n) T) → Ev (fun k => emendateref21_Cyclic.l5 k (n : Int) s' (List.replicate n false) 0) V) → Ev (fun k => emendateref21_Cyclic.l2 k (n : Int) s (m : Int)) V := by
    intro V d
    induction d with
    | zero =>
      intro m s T hm hT h
      refine Ev.succ ?_
      simp only [emendateref21_Cyclic.l2, if_neg (show ¬ (m : Int) < (n : Int) by omega), if_pos (show (0 : Int) ≤ (n : Int) by omega), Int.toNat_natCast, if_pos (show n ≤ 281474976710656 by omega)]
      exact h s hT
    | succ d ih =>
      intro m s T hm hT h
      rw [List.range'_succ] at h
      refine Ev.succ ?_
      simp only [emendateref21_Cyclic.l2, if_pos (show (m : Int) < (n : Int) by omega)]
      refine h3 m V (by omega) n 0 s T (by omega) hT (fun s' hs' => ?_)
      refine ih (m + 1) s' (warK n T m) (by omega) ?_ h
      rw [warK, List.range_eq_range']
      exact hs'
  -- the rules
  have h0 : ∀ V, ∀ d i s T, i + d = rules.length → FT n s T → (∀ s', FT n s' ((rules.drop i).foldl (cycRule null) T) → Ev (fun k => emendateref21_Cyclic.l2 k (n : Int) s' 0) V) → Ev (fun k => emendateref21_Cyclic.l0 k (n : Int) null s (i : Int) l0 l1 st rules) V := by
    intro V d
    induction d with
    | zero =>
      intro i s T hi hT h
      refine Ev.succ ?_
      simp only [emendateref21_Cyclic.l0, if_neg (show ¬ (i : Int) < (rules.length : Int) by omega)]
      rw [List.drop_eq_nil_of_le (by omega)] at h
      exact h s hT
    | succ d ih =>
      intro i s T hi hT h
      have hlt : i < rules.length := by omega
      have hmem := List.getElem_mem hlt
      rw [List.drop_eq_getElem_cons hlt, List.foldl_cons] at h
      have er := rd_T41_get rules i hlt
      have ih' : ∀ s', FT n s' (cycRule null T rules[i]) → Ev (fun k => emendateref21_Cyclic.l0 k (n : Int) null s' ((i + 1 : Nat) : Int) l0 l1 st rules) V := fun s' hs' => ih (i + 1) s' (cycRule null T rules[i]) (by omega) hs' h
      clear h ih
      generalize rules[i] = r at ih' hmem er
      have hh := hg.head _ hmem
      have hb := hg.bl _ hmem
      have hsy := hg.sym _ hmem
      have body : ∀ e u s T, u + e = r.f1.length → FT n s T → (∀ s', FT n s' ((List.range' u e).foldl (cycAt null r) T) → Ev (fun k => emendateref21_Cyclic.l0 k (n : Int) null s' ((i + 1 : Nat) : Int) l0 l1 st rules) V) → Ev (fun k => emendateref21_Cyclic.l1 k (n : Int) null s (i : Int) (u : Int) l0 l1 st rules r.f0 r.f1 r.f2) V := by
        intro e
        induction e with
        | zero =>
          intro u s T hu hT h
          refine Ev.succ ?_
          simp only [emendateref21_Cyclic.l1, if_neg (show ¬ (u : Int) < (r.f1.length : Int) by omega), w1 i (by omega)]
          exact h s hT
        | succ e ihe =>
          intro u s T hu hT h
          have hul : u < r.f1.length := by omega
          have hm := hsy _ (List.getElem_mem hul)
          rw [List.range'_succ, List.foldl_cons] at h
          have hall1 := all_pure (tm := false) hnull hn1 (l := r.f1.take u) (by rw [List.length_take]; omega) (fun y hy => by have := hsy y (List.mem_of_mem_take hy); omega)
          have hall2 := all_pure (tm := false) hnull hn1 (l := r.f1.drop (u + 1)) (by rw [List.length_drop]; omega) (fun y hy => by have := hsy y (List.mem_of_mem_drop hy); omega)
          rw [okSym_false] at hall1 hall2
          have hcy : cycAt null r T u = if r.f1[u] < 0 ∧ (r.f1.take u).all (nullSym null) = true ∧ (r.f1.drop (u + 1)).all (nullSym null) = true then setT T r.f0.toNat (-1 - r.f1[u]).toNat true else T := by
            unfold cycAt restOf
            rw [getD_at _ _ hul, List.all_append]
            by_cases hc : r.f1[u] < 0 ∧ (r.f1.take u).all (nullSym null) = true ∧ (r.f1.drop (u + 1)).all (nullSym null) = true
            · rw [if_pos hc, if_pos (by simp only [Bool.and_eq_true, decide_eq_true_eq]; exact hc)]
            · rw [if_neg hc, if_neg (by simp only [Bool.and_eq_true, decide_eq_true_eq]; exact hc)]
          rw [hcy] at h
          refine Ev.succ ?_
          simp only [emendateref21_Cyclic.l1, if_pos (show (u : Int) < (r.f1.length : Int) by omega), if_pos (show (0 : Int) ≤ (u : Int) by omega), getD_rd _ u hul, if_pos (show (u : Int) ≤ (r.f1.length : Int) by omega), Int.toNat_natCast, w1 u (by omega), if_pos (show (0 : Int) ≤ ((u + 1 : Nat) : Int) by omega), if_pos (show ((u + 1 : Nat) : Int) ≤ (r.f1.length : Int) by omega)]
          by_cases hx : r.f1[u] < 0
          · simp only [if_pos hx]
            refine Ev.bind hall1 ?_
            cases c1 : (r.f1.take u).all (nullSym null) with
            | false =>
              simp only [if_neg (show ¬ false = true by simp)]
              rw [if_neg (by rw [c1]; simp)] at h
              exact ihe (u + 1) s T (by omega) hT h
            | true =>
              simp only [if_true]
              refine Ev.bind hall2 ?_
              cases c2 : (r.f1.drop (u + 1)).all (nullSym null) with
              | false =>
                simp only [if_neg (show ¬ false = true by simp)]
                rw [if_neg (by rw [c2]; simp)] at h
                exact ihe (u + 1) s T (by omega) hT h
              | true =>
                rw [if_pos ⟨hx, c1, c2⟩] at h
                have b1 := ix_lt (t := n) (n := n) (i := r.f0.toNat) (a := (-1 - r.f1[u]).toNat) (by omega) (by omega)
                have I1 := Aside0.mk (ix_w2 (n := n) (h := r.f0) (x := r.f1[u]) hh.1 (by omega) hn1 (by omega) hx)
                simp only [if_true, I1.out, if_pos (show (0 : Int) ≤ ((r.f0.toNat * n + (-1 - r.f1[u]).toNat : Nat) : Int) by omega), if_pos (show ((r.f0.toNat * n + (-1 - r.f1[u]).toNat : Nat) : Int) < (s.length : Int) by rw [hT.len]; exact Int.ofNat_lt.2 b1), Int.toNat_natCast]
                exact ihe (u + 1) _ _ (by omega) (hT.put (by omega) (by omega)) h
          · simp only [if_neg hx]
            rw [if_neg (by simp [hx])] at h
            exact ihe (u + 1) s T (by omega) hT h
      refine Ev.succ ?_
      simp only [emendateref21_Cyclic.l0, if_pos (show (i : Int) < (rules.length : Int) by omega), if_pos (show (0 : Int) ≤ (i : Int) by omega), er]
      refine body r.f1.length 0 s T (by omega) hT (fun s' hs' => ih' s' ?_)
      rw [cycRule, List.range_eq_range']
      exact hs'
  have hmul := Nat.mul_le_mul hn1 hn1
  have I2 := Aside0.mk (show wrap64 ((n : Int) * (n : Int)) = ((n * n : Nat) : Int) by
    rw [← Int.natCast_mul]
    unfold wrap64
    omega)
  unfold emendateref21_Cyclic.f
  refine Ev.bind hN ?_
  simp only [hl1, I2.out, if_pos (show (0 : Int) ≤ ((n * n : Nat) : Int) by omega), Int.toNat_natCast, if_pos (show n * n ≤ 281474976710656 by omega)]
  refine h0 _ rules.length 0 _ (cyc0 n) (by omega) (FT.zero n) (fun s' hs' => ?_)
  rw [List.drop_zero] at hs'
  refine h2 _ n 0 s' _ (by omega) hs' (fun s2 hs2 => ?_)
  have e : (List.range' 0 n).foldl (warK n) (rules.foldl (cycRule null) (cyc0 n)) = warS n (rules.foldl (cycRule null) (cyc0 n)) := by rw [warS, List.range_eq_range']
  rw [e] at hs2
  have := h5 s2 _ hs2 n 0 (by omega)
  simpa [cycF] using this
end Go.Proofs.Ytkaedhooccpniaa.Hand
