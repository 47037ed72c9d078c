import Derived.Test.YtkaedhooccpniaaPureReach
import Derived.Test.YtkaedhooccpniaaPAx11
/- Reachable, plain Lean: the reference's. -/
namespace Go.Proofs.Ytkaedhooccpniaa.Hand
open Go.RowKit Go.Proofs.YtkaedhooccpniaaW.PrintWords Go.Proofs.YtkaedhooccpniaaW.PrintLast Go.Proofs.YtkaedhooccpniaaW.PrintMore Go.Proofs.Ytkaedhooccpniaa.PA
set_option linter.unusedVariables false
set_option linter.unusedSimpArgs false
/-- The reference's. -/
theorem rreach_pure {t n : Nat} {st : Int} {rules : List S41} (l0 l1 : List ByteArray) (hl1 : l1.length = n) (hg : GV t n st rules) : ∃ bs, Ev (fun k => emendateref21_Reachable.f k l0 l1 st rules) bs ∧ RcL n st rules bs := by
  have hlr := hg.rl
  have hn1 := hg.n1
  have key : ∀ m (bs : List Bool), RcS n st rules bs → n - bs.count true ≤ m → ∃ r, Ev (fun k => emendateref21_Reachable.l0 k bs true l0 l1 st rules) r ∧ RcL n st rules r := by
    intro m
    induction m using Nat.strongRecOn with
    | _ m ihm =>
    intro bs hs hm
    have inner : ∀ d i (cs : List Bool) (ch : Bool), i + d = rules.length → RcS n st rules cs → (ch = true → bs.count true < cs.count true) → (ch = false → cs = bs ∧ ∀ j (hj : j < rules.length), j < i → RcDone bs rules[j]) →
        ∃ r, Ev (fun k => emendateref21_Reachable.l1 k cs ch (i : Int) l0 l1 st rules) r ∧ RcL n st rules r := by
      intro d
      induction d with
      | zero =>
        intro i cs ch hi hc h1 h2
        cases ch
        · obtain ⟨rfl, h3⟩ := h2 rfl
          refine ⟨cs, Ev.succ (Ev.succ ?_), hs.done (t := t) (fun r hr => ?_)⟩
          · simp only [emendateref21_Reachable.l1, if_neg (show ¬ (i : Int) < (rules.length : Int) by omega), emendateref21_Reachable.l0]
            exact Ev.const _
          · obtain ⟨j, hj, rfl⟩ := List.getElem_of_mem hr
            exact h3 j hj (by omega)
        · have h3 := h1 rfl
          have h4 := count_le hc.len
          obtain ⟨r, k1, k2⟩ := ihm (n - cs.count true) (by omega) cs hc (Nat.le_refl _)
          refine ⟨r, Ev.succ ?_, k2⟩
          simp only [emendateref21_Reachable.l1, if_neg (show ¬ (i : Int) < (rules.length : Int) by omega)]
          exact k1
      | succ d ih =>
        intro i cs ch hi hc h1 h2
        have hlt : i < rules.length := by omega
        have hmem := List.getElem_mem hlt
        have hh := hg.head _ hmem
        have hb := hg.bl _ hmem
        have hsy := hg.sym _ hmem
        have g1 : (i : Int) < (rules.length : Int) := by omega
        have g2 : (0 : Int) ≤ (i : Int) := by omega
        have body : ∀ e u (ds : List Bool) (dh : Bool), u + e = rules[i].f1.length → RcS n st rules ds → (dh = true → bs.count true < ds.count true) → (dh = false → ds = bs ∧ (∀ j (hj : j < rules.length), j < i → RcDone bs rules[j]) ∧ ∀ v (hv : v < rules[i].f1.length), v < u → rdOf false bs rules[i].f0 = true → rules[i].f1[v] < 0 → rdOf false bs (-1 - rules[i].f1[v]) = true) →
            ∃ r, Ev (fun k => emendateref21_Reachable.l2 k ds dh (i : Int) (u : Int) l0 l1 st rules rules[i].f0 rules[i].f1 rules[i].f2) r ∧ RcL n st rules r := by
          intro e
          induction e with
          | zero =>
            intro u ds dh hu hd p1 p2
            obtain ⟨r, k1, k2⟩ := ih (i + 1) ds dh (by omega) hd p1 (fun q => by
              obtain ⟨a, b, c⟩ := p2 q
              refine ⟨a, fun j hj hji => ?_⟩
              by_cases ej : j = i
              · subst ej
                intro hq x hx h0
                obtain ⟨v, hv, rfl⟩ := List.getElem_of_mem hx
                exact c v hv (by omega) hq h0
              · exact b j hj (by omega))
            refine ⟨r, Ev.succ (Ev.succ ?_), k2⟩
            simp only [emendateref21_Reachable.l2, if_neg (show ¬ (u : Int) < (rules[i].f1.length : Int) by omega), emendateref21_Reachable.j3, if_neg (show ¬ false = true by simp), w1 i (by omega)]
            exact k1
          | succ e ihe =>
            intro u ds dh hu hd p1 p2
            have hul : u < rules[i].f1.length := by omega
            have q1 : (u : Int) < (rules[i].f1.length : Int) := by omega
            have q2 : (0 : Int) ≤ (u : Int) := by omega
            have hdl := hd.len
            have hm2 := List.getElem_mem hul
            have hx := hsy _ hm2
            cases hq : rdOf false ds rules[i].f0 with
            | false =>
              obtain ⟨r, k1, k2⟩ := ih (i + 1) ds dh (by omega) hd p1 (fun q => by
                obtain ⟨rfl, b, c⟩ := p2 q
                refine ⟨rfl, fun j hj hji => ?_⟩
                by_cases ej : j = i
                · subst ej
                  intro hq' x hx h0
                  rw [hq] at hq'
                  cases hq'
                · exact b j hj (by omega))
              refine ⟨r, Ev.succ (Ev.succ ?_), k2⟩
              simp only [emendateref21_Reachable.l2, if_pos q1, if_pos hh.1, if_pos (show rules[i].f0 < (ds.length : Int) by omega), emendateref21_Reachable.j3, hq, if_neg (show ¬ false = true by simp), w1 i (by omega)]
              exact k1
            | true =>
              have e1 : ∀ k, emendateref21_Reachable.l2 (k + 1 + 1) ds dh (i : Int) (u : Int) l0 l1 st rules rules[i].f0 rules[i].f1 rules[i].f2 = if rules[i].f1[u] < 0 then (if rdOf false ds (-1 - rules[i].f1[u]) = true then emendateref21_Reachable.l2 k ds dh (i : Int) ((u + 1 : Nat) : Int) l0 l1 st rules rules[i].f0 rules[i].f1 rules[i].f2 else emendateref21_Reachable.l2 k (ds.set (-1 - rules[i].f1[u]).toNat true) true (i : Int) ((u + 1 : Nat) : Int) l0 l1 st rules rules[i].f0 rules[i].f1 rules[i].f2) else emendateref21_Reachable.l2 k ds dh (i : Int) ((u + 1 : Nat) : Int) l0 l1 st rules rules[i].f0 rules[i].f1 rules[i].f2 := fun k => by
                simp only [emendateref21_Reachable.l2, if_pos q1, if_pos hh.1, if_pos (show rules[i].f0 < (ds.length : Int) by omega), emendateref21_Reachable.j3, hq, if_true, if_pos q2, w1 u (by omega), getD_rd _ u hul]
                by_cases h0 : rules[i].f1[u] < 0
                · have hw : wrap64 (-1 - rules[i].f1[u]) = -1 - rules[i].f1[u] := by unfold wrap64; omega
                  simp only [if_pos h0, hw, if_pos (show 0 ≤ -1 - rules[i].f1[u] by omega), if_pos (show -1 - rules[i].f1[u] < (ds.length : Int) by omega)]
                · simp only [if_neg h0]
              have nochange : (rules[i].f1[u] < 0 → rdOf false ds (-1 - rules[i].f1[u]) = true) → ∃ r, Ev (fun k => emendateref21_Reachable.l2 k ds dh (i : Int) ((u + 1 : Nat) : Int) l0 l1 st rules rules[i].f0 rules[i].f1 rules[i].f2) r ∧ RcL n st rules r := fun hno => ihe (u + 1) ds dh (by omega) hd p1 (fun q => by
                obtain ⟨rfl, b, c⟩ := p2 q
                refine ⟨rfl, b, fun v hv hvu hq' h0 => ?_⟩
                by_cases ev : v = u
                · subst ev; exact hno h0
                · exact c v hv (by omega) hq' h0)
              by_cases h0 : rules[i].f1[u] < 0
              · cases hz : rdOf false ds (-1 - rules[i].f1[u]) with
                | true =>
                  obtain ⟨r, k1, k2⟩ := nochange (fun _ => hz)
                  refine ⟨r, Ev.succ (Ev.succ ?_), k2⟩
                  simp only [e1, if_pos h0, hz, if_true]
                  exact k1
                | false =>
                  have hcnt := count_set (row := ds) (i := (-1 - rules[i].f1[u]).toNat) (by omega) hz
                  obtain ⟨r, k1, k2⟩ := ihe (u + 1) (ds.set (-1 - rules[i].f1[u]).toNat true) true (by omega) (hd.set hg hmem hq hm2 h0) (fun _ => by
                    rw [hcnt]
                    cases dh
                    · obtain ⟨rfl, _⟩ := p2 rfl; omega
                    · have := p1 rfl; omega) (fun q => by cases q)
                  refine ⟨r, Ev.succ (Ev.succ ?_), k2⟩
                  simp only [e1, if_pos h0, hz, if_neg (show ¬ false = true by simp)]
                  exact k1
              · obtain ⟨r, k1, k2⟩ := nochange (fun h => absurd h h0)
                refine ⟨r, Ev.succ (Ev.succ ?_), k2⟩
                simp only [e1, if_neg h0]
                exact k1
        obtain ⟨r, k1, k2⟩ := body rules[i].f1.length 0 cs ch (by omega) hc h1 (fun q => ⟨(h2 q).1, (h2 q).2, fun v _ h => absurd h (Nat.not_lt_zero _)⟩)
        refine ⟨r, Ev.succ ?_, k2⟩
        simp only [emendateref21_Reachable.l1, if_pos g1, if_pos g2, rd_T41_get rules i hlt]
        exact k1
    obtain ⟨r, k1, k2⟩ := inner rules.length 0 bs false (by omega) hs (fun e => by cases e) (fun _ => ⟨rfl, fun j _ h => absurd h (Nat.not_lt_zero _)⟩)
    refine ⟨r, Ev.succ ?_, k2⟩
    simp only [emendateref21_Reachable.l0, if_true]
    exact k1
  obtain ⟨r, k1, k2⟩ := key n _ (RcS.zero hg) (by omega)
  refine ⟨r, ?_, k2⟩
  have h0 := hg.st0
  have h1 := hg.st1
  simp only [emendateref21_Reachable.f, if_pos (show (0 : Int) ≤ (l1.length : Int) by omega), Int.toNat_natCast, if_pos (show l1.length ≤ 281474976710656 by omega), Option.bind_some, List.length_replicate, if_pos h0, if_pos (show st < (l1.length : Int) by omega)]
  rw [hl1]
  exact k1
end Go.Proofs.Ytkaedhooccpniaa.Hand
