import Derived.Test.YtkaedhooccpniaaHandM3
import Derived.Test.YtkaedhooccpniaaHandM1
import Derived.Test.YtkaedhooccpniaaHandCyc1
import Derived.Test.YtkaedhooccpniaaPureSame
/- The contracts of the chapter's functions, in one form, over a grammar in memory. -/
namespace Go.Proofs.Ytkaedhooccpniaa.Hand
open Go.RowKit Go.Proofs.YtkaedhooccpniaaW.PrintWords Go.Proofs.YtkaedhooccpniaaW.PrintLast Go.Proofs.YtkaedhooccpniaaW.PrintMore Go.Proofs.Ytkaedhooccpniaa.PA
set_option linter.unusedVariables false
set_option linter.unusedSimpArgs false
/-- A grammar that lies in memory. -/
structure GA (A0 : Option Addr) (c0 : Nat) (l0 : List ByteArray) (A1 : Option Addr) (c1 : Nat) (l1 : List ByteArray) (A3 : Option Addr) (c3 : Nat) (rules : List S41) (W : World) : Prop where
  r0 : Kd.C Kd.string W A0 l0.length l0
  k0 : l0.length ≤ c0
  r1 : Kd.C Kd.string W A1 l1.length l1
  k1 : l1.length ≤ c1
  r3 : Kd.C k41 W A3 rules.length rules
  k3 : rules.length ≤ c3
/-- A list of bools comes back. -/
def RetB (n : Nat) (bs : List Bool) (W : World) (e : Ending) (w' : World) : Prop := ∃ A c, e = .returned (.slice A n c) ∧ Aside0 (Kd.C Kd.bool w' A n bs ∧ n ≤ c) ∧ Below W.heap.size W w'
/-- A list of lists of numbers comes back. -/
def RetL (n : Nat) (ls : List (List Int)) (W : World) (e : Ending) (w' : World) : Prop := ∃ A c, e = .returned (.slice A n c) ∧ Aside0 (Kd.C (Kd.slice 3 (Kd.int .i64)) w' A n ls ∧ n ≤ c) ∧ Below W.heap.size W w'
section
variable {A0 : Option Addr} {c0 : Nat} {l0 : List ByteArray} {A1 : Option Addr} {c1 : Nat} {l1 : List ByteArray} {A3 : Option Addr} {c3 : Nat} {rules : List S41} {W W' : World} {st : Int}
theorem GA.below (h : GA A0 c0 l0 A1 c1 l1 A3 c3 rules W) (hb : Below W.heap.size W W') : GA A0 c0 l0 A1 c1 l1 A3 c3 rules W' := ⟨Kd.C_below h.r0 hb, h.k0, Kd.C_below h.r1 hb, h.k1, Kd.C_below h.r3 hb, h.k3⟩
theorem retB {n : Nat} {bs : List Bool} {e : Ending} {w' : World} (hn : bs.length = n) (h : ∃ v0_ : Value, e = .returned v0_ ∧ Kd.R Kd.bool 4 w' W.heap.size (fun _ => True) v0_ bs ∧ Below W.heap.size W w') : RetB n bs W e w' := by
  subst hn
  obtain ⟨v, rfl, hR, hb⟩ := h
  obtain ⟨A, c, rfl, hl, hC⟩ := Kd.R_reads hR
  exact ⟨A, c, rfl, ⟨hC, hl⟩, hb⟩
theorem retL {n : Nat} {ls : List (List Int)} {e : Ending} {w' : World} (hn : ls.length = n) (h : ∃ v0_ : Value, e = .returned v0_ ∧ Rd (Kd.slice 3 (Kd.int .i64)) w' v0_ ls ∧ Below W.heap.size W w') : RetL n ls W e w' := by
  subst hn
  obtain ⟨v, rfl, ⟨A, c, rfl, hl, hC⟩, hb⟩ := h
  exact ⟨A, c, rfl, ⟨hC, hl⟩, hb⟩
theorem use13 (h : GA A0 c0 l0 A1 c1 l1 A3 c3 rules W) {bs : List Bool} (hn : bs.length = l1.length) (hf : ∃ k, heads.f false k l0 l1 st rules = some bs) : Calls Try.prog 13 #[.agg #[.slice A0 l0.length c0, .slice A1 l1.length c1, .int .i64 st, .slice A3 rules.length c3]] W (RetB l1.length bs W) := by
  obtain ⟨k, hf⟩ := hf
  exact (analysis_Nullable.calls k A0 c0 l0 A1 c1 l1 st A3 c3 rules bs W h.r0 h.k0 h.r1 h.k1 h.r3 h.k3 hf).mono fun e w' h => retB hn h
theorem use15 (h : GA A0 c0 l0 A1 c1 l1 A3 c3 rules W) {bs : List Bool} (hn : bs.length = l1.length) (hf : ∃ k, heads.f true k l0 l1 st rules = some bs) : Calls Try.prog 15 #[.agg #[.slice A0 l0.length c0, .slice A1 l1.length c1, .int .i64 st, .slice A3 rules.length c3]] W (RetB l1.length bs W) := by
  obtain ⟨k, hf⟩ := hf
  exact (analysis_Productive.calls k A0 c0 l0 A1 c1 l1 st A3 c3 rules bs W h.r0 h.k0 h.r1 h.k1 h.r3 h.k3 hf).mono fun e w' h => retB hn h
theorem use17 (h : GA A0 c0 l0 A1 c1 l1 A3 c3 rules W) {bs : List Bool} (hn : bs.length = l1.length) (hf : ∃ k, reach.f k l0 l1 st rules = some bs) : Calls Try.prog 17 #[.agg #[.slice A0 l0.length c0, .slice A1 l1.length c1, .int .i64 st, .slice A3 rules.length c3]] W (RetB l1.length bs W) := by
  obtain ⟨k, hf⟩ := hf
  exact (analysis_Reachable.calls k A0 c0 l0 A1 c1 l1 st A3 c3 rules bs W h.r0 h.k0 h.r1 h.k1 h.r3 h.k3 hf).mono fun e w' h => retB hn h
theorem C_bools {w : World} {b : Nat} {xs : List Bool} {t : Nat} (h : w.heap[b]? = some (.cells (xs.map Value.bool).toArray t (0, 0))) (hm : xs.length ≤ 1000000000) : Kd.C Kd.bool w (some ⟨b, 0, none⟩) xs.length xs := by
  refine ⟨rfl, by omega, fun _ => ⟨_, rfl, fun j p hj => ⟨[.bool p], rfl, rfl, fun i u hu => ?_⟩⟩⟩
  match i, hu with
  | 0, hu =>
    have := cell_of_block h j (.bool p) (by simp [hj])
    obtain rfl : Value.bool p = u := by simpa using hu
    have e : Addr.add ⟨b, 0, none⟩ (j * Kd.bool.sz + 0) = ⟨b, j, none⟩ := by
      simp [Addr.add, Kd.bool, Kd.scalar]
      intro h; exact h.symm
    rw [e]
    exact this
theorem cycF_len (null : List Bool) (n : Nat) (rules : List S41) : (cycF null n rules).length = n := by simp [cycF, cycOut]
theorem use19 (h : GA A0 c0 l0 A1 c1 l1 A3 c3 rules W) (hl1 : l1.length ≤ 1000000000) (hG : GOK l1.length rules) (hB : ∀ r ∈ rules, r.f1.length ≤ 1000) {null : List Bool} (hnl : null.length = l1.length) (hf : ∃ k, heads.f false k l0 l1 st rules = some null) :
    Calls Try.prog 19 #[.agg #[.slice A0 l0.length c0, .slice A1 l1.length c1, .int .i64 st, .slice A3 rules.length c3]] W (RetB l1.length (cycF null l1.length rules) W) := by
  refine (cyclic_walk A0 l0.length c0 A1 l1.length c1 st A3 c3 rules null W hl1 hG hB h.r3 h.k3 hnl (fun W' hb => ?_)).mono ?_
  · refine (use13 (h.below hb) hnl hf).mono ?_
    rintro e w' ⟨A, c, he, hC, hb⟩
    exact ⟨A, c, he, hC, hb⟩
  · rintro e w' ⟨g, rfl, hg, hle, hb⟩
    have := C_bools hg (by rw [cycF_len]; exact hl1)
    rw [cycF_len] at this
    exact ⟨_, _, rfl, ⟨this, Nat.le_refl _⟩, hb⟩
theorem listsOf_len (tab : List (List Bool)) (n : Nat) (a b : Int) : (listsOf tab n a b).length = n := by simp [listsOf]
theorem use22 (h : GA A0 c0 l0 A1 c1 l1 A3 c3 rules W) {null : List Bool} {ftab : List (List Bool)} (hT : TOK (l0.length + 1) rules) (hl0 : l0.length ≤ 100000) (hf : ∃ k, heads.f false k l0 l1 st rules = some null ∧ run (firstStep (l0.length + 1) null) rules k (noSets l1.length (l0.length + 1)) = some ftab) :
    Calls Try.prog 22 #[.agg #[.slice A0 l0.length c0, .slice A1 l1.length c1, .int .i64 st, .slice A3 rules.length c3]] W (RetL l1.length (listsOf ftab l1.length 0 l0.length) W) := by
  obtain ⟨k, hf, hr⟩ := hf
  exact (first_calls k A0 c0 l0 A1 c1 l1 st A3 c3 rules null ftab W h.r0 h.k0 h.r1 h.k1 h.r3 h.k3 hf hT hl0 hr).mono fun e w' h => retL (listsOf_len _ _ _ _) h
theorem use24 (h : GA A0 c0 l0 A1 c1 l1 A3 c3 rules W) {null : List Bool} {ftab tab : List (List Bool)} (hT : TOK (l0.length + 1) rules) (hl0 : l0.length ≤ 100000) (hf : ∃ k, heads.f false k l0 l1 st rules = some null ∧ run (firstStep (l0.length + 1) null) rules k (noSets l1.length (l0.length + 1)) = some ftab ∧ run (folStep (l0.length + 1) null ftab) rules k (folInit l1.length (l0.length + 1) st) = some tab) :
    Calls Try.prog 24 #[.agg #[.slice A0 l0.length c0, .slice A1 l1.length c1, .int .i64 st, .slice A3 rules.length c3]] W (RetL l1.length (listsOf tab l1.length (-1) l0.length) W) := by
  obtain ⟨k, hf, hr, hr2⟩ := hf
  exact (follow_calls k A0 c0 l0 A1 c1 l1 st A3 c3 rules null ftab tab W h.r0 h.k0 h.r1 h.k1 h.r3 h.k3 hf hT hl0 hr hr2).mono fun e w' h => retL (listsOf_len _ _ _ _) h
theorem use12 {n : Nat} {bs : List Bool} {A A' : Option Addr} {c c' : Nat} (hn : n ≤ 1000000) (h : Kd.C Kd.bool W A n bs) (hc : n ≤ c) (h' : Kd.C Kd.bool W A' n bs) (hc' : n ≤ c') : Calls Try.prog 12 #[.slice A n c, .slice A' n c'] W fun e w' => e = .returned (.bool true) ∧ Below W.heap.size W w' := by
  obtain rfl : n = bs.length := h.1.symm
  obtain ⟨k, hk⟩ := (sameBools_pure bs hn).get
  exact (emendateref21_SameBools.calls k A c bs A' c' bs true W h hc h' hc' hk).mono fun e w' h => ⟨h.1, h.2.below⟩
theorem use21 {n : Nat} {ls : List (List Int)} {A A' : Option Addr} {c c' : Nat} (hn : n ≤ 1000000) (hls : ∀ l ∈ ls, l.length ≤ 1000000) (h : Kd.C (Kd.slice 3 (Kd.int .i64)) W A n ls) (hc : n ≤ c) (h' : Kd.C (Kd.slice 3 (Kd.int .i64)) W A' n ls) (hc' : n ≤ c') : Calls Try.prog 21 #[.slice A n c, .slice A' n c'] W fun e w' => e = .returned (.bool true) ∧ Below W.heap.size W w' := by
  obtain rfl : n = ls.length := h.1.symm
  obtain ⟨k, hk⟩ := (same_pure ls hn hls).get
  exact (emendateref21_Same.calls k A c ls A' c' ls true W h hc h' hc' hk).mono fun e w' h => ⟨h.1, h.2.below⟩
end
end Go.Proofs.Ytkaedhooccpniaa.Hand
