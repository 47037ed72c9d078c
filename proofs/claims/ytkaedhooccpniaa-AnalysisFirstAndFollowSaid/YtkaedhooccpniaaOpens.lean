/- What an argument reads as, told by the printed kinds: one law a type former. -/
import Derived.Test.YtkaedhooccpniaaWWords
import Derived.Deep.Slices
import Derived.Lib.SmallJoins
import Derived.OpenShut
namespace Go.Proofs.YtkaedhooccpniaaW.Opening
open Go.RowKit Go.ChangeShapes Go.WideShapes Go.Deep Go.Proofs.YtkaedhooccpniaaW.PrintWords

section
variable {H : Type} {enc : TypeId × Value → H} {P : Program} {w : World} {base : Nat} {spare : Nat → Bool} {held : Bool}
/-- What reads at type t is of kind d, and meets G. -/
def Opens (enc : TypeId × Value → H) (P : Program) (w : World) (base : Nat) (spare : Nat → Bool) (held : Bool) (t : TypeId) {α : Type} (d : Kd α) (G : α → Prop) : Prop :=
  ∀ fuel cs x, DataW.trod enc P w base spare held fuel t cs = some x → ∃ a, d.K w a cs ∧ G a

theorem Opens.int {t : TypeId} {k : IntKind} (ht : P.underlying t = some (.int k)) : Opens enc P w base spare held t (Kd.int k) (fun n => (Lit.int k n).wf = true) := fun fuel cs x h => by
  obtain ⟨n, rfl, _, hw⟩ := DataW.trod_int ht h
  exact ⟨n, rfl, hw⟩
theorem Opens.bool {t : TypeId} (ht : P.underlying t = some .bool) : Opens enc P w base spare held t Kd.bool (fun _ => True) := fun fuel cs x h => by
  obtain ⟨n, rfl, _⟩ := DataW.trod_bool ht h
  exact ⟨n, rfl, trivial⟩
theorem Opens.string {t : TypeId} (ht : P.underlying t = some .string) : Opens enc P w base spare held t Kd.string (fun s => s.size ≤ maxLen) := fun fuel cs x h => by
  obtain ⟨n, rfl, _, hw⟩ := DataW.trod_string ht h
  exact ⟨n, rfl, hw⟩
theorem Opens.slice {t e e' : TypeId} {α : Type} {d : Kd α} {G : α → Prop} (ht : P.underlying t = some (.slice e)) (hsz : P.cellsOf e = d.sz) (he : Opens enc P w base spare held e d G) :
    Opens enc P w base spare held t (Kd.slice e' d) (fun xs => xs.length ≤ maxLen ∧ ∀ x ∈ xs, G x) := fun fuel cs x h => by
  rcases open_slice ht h with ⟨rfl, _⟩ | ⟨a, len, cap, m, n, D, Pl, rfl, _, hl, hm, hmm, _, hx⟩
  · exact ⟨[], ⟨none, 0, rfl, Nat.le_refl _, rfl, by simp, fun h => absurd h (Nat.lt_irrefl _)⟩, by simp, by simp⟩
  · have hle : len ≤ m := by rw [hmm]; split <;> omega
    have hall : ∀ i, i < len → ∃ z : α, G z ∧ ∃ c : List Value, c.length = d.sz ∧ d.K w z c ∧ ∀ j u, c[j]? = some u → w.cell? (a.add (i * d.sz + j)) = some u := fun i hi => by
      obtain ⟨cs', h1, h2⟩ := hx i (by omega)
      obtain ⟨_, hlen, hat⟩ := World.cells?_some h1
      obtain ⟨z, hK, hG⟩ := he _ _ _ h2
      refine ⟨z, hG, cs', hlen.trans hsz, hK, fun j u hj => ?_⟩
      have hjl : j < P.cellsOf e := by rw [← hlen]; exact (List.getElem?_eq_some_iff.1 hj).1
      rw [← hsz, ← Go.Deep.add_add, hat j hjl, hj]
    refine ⟨List.ofFn fun i : Fin len => Classical.choose (hall i i.2), ⟨some a, cap, by simp, by simpa using hl, by simp, ?_, fun _ => ⟨a, rfl, fun j p hj => ?_⟩⟩, ?_, ?_⟩
    · simp only [List.length_ofFn]; unfold maxLen at hm; omega
    · have hjl : j < len := by simpa using (List.getElem?_eq_some_iff.1 hj).1
      have hp : p = Classical.choose (hall j hjl) := by
        simp only [List.getElem?_ofFn, hjl, dif_pos, Option.some.injEq] at hj
        exact hj.symm
      subst hp
      exact (Classical.choose_spec (hall j hjl)).2
    · simp only [List.length_ofFn]; omega
    · intro z hz
      obtain ⟨i, rfl⟩ := List.mem_ofFn.1 hz
      exact (Classical.choose_spec (hall i i.2)).1
theorem Opens.imp {t : TypeId} {α : Type} {d : Kd α} {G G' : α → Prop} (h : Opens enc P w base spare held t d G) (hG : ∀ a, G a → G' a) : Opens enc P w base spare held t d G' := fun fuel cs x hx =>
  let ⟨a, hK, g⟩ := h fuel cs x hx; ⟨a, hK, hG a g⟩
/-- Cells that are cut where the fields begin. -/
theorem cut2 {cs : List Value} {n0 n1 : Nat} (h : cs.length = n0 + n1) : cs = (cs.drop 0).take n0 ++ (cs.drop n0).take n1 := by
  rw [List.drop_zero, List.take_of_length_le (l := cs.drop n0) (by simp; omega), List.take_append_drop]
theorem cut3 {cs : List Value} {n0 n1 n2 : Nat} (h : cs.length = n0 + (n1 + n2)) : cs = (cs.drop 0).take n0 ++ ((cs.drop n0).take n1 ++ (cs.drop (n0 + n1)).take n2) := by
  have h1 : (cs.drop n0).length = n1 + n2 := by simp; omega
  have h2 := cut2 h1
  rw [List.drop_zero, List.drop_drop] at h2
  rw [List.drop_zero, ← h2, List.take_append_drop]
theorem Opens.struct3 {t : TypeId} {f0 f1 f2 : Field} {α β γ ε : Type} {d0 : Kd α} {d1 : Kd β} {d2 : Kd γ} {G0 : α → Prop} {G1 : β → Prop} {G2 : γ → Prop} (hs : P.underlying t = some (.struct #[f0, f1, f2]))
    (hc : P.cellsOf t = d0.sz + (d1.sz + d2.sz)) (o : f0.offset = 0 ∧ f1.offset = d0.sz ∧ f2.offset = d0.sz + d1.sz) (s : P.cellsOf f0.type = d0.sz ∧ P.cellsOf f1.type = d1.sz ∧ P.cellsOf f2.type = d2.sz)
    (mk : α → β → γ → ε) (g : ε → α × β × γ) (hg : ∀ a b c, g (mk a b c) = (a, b, c))
    (h0 : Opens enc P w base spare held f0.type d0 G0) (h1 : Opens enc P w base spare held f1.type d1 G1) (h2 : Opens enc P w base spare held f2.type d2 G2) :
    Opens enc P w base spare held t (Kd.iso (Kd.pair d0 (Kd.pair d1 d2)) g) (fun x => G0 (g x).1 ∧ G1 (g x).2.1 ∧ G2 (g x).2.2) := fun fuel cs x h => by
  obtain ⟨xs, n, _, _, hl, hlen, hf⟩ := DataW.trod_struct hs h
  match xs, hlen with
  | [y0, y1, y2], _ =>
    have t0 := hf 0 f0 rfl
    have t1 := hf 1 f1 rfl
    have t2 := hf 2 f2 rfl
    rw [o.1, s.1] at t0
    rw [o.2.1, s.2.1] at t1
    rw [o.2.2, s.2.2] at t2
    obtain ⟨a, ka, ga⟩ := h0 _ _ _ t0
    obtain ⟨b, kb, gb⟩ := h1 _ _ _ t1
    obtain ⟨c, kc, gc⟩ := h2 _ _ _ t2
    refine ⟨mk a b c, ?_, ?_⟩
    · show (Kd.pair d0 (Kd.pair d1 d2)).K w (g (mk a b c)) cs
      rw [hg]
      exact ⟨_, _, cut3 (hl.trans hc), ka, _, _, rfl, kb, kc⟩
    · simp only [hg]
      exact ⟨ga, gb, gc⟩
end
end Go.Proofs.YtkaedhooccpniaaW.Opening
