import Derived.Test.YtkaedhooccpniaaPureSmall
/- What the functions answer over a moderate grammar. Plain Lean. -/
namespace Go.Proofs.Ytkaedhooccpniaa.Hand
open Go.RowKit Go.Proofs.YtkaedhooccpniaaW.PrintWords Go.Proofs.YtkaedhooccpniaaW.PrintLast Go.Proofs.YtkaedhooccpniaaW.PrintMore Go.Proofs.Ytkaedhooccpniaa.PA
set_option linter.unusedVariables false
set_option linter.unusedSimpArgs false
section
variable {l0 l1 : List ByteArray} {st : Int} {rules : List S41}
theorem GV.tok {t n : Nat} (h : GV t n st rules) : TOK (t + 1) rules := fun r hr => ⟨h.bl r hr, fun x hx h0 => by have := h.sym r hr x hx; omega⟩
theorem heads_ev (tm : Bool) (hg : GV l0.length l1.length st rules) : ∃ bs, Ev (fun k => heads.f tm k l0 l1 st rules) bs ∧ HdL tm l1.length rules bs := by
  obtain ⟨bs, h1, h2⟩ := heads_pure (tm := tm) hg
  refine ⟨bs, ?_, h2⟩
  simp only [heads.f, hg.gok, if_true]
  exact h1
theorem rnull_ev (hg : GV l0.length l1.length st rules) {bs : List Bool} (h : HdL false l1.length rules bs) : Ev (fun k => emendateref21_Nullable.f k l0 l1 st rules) bs := by
  obtain ⟨r, h1, h2⟩ := fix_pure (tm := false) l0 l1 rfl hg
  rw [h.ext h2]
  exact Ev.bind h1 (Ev.const r)
theorem small_ex (l0 l1 : List ByteArray) (st : Int) (rules : List S41) : ∃ b, (∃ k, emendateref18_Small.f k l0 l1 st rules = some b) ∧ (b = true → GV l0.length l1.length st rules) := by
  obtain ⟨b, h1, h2⟩ := small_ev l0 l1 st rules
  exact ⟨b, h1.get, h2⟩
end
end Go.Proofs.Ytkaedhooccpniaa.Hand
