import Derived.Test.YtgmgihnagpmfcaaPAx0
import Derived.WalkSpells
/- slices.Clone at []api.Anchor: the result reads as the argument did and lies in memory of the call's own; by hand, in the printed contracts' form. -/
namespace Go.Proofs.Ytgmgihnagpmfcaa.PA
open Go.RowKit Go.Proofs.YtgmgihnagpmfcaaW.PrintWords Go.Proofs.YtgmgihnagpmfcaaW.PrintLast Go.Proofs.YtgmgihnagpmfcaaW.PrintMore
set_option linter.unusedVariables false
set_option linter.unusedSimpArgs false

def api_Anchor.f (l0 : List S23) : Option (List S23) := if l0.length < 8796093022208 then some l0 else none

set_option maxHeartbeats 2000000 in
set_option maxRecDepth 100000 in
theorem api_Anchor.calls (A0 : Option Addr) (c0 : Nat) (l0 : List S23) (r : List S23) (w : World) (hr0 : Kd.C k23 w A0 l0.length l0) (hc0 : l0.length ≤ c0) (h : api_Anchor.f l0 = some r) :
    Calls Try.prog 16 #[.slice A0 l0.length c0] w fun e w' => ∃ v0_ : Value, e = .returned (v0_) ∧ Kd.R k23 23 w' w.heap.size (fun _ => True) v0_ r ∧ Below w.heap.size w w' := by
  have hu33 := Try.underlying33
  have hl : l0.length < 8796093022208 := by
    by_cases hl : l0.length < 8796093022208
    · exact hl
    · simp only [api_Anchor.f, if_neg hl] at h; cases h
  obtain rfl : l0 = r := by simp only [api_Anchor.f, if_pos hl] at h; exact Option.some.inj h
  clear h
  have q33 : ∀ (w : World) (a : Option Addr) (n c n' c' : Nat), (binOp .eql 33 (.slice a n c) (.slice none n' c')).run Try.prog w = .ok (.bool a.isNone) w := fun w a n c n' c' => Lib.run_eql_slice_nil w _ _ a n c n' c' Try.underlying33
  rcases A0 with _ | ad
  · have h0 : l0 = [] := by
      by_cases hp : 0 < l0.length
      · obtain ⟨ad, hA, _⟩ := hr0.2.2 hp
        cases hA
      · exact List.eq_nil_of_length_eq_zero (by omega)
    subst h0
    have HR := Aside0.mk (Kd.R_nil k23 23 w w.heap.size (fun _ => True))
    clear hr0
    go_enter Try.func16, Try.ntmps16
    go_wp2
    go_ret
    exact ⟨_, rfl, HR.out, Below.refl _ _⟩
  · have HR := Aside0.mk hr0
    have HB := Aside0.mk (Below.refl w.heap.size w)
    have HL := Aside0.mk hl
    clear hr0 hl
    go_enter Try.func16, Try.ntmps16
    go_wp2_with (first | ((with_reducible refine gate_dst (N := 5) rfl ?_); refine Kd.R_lit k23 _ 23 ?hg (N := 5) ?hd (xs := []) (inner := []) (ok := fun _ => True) (okp := fun _ => True) ?hr ?hp (fun _ hk => hk) trivial (Below.refl _ _) (Nat.le_refl _) (by simp) ?_; (case hd => rfl); (case hg => rfl); (case hr => first | (go_simp; done) | (go_simp; rfl)); (case hp => exact (Reps.none _ _)); intro v1 w1 ho1 hb1 hg_ hnew_; clear hg_ hnew_; have HO1 := Aside0.mk ho1; have HB1 := Aside0.mk hb1; have HR1 := Aside0.mk (Kd.C_below HR.out hb1); clear ho1 hb1) | ((with_reducible refine gate_builtin (b := .append) (xs := #[.tmp 5, .tmp 6]) rfl ?_); at_builtin; refine Kd.R_append_rows k23 (w0 := w) w.heap.size rfl (.tmp 5) (.tmp 6) 33 23 (.agg #[.int .i64 0, .bool false]) 16 rfl Try.underlying33 info23 rfl (by decide) (by omega) v1 [] l0 _ _ _ (fun _ => True) (fun _ => False) rfl rfl ?aO ?aR (fun _ _ h => h) (fun _ h => h.elim) (fun _ _ => trivial) ?aB ?aS ?aL ?_; (case aR => exact HR1.out); (case aB => exact HB1.out); (case aO => exact HO1.out); (case aS => exact HB1.out.size); (case aL => have := HL.out; simp; omega); intro v2 w2 ho hb hg hat; have HO2 := Aside0.mk ho; have HB2 := Aside0.mk hb; clear ho hb hg hat))
    go_ret
    exact ⟨_, rfl, HO2.out, HB2.out⟩
end Go.Proofs.Ytgmgihnagpmfcaa.PA
