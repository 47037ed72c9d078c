import Derived.Test.YtcigcacjjdpgfaaHandBox
/- Appends in regions that draw their order, where the old memory is kept. -/
namespace Go.Proofs.Ytcigcacjjdpgfaa.Hand
open Go.RowKit Go.Proofs.YtcigcacjjdpgfaaW.PrintWords Go.Proofs.YtcigcacjjdpgfaaW.PrintLast Go.Proofs.YtcigcacjjdpgfaaW.PrintMore Go.Proofs.Ytcigcacjjdpgfaa.PA
set_option linter.unusedVariables false
set_option linter.unusedSimpArgs false
theorem nameW {P : Program} {c : Code} {Q : Exit → Act → World → Prop} {a : Act} {w : World} (h : ∀ w2, w2 = w → Code.wp P c Q a w2) : Code.wp P c Q a w := h w rfl
theorem info54 : (Try.prog.info? 54).map (fun i => (i.zero, i.size, i.bytes)) = some (some (.slice none 0 0), 1, 24) := by kernel_rfl
theorem R_none {α : Type} (d : Kd α) (e base : Nat) {W0 W : World} (hb : base ≤ W.heap.size) : Kd.R (Kd.fixed d W0) e (W.alloc (.cells #[] e)) base (fun _ => True) (.slice (some ⟨W.heap.size, 0, none⟩) 0 0) [] :=
  ⟨fun _ _ => trivial, [], ⟨by simp, .inr ⟨W.heap.size, 0, #[], rfl, hb, blk_new rfl, Nat.le_refl _, by simp [maxLen], by simp, by simp⟩⟩, by simp, fun j p hj => by simp at hj⟩
theorem app_gen {α : Type} (d : Kd α) {W0 wb W : World} {ops : Array Oper} {oo : Oper} {a : Act} {Q : Exit → Act → World → Prop} {Kc : Act → World → Prop} (t e : TypeId) (z : Value) (bytes : Nat) (ht : Try.prog.underlying t = some (.slice e)) (hi : (Try.prog.info? e).map (fun i => (i.zero, i.size, i.bytes)) = some (some z, d.sz, bytes)) (hz : z.cells.size = d.sz) (hsz : 0 < d.sz) (hby : 0 < bytes) (hby2 : bytes ≤ 1000)
    (hw : Region.wanted oo (yielded ops a.tmps) = true) (s x : Operand) (ho : oo.op = .call { callee := .builtin .append, args := #[s, x], argTypes := #[t, t] }) (v : Value) (xs ys : List α) (A : Option Addr) (m c : Nat) (hs : a.eval s = v) (hx : a.eval x = .slice A m c)
    (HO : Kd.R (Kd.fixed d W0) e W wb.heap.size (fun _ => True) v xs) (HR : (Kd.fixed d W0).C wb A m ys) (hB : Below wb.heap.size wb W) (hl : xs.length + m ≤ 1000)
    (h : ∀ v1 w1, Kd.R (Kd.fixed d W0) e w1 wb.heap.size (fun _ => True) v1 (xs ++ ys) → Below wb.heap.size wb w1 → Kc (a.put oo.dst v1) w1) :
    if Region.wanted oo (yielded ops a.tmps) = true then Oper.wp Try.prog oo a W Kc Q else Kc (a.put oo.dst undef) W := by
  refine Kd.R_append_rows_step (Kd.fixed d W0) (Rr := d.K W0) (w0 := W) wb.heap.size hw s x t e z bytes ho ht hi hz hsz hby v xs ys A m c (fun _ => True) (fun _ => False) hs hx HO (Kd.C_below HR hB) (fun _ _ h => h) (fun _ h => h.elim) (fun _ _ => trivial) (Below.refl _ _) hB.size (Nat.le_trans (Nat.mul_le_mul hl hby2) (by decide)) ?_
  intro v1 w1 h1 h2 _ _
  exact h v1 w1 h1 (hB.trans h2)
/-- A row of elements that share old memory, read as one's own. -/
theorem Rd_fixed {α : Type} {d : Kd α} {e base : Nat} {W W' : World} {ok : Nat → Prop} {v : Value} {xs : List α} (h : Kd.R (Kd.fixed d W) e W' base ok v xs) (hb : Below W.heap.size W W') : Rd d W' v xs := by
  obtain ⟨A, c, e, hl, hC⟩ := Kd.R_reads h
  refine ⟨A, c, e, hl, hC.1, hC.2.1, fun hp => ?_⟩
  obtain ⟨ad, e2, h3⟩ := hC.2.2 hp
  exact ⟨ad, e2, fun j p hj => by
    obtain ⟨cs, h4, h5, h6⟩ := h3 j p hj
    exact ⟨cs, h4, d.K_below hb h5, h6⟩⟩
theorem rdK {α : Type} {d : Kd α} {w : World} {v : Value} {xs : List α} {n : Nat} (h : Rd d w v xs) (e : xs.length = n) : ∃ A c, v = .slice A n c ∧ (Kd.C d w A n xs ∧ n ≤ c) := by
  obtain ⟨A, c, rfl, hl, hC⟩ := h
  subst e
  exact ⟨A, c, rfl, hC, hl⟩
theorem rdR {w w' : World} {base n f : Nat} {F : Option Addr} {xs : List S51} {ok : Nat → Prop} (hR : Kd.R k51 51 w base ok (.slice F n f) xs) (hb : Below w.heap.size w w') : Kd.C k51 w' F n xs ∧ n ≤ f := by
  obtain ⟨e, h1, h2⟩ := Kd.R_reads' hR
  rw [← e] at h2
  exact ⟨Kd.C_below h2 hb, h1⟩
theorem below_set3 {w5 wn : World} (h5 : Below w5.heap.size w5 wn) (v0 v1 v2 : Value) : Below w5.heap.size w5 (((wn.setCell ⟨w5.heap.size, 0, none⟩ v0).setCell ⟨w5.heap.size, 1, none⟩ v1).setCell ⟨w5.heap.size, 2, none⟩ v2) :=
  h5.trans ((((Kp.set (S := fun k => k = w5.heap.size) rfl _).trans ((Kp.set (S := fun k => k = w5.heap.size) rfl _).trans (Kp.set (S := fun k => k = w5.heap.size) rfl _)))).below h5.size (fun k hk => by omega))
/-- The two argument boxes of a law over tokens and prices. -/
def BxT (b : Nat) (x0 x1 y0 y1 y2 y3 y4 : Value) (w5 w' : World) : Prop := w'.cell? ⟨b, 0, none⟩ = some x0 ∧ w'.cell? ⟨b, 1, none⟩ = some x1 ∧ w'.cell? ⟨b + 1, 0, none⟩ = some y0 ∧ w'.cell? ⟨b + 1, 1, none⟩ = some y1 ∧ w'.cell? ⟨b + 1, 2, none⟩ = some y2 ∧ w'.cell? ⟨b + 1, 3, none⟩ = some y3 ∧ w'.cell? ⟨b + 1, 4, none⟩ = some y4 ∧ Aside0 (Below w5.heap.size w5 w')
theorem BxT.of {b t t' : Nat} {x0 x1 y0 y1 y2 y3 y4 : Value} {wa w5 w' : World} (h : wa.heap[b]? = some (.cells #[x0, x1] t (0, 0))) (k : wa.heap[b + 1]? = some (.cells #[y0, y1, y2, y3, y4] t' (0, 0))) (h5 : Below wa.heap.size wa w5) (hb : Below w5.heap.size w5 w') : BxT b x0 x1 y0 y1 y2 y3 y4 w5 w' := by
  obtain ⟨p0, p1⟩ := B2 h (below_step h5 hb)
  obtain ⟨q0, q1, q2, q3, q4⟩ := B5 k (below_step h5 hb)
  exact ⟨p0, p1, q0, q1, q2, q3, q4, ⟨hb⟩⟩
theorem BxT.set {b t t' : Nat} {x0 x1 y0 y1 y2 y3 y4 : Value} {wa w5 w' : World} (h : wa.heap[b]? = some (.cells #[x0, x1] t (0, 0))) (k : wa.heap[b + 1]? = some (.cells #[y0, y1, y2, y3, y4] t' (0, 0))) (h5 : Below wa.heap.size wa w5) (hx : BxT b x0 x1 y0 y1 y2 y3 y4 w5 w') (p : Addr) (u : Value) (hp : p.block = w5.heap.size) : BxT b x0 x1 y0 y1 y2 y3 y4 w5 (w'.setCell p u) := by
  have hb := hx.2.2.2.2.2.2.2.out
  exact BxT.of h k h5 (hb.trans ((Kp.set (S := fun k => k = w5.heap.size) hp u).below hb.size (fun k hk => by omega)))
/-- A box of an input whose columns read as xs, in a world that keeps w5. -/
def BoxR (w5 wx : World) (h : Nat) (F : Option Addr) (f n : Nat) (A2 : Option Addr) (n2 c2 : Nat) (sw : Int) (xs : List S51) : Prop := wx.heap[h]? = some (.cells #[.slice F n f, .slice A2 n2 c2, .int .i64 sw] 25 (0, 0)) ∧ (Kd.C k51 wx F n xs ∧ n ≤ f) ∧ Below w5.heap.size w5 wx
theorem BoxR.below {w5 wx w' : World} {h : Nat} {F : Option Addr} {f n : Nat} {A2 : Option Addr} {n2 c2 : Nat} {sw : Int} {xs : List S51} (hx : BoxR w5 wx h F f n A2 n2 c2 sw xs) (hb : Below wx.heap.size wx w') : BoxR w5 w' h F f n A2 n2 c2 sw xs :=
  ⟨blk_Kp (S := fun _ => False) hx.1 (Kp.of_below hb) (fun h => h), ⟨Kd.C_below hx.2.1.1 hb, hx.2.1.2⟩, below_step hx.2.2 hb⟩
theorem BoxR.late {w5 wn : World} {F : Option Addr} {f n : Nat} {A2 : Option Addr} {n2 c2 : Nat} {sw : Int} {xs : List S51} {base : Nat} (hR : Kd.R k51 51 wn base (fun _ => True) (.slice F n f) xs) (h5 : Below w5.heap.size w5 wn) : BoxR w5 (wn.alloc (Obj.cells #[.slice F n f, .slice A2 n2 c2, .int .i64 sw] 25)) wn.heap.size F f n A2 n2 c2 sw xs := by
  obtain ⟨e, h1, h2⟩ := Kd.R_reads' hR
  rw [← e] at h2
  exact ⟨blk_new rfl, ⟨Kd.C_below h2 (below_alloc (Below.refl _ _) _), h1⟩, below_alloc h5 _⟩
theorem BoxR.early {w5 wn : World} {F : Option Addr} {f n : Nat} {A2 : Option Addr} {n2 c2 : Nat} {sw : Int} {xs : List S51} {base : Nat} (hR : Kd.R k51 51 wn base (fun _ => True) (.slice F n f) xs) (h5 : Below w5.heap.size w5 wn) (hb : w5.heap.size < base) (hz : wn.heap[w5.heap.size]? = some (.cells #[.slice none 0 0, .slice none 0 0, .int .i64 0] 25 (0, 0))) :
    BoxR w5 (((wn.setCell ⟨w5.heap.size, 0, none⟩ (.slice F n f)).setCell ⟨w5.heap.size, 1, none⟩ (.slice A2 n2 c2)).setCell ⟨w5.heap.size, 2, none⟩ (.int .i64 sw)) w5.heap.size F f n A2 n2 c2 sw xs := by
  have hRF := Kd.R_far (Kd.R_far (Kd.R_far (Kd.R_bound hR) (p := ⟨w5.heap.size, 0, none⟩) (fun k hk => by have := hk.2.1; show k ≠ w5.heap.size; omega) (.slice F n f)) (p := ⟨w5.heap.size, 1, none⟩) (fun k hk => by have := hk.2.1; show k ≠ w5.heap.size; omega) (.slice A2 n2 c2)) (p := ⟨w5.heap.size, 2, none⟩) (fun k hk => by have := hk.2.1; show k ≠ w5.heap.size; omega) (.int .i64 sw)
  obtain ⟨e, h1, h2⟩ := Kd.R_reads' hRF
  rw [← e] at h2
  exact ⟨blk_set (blk_set (blk_set hz 0 _) 1 _) 2 _, ⟨h2, h1⟩, h5.trans ((((Kp.set (S := fun k => k = w5.heap.size) rfl _).trans ((Kp.set (S := fun k => k = w5.heap.size) rfl _).trans (Kp.set (S := fun k => k = w5.heap.size) rfl _)))).below h5.size (fun k hk => by omega))⟩
/-- Three boxes of inputs: their columns. -/
def BgT (g h i : Nat) (x0 y0 z0 : Value) (w7 w' : World) : Prop := w'.cell? ⟨g, 0, none⟩ = some x0 ∧ w'.cell? ⟨h, 0, none⟩ = some y0 ∧ w'.cell? ⟨i, 0, none⟩ = some z0 ∧ Aside0 (Below w7.heap.size w7 w')
theorem BgT.of {g h i : Nat} {x0 x1 x2 y0 y1 y2 z0 z1 z2 : Value} {w7 w' : World} (hg : w7.heap[g]? = some (.cells #[x0, x1, x2] 25 (0, 0))) (hh : w7.heap[h]? = some (.cells #[y0, y1, y2] 25 (0, 0))) (hi : w7.heap[i]? = some (.cells #[z0, z1, z2] 25 (0, 0))) (hb : Below w7.heap.size w7 w') : BgT g h i x0 y0 z0 w7 w' :=
  ⟨(B3 hg hb).2.1, (B3 hh hb).2.1, (B3 hi hb).2.1, ⟨hb⟩⟩
end Go.Proofs.Ytcigcacjjdpgfaa.Hand
