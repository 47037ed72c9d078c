import Derived.Test.YtgmgihnagpmfcaaPAx5
import Derived.Test.YtgmgihnagpmfcaaPureAnchorStaysInText
import Derived.WalkSpells
import Derived.Outline
/- AnchorKeepsNeighbors by hand: whatever the input, true. -/
namespace Go.Proofs.Ytgmgihnagpmfcaa.PA
open Go.RowKit Go.Proofs.YtgmgihnagpmfcaaW.PrintWords Go.Proofs.YtgmgihnagpmfcaaW.PrintLast Go.Proofs.YtgmgihnagpmfcaaW.PrintMore
set_option linter.unusedVariables false
set_option linter.unusedSimpArgs false

theorem aw (w : World) : Calls Try.prog 9 #[] w fun e w' => e = .returned (.bool true) ∧ Below w.heap.size w w' := emendatelaw02_awake.calls true w rfl

set_option maxHeartbeats 4000000 in
theorem keeps_far (s : ByteArray) (x : Int) (y : Bool) (p q : Int) (t : ByteArray) (w : World) (hs : (100 : Int) < (s.size : Int)) :
    Calls Try.prog 5 #[.string s, .agg #[.int .i64 x, .bool y], .agg #[.int .i64 p, .int .i64 q, .string t]] w fun e w' => e = .returned (.bool true) ∧ Below w.heap.size w w' := by
  have h1 : decide ((100 : Int) < (s.size : Int)) = true := decide_eq_true hs
  have hu23 := Try.underlying23
  have hu25 := Try.underlying25
  obtain ⟨wa, hwa⟩ : ∃ wa : World, wa = (w.alloc (Obj.cells #[Value.int IntKind.i64 x, Value.bool y] 23)).alloc (Obj.cells #[Value.int IntKind.i64 p, Value.int IntKind.i64 q, Value.string t] 25) := ⟨_, rfl⟩
  have HB : Aside0 (Below w.heap.size w wa) := ⟨by rw [hwa]; exact below_alloc (below_alloc (Below.refl _ _) _) _⟩
  have ha := aw wa
  go_enter Try.func5, Try.ntmps5
  go_upto_region 2 with fail
  rw [← hwa]
  clear hwa
  go_wp2_with fail
  (with_reducible refine ha.mono ?_)
  rintro e w2 ⟨rfl, hb2⟩
  have HB2 := Aside0.mk (below_step HB.out hb2)
  clear ha hb2
  dsimp only
  go_wp2_with fail
  go_ret
  exact ⟨rfl, HB2.out⟩
set_option maxHeartbeats 4000000 in
theorem keeps_unfit (s : ByteArray) (x : Int) (y : Bool) (p q : Int) (t : ByteArray) (w : World) (hs : ¬ (100 : Int) < (s.size : Int)) (hf : emendateref02_Fits.f p q t (s.size : Int) = some false) :
    Calls Try.prog 5 #[.string s, .agg #[.int .i64 x, .bool y], .agg #[.int .i64 p, .int .i64 q, .string t]] w fun e w' => e = .returned (.bool true) ∧ Below w.heap.size w w' := by
  have h1 : decide ((100 : Int) < (s.size : Int)) = false := decide_eq_false hs
  have hu23 := Try.underlying23
  have hu25 := Try.underlying25
  obtain ⟨wa, hwa⟩ : ∃ wa : World, wa = (w.alloc (Obj.cells #[Value.int IntKind.i64 x, Value.bool y] 23)).alloc (Obj.cells #[Value.int IntKind.i64 p, Value.int IntKind.i64 q, Value.string t] 25) := ⟨_, rfl⟩
  obtain ⟨ba, hba⟩ : ∃ ba, ba = w.heap.size := ⟨_, rfl⟩
  have HB : Aside0 (Below w.heap.size w wa) := ⟨by rw [hwa]; exact below_alloc (below_alloc (Below.refl _ _) _) _⟩
  have hA : wa.heap[ba]? = some (Obj.cells #[Value.int IntKind.i64 x, Value.bool y] 23 (0, 0)) := by rw [hwa]; exact hp_old (hp_new hba)
  have hE : wa.heap[ba + 1]? = some (Obj.cells #[Value.int IntKind.i64 p, Value.int IntKind.i64 q, Value.string t] 25 (0, 0)) := by rw [hwa]; exact hp_new (by rw [hba]; simp)
  have HA := Aside0.mk hA
  have HE := Aside0.mk hE
  have a0 : wa.cell? ⟨ba, 0, none⟩ = some (.int .i64 x) := cells_of_block hA 0 _ rfl
  have a1 : wa.cell? ⟨ba, 1, none⟩ = some (.bool y) := cells_of_block hA 1 _ rfl
  have e0 : wa.cell? ⟨ba + 1, 0, none⟩ = some (.int .i64 p) := cells_of_block hE 0 _ rfl
  have e1 : wa.cell? ⟨ba + 1, 1, none⟩ = some (.int .i64 q) := cells_of_block hE 1 _ rfl
  have e2 : wa.cell? ⟨ba + 1, 2, none⟩ = some (.string t) := cells_of_block hE 2 _ rfl
  have hfit := emendateref02_Fits.calls p q t (s.size : Int) false wa hf
  clear hA hE
  go_enter Try.func5, Try.ntmps5
  go_upto_region 1 with fail
  rw [← hwa, ← hba]
  clear hwa hba
  go_wp2_with fail
  (with_reducible refine hfit.mono ?_)
  rintro e w2 ⟨rfl, hb2⟩
  have HB2 := Aside0.mk (below_step HB.out hb2)
  have HA2 := Aside0.mk (hp_below hb2 HA.out)
  have HE2 := Aside0.mk (hp_below hb2 HE.out)
  clear hfit hb2 HB HA HE a0 a1 e0 e1 e2
  dsimp only
  go_wp2_with fail
  (with_reducible refine (aw _).mono ?_)
  rintro e w9 ⟨rfl, hb9⟩
  have HB9 := Aside0.mk (below_step HB2.out hb9)
  clear hb9
  dsimp only
  go_wp2_with fail
  go_ret
  exact ⟨rfl, HB9.out⟩
set_option maxHeartbeats 4000000 in
theorem keeps_large (s : ByteArray) (x : Int) (y : Bool) (p q : Int) (t : ByteArray) (w : World) (hs : ¬ (100 : Int) < (s.size : Int)) (hf : emendateref02_Fits.f p q t (s.size : Int) = some true) (hsmall : emendateref02_Small.f x y p q t = some false) :
    Calls Try.prog 5 #[.string s, .agg #[.int .i64 x, .bool y], .agg #[.int .i64 p, .int .i64 q, .string t]] w fun e w' => e = .returned (.bool true) ∧ Below w.heap.size w w' := by
  have h1 : decide ((100 : Int) < (s.size : Int)) = false := decide_eq_false hs
  have hu23 := Try.underlying23
  have hu25 := Try.underlying25
  obtain ⟨wa, hwa⟩ : ∃ wa : World, wa = (w.alloc (Obj.cells #[Value.int IntKind.i64 x, Value.bool y] 23)).alloc (Obj.cells #[Value.int IntKind.i64 p, Value.int IntKind.i64 q, Value.string t] 25) := ⟨_, rfl⟩
  obtain ⟨ba, hba⟩ : ∃ ba, ba = w.heap.size := ⟨_, rfl⟩
  have HB : Aside0 (Below w.heap.size w wa) := ⟨by rw [hwa]; exact below_alloc (below_alloc (Below.refl _ _) _) _⟩
  have hA : wa.heap[ba]? = some (Obj.cells #[Value.int IntKind.i64 x, Value.bool y] 23 (0, 0)) := by rw [hwa]; exact hp_old (hp_new hba)
  have hE : wa.heap[ba + 1]? = some (Obj.cells #[Value.int IntKind.i64 p, Value.int IntKind.i64 q, Value.string t] 25 (0, 0)) := by rw [hwa]; exact hp_new (by rw [hba]; simp)
  have HA := Aside0.mk hA
  have HE := Aside0.mk hE
  have a0 : wa.cell? ⟨ba, 0, none⟩ = some (.int .i64 x) := cells_of_block hA 0 _ rfl
  have a1 : wa.cell? ⟨ba, 1, none⟩ = some (.bool y) := cells_of_block hA 1 _ rfl
  have e0 : wa.cell? ⟨ba + 1, 0, none⟩ = some (.int .i64 p) := cells_of_block hE 0 _ rfl
  have e1 : wa.cell? ⟨ba + 1, 1, none⟩ = some (.int .i64 q) := cells_of_block hE 1 _ rfl
  have e2 : wa.cell? ⟨ba + 1, 2, none⟩ = some (.string t) := cells_of_block hE 2 _ rfl
  have hfit := emendateref02_Fits.calls p q t (s.size : Int) true wa hf
  clear hA hE
  go_enter Try.func5, Try.ntmps5
  go_upto_region 1 with fail
  rw [← hwa, ← hba]
  clear hwa hba
  go_wp2_with fail
  (with_reducible refine hfit.mono ?_)
  rintro e w2 ⟨rfl, hb2⟩
  have HB2 := Aside0.mk (below_step HB.out hb2)
  have HA2 := Aside0.mk (hp_below hb2 HA.out)
  have HE2 := Aside0.mk (hp_below hb2 HE.out)
  clear hfit hb2 HB HA HE a0 a1 e0 e1 e2
  have a0 : w2.cell? ⟨ba, 0, none⟩ = some (.int .i64 x) := cells_of_block HA2.out 0 _ rfl
  have a1 : w2.cell? ⟨ba, 1, none⟩ = some (.bool y) := cells_of_block HA2.out 1 _ rfl
  have e0 : w2.cell? ⟨ba + 1, 0, none⟩ = some (.int .i64 p) := cells_of_block HE2.out 0 _ rfl
  have e1 : w2.cell? ⟨ba + 1, 1, none⟩ = some (.int .i64 q) := cells_of_block HE2.out 1 _ rfl
  have e2 : w2.cell? ⟨ba + 1, 2, none⟩ = some (.string t) := cells_of_block HE2.out 2 _ rfl
  have hsm := emendateref02_Small.calls x y p q t false w2 hsmall
  clear hsmall
  dsimp only
  go_wp2_with fail
  (with_reducible refine hsm.mono ?_)
  rintro e w3 ⟨rfl, hb3⟩
  have HB3 := Aside0.mk (below_step HB2.out hb3)
  have HA3 := Aside0.mk (hp_below hb3 HA2.out)
  have HE3 := Aside0.mk (hp_below hb3 HE2.out)
  clear hsm hb3 HB2 HA2 HE2 a0 a1 e0 e1 e2
  dsimp only
  go_wp2_with fail
  (with_reducible refine (aw _).mono ?_)
  rintro e w9 ⟨rfl, hb9⟩
  have HB9 := Aside0.mk (below_step HB3.out hb9)
  clear hb9
  dsimp only
  go_wp2_with fail
  go_ret
  exact ⟨rfl, HB9.out⟩
set_option maxHeartbeats 4000000 in
theorem keeps_behind (s : ByteArray) (x : Int) (y : Bool) (p q : Int) (t : ByteArray) (w : World) (hs : ¬ (100 : Int) < (s.size : Int)) (hf : emendateref02_Fits.f p q t (s.size : Int) = some true) (hsmall : emendateref02_Small.f x y p q t = some true) (hx : (s.size : Int) < x) :
    Calls Try.prog 5 #[.string s, .agg #[.int .i64 x, .bool y], .agg #[.int .i64 p, .int .i64 q, .string t]] w fun e w' => e = .returned (.bool true) ∧ Below w.heap.size w w' := by
  have h2 : decide ((s.size : Int) < x) = true := decide_eq_true hx
  have h1 : decide ((100 : Int) < (s.size : Int)) = false := decide_eq_false hs
  have hu23 := Try.underlying23
  have hu25 := Try.underlying25
  obtain ⟨wa, hwa⟩ : ∃ wa : World, wa = (w.alloc (Obj.cells #[Value.int IntKind.i64 x, Value.bool y] 23)).alloc (Obj.cells #[Value.int IntKind.i64 p, Value.int IntKind.i64 q, Value.string t] 25) := ⟨_, rfl⟩
  obtain ⟨ba, hba⟩ : ∃ ba, ba = w.heap.size := ⟨_, rfl⟩
  have HB : Aside0 (Below w.heap.size w wa) := ⟨by rw [hwa]; exact below_alloc (below_alloc (Below.refl _ _) _) _⟩
  have hA : wa.heap[ba]? = some (Obj.cells #[Value.int IntKind.i64 x, Value.bool y] 23 (0, 0)) := by rw [hwa]; exact hp_old (hp_new hba)
  have hE : wa.heap[ba + 1]? = some (Obj.cells #[Value.int IntKind.i64 p, Value.int IntKind.i64 q, Value.string t] 25 (0, 0)) := by rw [hwa]; exact hp_new (by rw [hba]; simp)
  have HA := Aside0.mk hA
  have HE := Aside0.mk hE
  have a0 : wa.cell? ⟨ba, 0, none⟩ = some (.int .i64 x) := cells_of_block hA 0 _ rfl
  have a1 : wa.cell? ⟨ba, 1, none⟩ = some (.bool y) := cells_of_block hA 1 _ rfl
  have e0 : wa.cell? ⟨ba + 1, 0, none⟩ = some (.int .i64 p) := cells_of_block hE 0 _ rfl
  have e1 : wa.cell? ⟨ba + 1, 1, none⟩ = some (.int .i64 q) := cells_of_block hE 1 _ rfl
  have e2 : wa.cell? ⟨ba + 1, 2, none⟩ = some (.string t) := cells_of_block hE 2 _ rfl
  have hfit := emendateref02_Fits.calls p q t (s.size : Int) true wa hf
  clear hA hE
  go_enter Try.func5, Try.ntmps5
  go_upto_region 1 with fail
  rw [← hwa, ← hba]
  clear hwa hba
  go_wp2_with fail
  (with_reducible refine hfit.mono ?_)
  rintro e w2 ⟨rfl, hb2⟩
  have HB2 := Aside0.mk (below_step HB.out hb2)
  have HA2 := Aside0.mk (hp_below hb2 HA.out)
  have HE2 := Aside0.mk (hp_below hb2 HE.out)
  clear hfit hb2 HB HA HE a0 a1 e0 e1 e2
  have a0 : w2.cell? ⟨ba, 0, none⟩ = some (.int .i64 x) := cells_of_block HA2.out 0 _ rfl
  have a1 : w2.cell? ⟨ba, 1, none⟩ = some (.bool y) := cells_of_block HA2.out 1 _ rfl
  have e0 : w2.cell? ⟨ba + 1, 0, none⟩ = some (.int .i64 p) := cells_of_block HE2.out 0 _ rfl
  have e1 : w2.cell? ⟨ba + 1, 1, none⟩ = some (.int .i64 q) := cells_of_block HE2.out 1 _ rfl
  have e2 : w2.cell? ⟨ba + 1, 2, none⟩ = some (.string t) := cells_of_block HE2.out 2 _ rfl
  have hsm := emendateref02_Small.calls x y p q t true w2 hsmall
  clear hsmall
  dsimp only
  go_wp2_with fail
  (with_reducible refine hsm.mono ?_)
  rintro e w3 ⟨rfl, hb3⟩
  have HB3 := Aside0.mk (below_step HB2.out hb3)
  have HA3 := Aside0.mk (hp_below hb3 HA2.out)
  have HE3 := Aside0.mk (hp_below hb3 HE2.out)
  clear hsm hb3 HB2 HA2 HE2 a0 a1 e0 e1 e2
  have a0 : w3.cell? ⟨ba, 0, none⟩ = some (.int .i64 x) := cells_of_block HA3.out 0 _ rfl
  have a1 : w3.cell? ⟨ba, 1, none⟩ = some (.bool y) := cells_of_block HA3.out 1 _ rfl
  have e0 : w3.cell? ⟨ba + 1, 0, none⟩ = some (.int .i64 p) := cells_of_block HE3.out 0 _ rfl
  have e1 : w3.cell? ⟨ba + 1, 1, none⟩ = some (.int .i64 q) := cells_of_block HE3.out 1 _ rfl
  have e2 : w3.cell? ⟨ba + 1, 2, none⟩ = some (.string t) := cells_of_block HE3.out 2 _ rfl
  dsimp only
  go_wp2_with fail
  (with_reducible refine (aw _).mono ?_)
  rintro e w9 ⟨rfl, hb9⟩
  have HB9 := Aside0.mk (below_step HB3.out hb9)
  clear hb9
  dsimp only
  go_wp2_with fail
  go_ret
  exact ⟨rfl, HB9.out⟩
theorem ext_front (s t : ByteArray) (p e x : Nat) (hx : x ≤ p) (hp : p ≤ s.size) : (s.extract 0 p ++ t ++ s.extract e s.size).extract 0 x = s.extract 0 x := by
  apply ByteArray.ext
  simp only [ByteArray.data_extract, ByteArray.data_append, Array.extract_append, Array.extract_extract, Array.size_extract, Array.size_append, ByteArray.size_data]
  have h1 : (t.data.extract (0 - (min p s.size - 0)) (x - (min p s.size - 0))) = #[] := by
    apply Array.eq_empty_of_size_eq_zero
    simp only [Array.size_extract]; omega
  have h2 : ∀ a b, b ≤ a → (s.data.extract a b) = #[] := fun a b h => by
    apply Array.eq_empty_of_size_eq_zero
    simp only [Array.size_extract]; omega
  have h3 : min (0 + x) p = x := by omega
  rw [h1, h3, h2 (e + (0 - _)) _ (by omega)]
  simp
theorem ext_back (s t : ByteArray) (p e x b : Nat) (he : e ≤ x) (hx : x ≤ s.size) (hp : p ≤ e) (hb : b = p + t.size + (x - e)) :
    (s.extract 0 p ++ t ++ s.extract e s.size).extract b (s.extract 0 p ++ t ++ s.extract e s.size).size = s.extract x s.size := by
  apply ByteArray.ext
  simp only [ByteArray.data_extract, ByteArray.data_append, Array.extract_append, Array.extract_extract, Array.size_extract, Array.size_append, ByteArray.size_data, ByteArray.size_append, ByteArray.size_extract]
  have h2 : ∀ (A : Array UInt8) a b, A.size ≤ a ∨ b ≤ a → (A.extract a b) = #[] := fun A a b h => by
    apply Array.eq_empty_of_size_eq_zero
    simp only [Array.size_extract]; omega
  have ht : t.data.size = t.size := rfl
  have hss : s.data.size = s.size := rfl
  rw [h2 s.data (0 + b) _ (by omega), h2 t.data _ _ (by omega)]
  simp
  congr 1 <;> omega
set_option maxHeartbeats 4000000 in
theorem keeps_a (s : ByteArray) (x : Int) (y : Bool) (p q : Int) (t : ByteArray) (w : World) (hs : ¬ (100 : Int) < (s.size : Int)) (hf : emendateref02_Fits.f p q t (s.size : Int) = some true) (hsmall : emendateref02_Small.f x y p q t = some true) (hx : x ≤ (s.size : Int)) (hxp : x < p) :
    Calls Try.prog 5 #[.string s, .agg #[.int .i64 x, .bool y], .agg #[.int .i64 p, .int .i64 q, .string t]] w fun e w' => e = .returned (.bool true) ∧ Below w.heap.size w w' := by
  have hsmall0 := hsmall
  have h2 : decide ((s.size : Int) < x) = false := decide_eq_false (by omega)
  have h1 : decide ((100 : Int) < (s.size : Int)) = false := decide_eq_false hs
  have hu23 := Try.underlying23
  have hu25 := Try.underlying25
  obtain ⟨wa, hwa⟩ : ∃ wa : World, wa = (w.alloc (Obj.cells #[Value.int IntKind.i64 x, Value.bool y] 23)).alloc (Obj.cells #[Value.int IntKind.i64 p, Value.int IntKind.i64 q, Value.string t] 25) := ⟨_, rfl⟩
  obtain ⟨ba, hba⟩ : ∃ ba, ba = w.heap.size := ⟨_, rfl⟩
  have HB : Aside0 (Below w.heap.size w wa) := ⟨by rw [hwa]; exact below_alloc (below_alloc (Below.refl _ _) _) _⟩
  have hA : wa.heap[ba]? = some (Obj.cells #[Value.int IntKind.i64 x, Value.bool y] 23 (0, 0)) := by rw [hwa]; exact hp_old (hp_new hba)
  have hE : wa.heap[ba + 1]? = some (Obj.cells #[Value.int IntKind.i64 p, Value.int IntKind.i64 q, Value.string t] 25 (0, 0)) := by rw [hwa]; exact hp_new (by rw [hba]; simp)
  have HA := Aside0.mk hA
  have HE := Aside0.mk hE
  have a0 : wa.cell? ⟨ba, 0, none⟩ = some (.int .i64 x) := cells_of_block hA 0 _ rfl
  have a1 : wa.cell? ⟨ba, 1, none⟩ = some (.bool y) := cells_of_block hA 1 _ rfl
  have e0 : wa.cell? ⟨ba + 1, 0, none⟩ = some (.int .i64 p) := cells_of_block hE 0 _ rfl
  have e1 : wa.cell? ⟨ba + 1, 1, none⟩ = some (.int .i64 q) := cells_of_block hE 1 _ rfl
  have e2 : wa.cell? ⟨ba + 1, 2, none⟩ = some (.string t) := cells_of_block hE 2 _ rfl
  have hfit := emendateref02_Fits.calls p q t (s.size : Int) true wa hf
  clear hA hE
  go_enter Try.func5, Try.ntmps5
  go_upto_region 1 with fail
  rw [← hwa, ← hba]
  clear hwa hba
  go_wp2_with fail
  (with_reducible refine hfit.mono ?_)
  rintro e w2 ⟨rfl, hb2⟩
  have HB2 := Aside0.mk (below_step HB.out hb2)
  have HA2 := Aside0.mk (hp_below hb2 HA.out)
  have HE2 := Aside0.mk (hp_below hb2 HE.out)
  clear hfit hb2 HB HA HE a0 a1 e0 e1 e2
  have a0 : w2.cell? ⟨ba, 0, none⟩ = some (.int .i64 x) := cells_of_block HA2.out 0 _ rfl
  have a1 : w2.cell? ⟨ba, 1, none⟩ = some (.bool y) := cells_of_block HA2.out 1 _ rfl
  have e0 : w2.cell? ⟨ba + 1, 0, none⟩ = some (.int .i64 p) := cells_of_block HE2.out 0 _ rfl
  have e1 : w2.cell? ⟨ba + 1, 1, none⟩ = some (.int .i64 q) := cells_of_block HE2.out 1 _ rfl
  have e2 : w2.cell? ⟨ba + 1, 2, none⟩ = some (.string t) := cells_of_block HE2.out 2 _ rfl
  have hsm := emendateref02_Small.calls x y p q t true w2 hsmall
  clear hsmall
  dsimp only
  go_wp2_with fail
  (with_reducible refine hsm.mono ?_)
  rintro e w3 ⟨rfl, hb3⟩
  have HB3 := Aside0.mk (below_step HB2.out hb3)
  have HA3 := Aside0.mk (hp_below hb3 HA2.out)
  have HE3 := Aside0.mk (hp_below hb3 HE2.out)
  clear hsm hb3 HB2 HA2 HE2 a0 a1 e0 e1 e2
  have a0 : w3.cell? ⟨ba, 0, none⟩ = some (.int .i64 x) := cells_of_block HA3.out 0 _ rfl
  have a1 : w3.cell? ⟨ba, 1, none⟩ = some (.bool y) := cells_of_block HA3.out 1 _ rfl
  have e0 : w3.cell? ⟨ba + 1, 0, none⟩ = some (.int .i64 p) := cells_of_block HE3.out 0 _ rfl
  have e1 : w3.cell? ⟨ba + 1, 1, none⟩ = some (.int .i64 q) := cells_of_block HE3.out 1 _ rfl
  have e2 : w3.cell? ⟨ba + 1, 2, none⟩ = some (.string t) := cells_of_block HE3.out 2 _ rfl
  obtain ⟨p0, q0, p1, q1⟩ := Pure.fits_yes (by omega) hf
  have hsmm := Pure.small_yes hsmall0
  have hb9 := Aside0.mk hs
  have w0 : IntKind.i64.wrap (p + q) = p + q := IntWalk.i64_in _ (by omega)
  have s1 : p ≤ (s.size : Int) := p1
  have s2 : (0 : Int) ≤ p + q := by omega
  have s3 : p + q ≤ (s.size : Int) := by omega
  dsimp only
  go_upto_region 3 with fail
  go_quiet (fail)
  go_wp2_with fail
  obtain ⟨ts, hts⟩ : ∃ ts, ts = s.extract 0 p.toNat ++ t ++ s.extract (p + q).toNat s.size := ⟨_, rfl⟩
  rw [← hts]
  have htz : (ts.size : Int) = s.size - q + t.size := by rw [hts]; simp only [ByteArray.size_append, ByteArray.size_extract]; omega
  obtain ⟨b, hbv⟩ : ∃ b : Int, b = x := ⟨_, rfl⟩
  have hmv : anchor_Move.f x y p q t = some (b, y) := by
    rw [Pure.move_small hsmm, hbv]
    rw [if_pos (by omega)]
  have hmc := anchor_Move.calls x y p q t b y (w3.drewN nq) hmv
  have hbr : 0 ≤ b ∧ b ≤ (ts.size : Int) := by omega
  have heq : ts.extract 0 b.toNat = s.extract 0 x.toNat := by rw [hts, hbv]; exact ext_front s t _ _ _ (by omega) (by omega)
  have m1 : decide (b < 0) = false := decide_eq_false (by omega)
  have m2 : decide ((ts.size : Int) < b) = false := decide_eq_false (by omega)
  have m3 : decide (x < p) = true := decide_eq_true (by omega)
  have m4 : decide (p + q < x) = false := decide_eq_false (by omega)
  have m5 : (0 : Int) ≤ b := by omega
  have m6 : b ≤ (ts.size : Int) := by omega
  have m7 : (0 : Int) ≤ x := by omega
  have m8 : x ≤ (s.size : Int) := hx
  have HA4 := Aside0.mk (show (w3.drewN nq).heap[ba]? = some (Obj.cells #[Value.int IntKind.i64 x, Value.bool y] 23 (0, 0)) from HA3.out)
  have HE4 := Aside0.mk (show (w3.drewN nq).heap[ba + 1]? = some (Obj.cells #[Value.int IntKind.i64 p, Value.int IntKind.i64 q, Value.string t] 25 (0, 0)) from HE3.out)
  have HB4 : Aside0 (Below w.heap.size w (w3.drewN nq)) := ⟨pw_below_drewN HB3.out _⟩
  clear hts htz hbv hmv hsmm hbr a0 a1 e0 e1 e2 HA3 HE3 HB3 hsmall0 hf s1 s2 s3 p0 q0 p1 q1 hb9 h2 h1
  (with_reducible refine hmc.mono ?_)
  rintro e w5 ⟨rfl, hb5⟩
  have HB5 := Aside0.mk (below_step HB4.out hb5)
  have hA5 := hp_below hb5 HA4.out
  have hE5 := hp_below hb5 HE4.out
  obtain ⟨w6, hw6⟩ : ∃ w6 : World, w6 = w5.alloc (Obj.cells #[Value.int IntKind.i64 b, Value.bool y] 23) := ⟨_, rfl⟩
  obtain ⟨bb, hbb⟩ : ∃ bb, bb = w5.heap.size := ⟨_, rfl⟩
  have hA6 : w6.heap[ba]? = some (Obj.cells #[Value.int IntKind.i64 x, Value.bool y] 23 (0, 0)) := by rw [hw6]; exact hp_old hA5
  have hE6 : w6.heap[ba + 1]? = some (Obj.cells #[Value.int IntKind.i64 p, Value.int IntKind.i64 q, Value.string t] 25 (0, 0)) := by rw [hw6]; exact hp_old hE5
  have hC6 : w6.heap[bb]? = some (Obj.cells #[Value.int IntKind.i64 b, Value.bool y] 23 (0, 0)) := by rw [hw6]; exact hp_new hbb
  have HB6 : Aside0 (Below w.heap.size w w6) := ⟨by rw [hw6]; exact below_alloc HB5.out _⟩
  have a0 : w6.cell? ⟨ba, 0, none⟩ = some (.int .i64 x) := cells_of_block hA6 0 _ rfl
  have e0 : w6.cell? ⟨ba + 1, 0, none⟩ = some (.int .i64 p) := cells_of_block hE6 0 _ rfl
  have e1 : w6.cell? ⟨ba + 1, 1, none⟩ = some (.int .i64 q) := cells_of_block hE6 1 _ rfl
  have c0 : w6.cell? ⟨bb, 0, none⟩ = some (.int .i64 b) := cells_of_block hC6 0 _ rfl
  clear hmc hb5 HB5 hA5 hE5 HB4 HA4 HE4 hA6 hE6 hC6
  dsimp only
  go_upto_region 5 with fail
  rw [← hw6, ← hbb]
  clear hw6 hbb
  go_wp2_with fail
  go_quiet (fail)
  go_wp2_with fail
  go_quiet (fail)
  go_wp2_with fail
  (with_reducible refine (aw _).mono ?_)
  rintro e w9 ⟨rfl, hb9⟩
  have HB9 := Aside0.mk (below_step (W := _) (by (first | exact HB6.out | exact pw_below_drewN HB6.out _ | exact pw_below_drewN (pw_below_drewN HB6.out _) _)) hb9)
  clear hb9
  dsimp only
  go_wp2_with fail
  go_ret
  exact ⟨rfl, HB9.out⟩
set_option maxHeartbeats 4000000 in
theorem keeps_b (s : ByteArray) (x : Int) (y : Bool) (p q : Int) (t : ByteArray) (w : World) (hs : ¬ (100 : Int) < (s.size : Int)) (hf : emendateref02_Fits.f p q t (s.size : Int) = some true) (hsmall : emendateref02_Small.f x y p q t = some true) (hx : x ≤ (s.size : Int)) (hxp : p ≤ x) (hxq : x ≤ p + q) :
    Calls Try.prog 5 #[.string s, .agg #[.int .i64 x, .bool y], .agg #[.int .i64 p, .int .i64 q, .string t]] w fun e w' => e = .returned (.bool true) ∧ Below w.heap.size w w' := by
  have hsmall0 := hsmall
  have h2 : decide ((s.size : Int) < x) = false := decide_eq_false (by omega)
  have h1 : decide ((100 : Int) < (s.size : Int)) = false := decide_eq_false hs
  have hu23 := Try.underlying23
  have hu25 := Try.underlying25
  obtain ⟨wa, hwa⟩ : ∃ wa : World, wa = (w.alloc (Obj.cells #[Value.int IntKind.i64 x, Value.bool y] 23)).alloc (Obj.cells #[Value.int IntKind.i64 p, Value.int IntKind.i64 q, Value.string t] 25) := ⟨_, rfl⟩
  obtain ⟨ba, hba⟩ : ∃ ba, ba = w.heap.size := ⟨_, rfl⟩
  have HB : Aside0 (Below w.heap.size w wa) := ⟨by rw [hwa]; exact below_alloc (below_alloc (Below.refl _ _) _) _⟩
  have hA : wa.heap[ba]? = some (Obj.cells #[Value.int IntKind.i64 x, Value.bool y] 23 (0, 0)) := by rw [hwa]; exact hp_old (hp_new hba)
  have hE : wa.heap[ba + 1]? = some (Obj.cells #[Value.int IntKind.i64 p, Value.int IntKind.i64 q, Value.string t] 25 (0, 0)) := by rw [hwa]; exact hp_new (by rw [hba]; simp)
  have HA := Aside0.mk hA
  have HE := Aside0.mk hE
  have a0 : wa.cell? ⟨ba, 0, none⟩ = some (.int .i64 x) := cells_of_block hA 0 _ rfl
  have a1 : wa.cell? ⟨ba, 1, none⟩ = some (.bool y) := cells_of_block hA 1 _ rfl
  have e0 : wa.cell? ⟨ba + 1, 0, none⟩ = some (.int .i64 p) := cells_of_block hE 0 _ rfl
  have e1 : wa.cell? ⟨ba + 1, 1, none⟩ = some (.int .i64 q) := cells_of_block hE 1 _ rfl
  have e2 : wa.cell? ⟨ba + 1, 2, none⟩ = some (.string t) := cells_of_block hE 2 _ rfl
  have hfit := emendateref02_Fits.calls p q t (s.size : Int) true wa hf
  clear hA hE
  go_enter Try.func5, Try.ntmps5
  go_upto_region 1 with fail
  rw [← hwa, ← hba]
  clear hwa hba
  go_wp2_with fail
  (with_reducible refine hfit.mono ?_)
  rintro e w2 ⟨rfl, hb2⟩
  have HB2 := Aside0.mk (below_step HB.out hb2)
  have HA2 := Aside0.mk (hp_below hb2 HA.out)
  have HE2 := Aside0.mk (hp_below hb2 HE.out)
  clear hfit hb2 HB HA HE a0 a1 e0 e1 e2
  have a0 : w2.cell? ⟨ba, 0, none⟩ = some (.int .i64 x) := cells_of_block HA2.out 0 _ rfl
  have a1 : w2.cell? ⟨ba, 1, none⟩ = some (.bool y) := cells_of_block HA2.out 1 _ rfl
  have e0 : w2.cell? ⟨ba + 1, 0, none⟩ = some (.int .i64 p) := cells_of_block HE2.out 0 _ rfl
  have e1 : w2.cell? ⟨ba + 1, 1, none⟩ = some (.int .i64 q) := cells_of_block HE2.out 1 _ rfl
  have e2 : w2.cell? ⟨ba + 1, 2, none⟩ = some (.string t) := cells_of_block HE2.out 2 _ rfl
  have hsm := emendateref02_Small.calls x y p q t true w2 hsmall
  clear hsmall
  dsimp only
  go_wp2_with fail
  (with_reducible refine hsm.mono ?_)
  rintro e w3 ⟨rfl, hb3⟩
  have HB3 := Aside0.mk (below_step HB2.out hb3)
  have HA3 := Aside0.mk (hp_below hb3 HA2.out)
  have HE3 := Aside0.mk (hp_below hb3 HE2.out)
  clear hsm hb3 HB2 HA2 HE2 a0 a1 e0 e1 e2
  have a0 : w3.cell? ⟨ba, 0, none⟩ = some (.int .i64 x) := cells_of_block HA3.out 0 _ rfl
  have a1 : w3.cell? ⟨ba, 1, none⟩ = some (.bool y) := cells_of_block HA3.out 1 _ rfl
  have e0 : w3.cell? ⟨ba + 1, 0, none⟩ = some (.int .i64 p) := cells_of_block HE3.out 0 _ rfl
  have e1 : w3.cell? ⟨ba + 1, 1, none⟩ = some (.int .i64 q) := cells_of_block HE3.out 1 _ rfl
  have e2 : w3.cell? ⟨ba + 1, 2, none⟩ = some (.string t) := cells_of_block HE3.out 2 _ rfl
  obtain ⟨p0, q0, p1, q1⟩ := Pure.fits_yes (by omega) hf
  have hsmm := Pure.small_yes hsmall0
  have hb9 := Aside0.mk hs
  have w0 : IntKind.i64.wrap (p + q) = p + q := IntWalk.i64_in _ (by omega)
  have s1 : p ≤ (s.size : Int) := p1
  have s2 : (0 : Int) ≤ p + q := by omega
  have s3 : p + q ≤ (s.size : Int) := by omega
  dsimp only
  go_upto_region 3 with fail
  go_quiet (fail)
  go_wp2_with fail
  obtain ⟨ts, hts⟩ : ∃ ts, ts = s.extract 0 p.toNat ++ t ++ s.extract (p + q).toNat s.size := ⟨_, rfl⟩
  rw [← hts]
  have htz : (ts.size : Int) = s.size - q + t.size := by rw [hts]; simp only [ByteArray.size_append, ByteArray.size_extract]; omega
  obtain ⟨b, hbv⟩ : ∃ b : Int, b = (if y = true then p + (t.size : Int) else p) := ⟨_, rfl⟩
  have hmv : anchor_Move.f x y p q t = some (b, y) := by
    rw [Pure.move_small hsmm, hbv]
    rw [if_neg (by omega), if_neg (by omega)]
    cases y <;> simp
  have hmc := anchor_Move.calls x y p q t b y (w3.drewN nq) hmv
  have hbz0 := trivial
  have hbz : b = p + (t.size : Int) ∨ b = p := by rw [hbv]; split <;> simp
  have hbr : 0 ≤ b ∧ b ≤ (ts.size : Int) := by rcases hbz with h | h <;> omega
  clear hbz0
  have m1 : decide (b < 0) = false := decide_eq_false (by omega)
  have m2 : decide ((ts.size : Int) < b) = false := decide_eq_false (by omega)
  have m3 : decide (x < p) = false := decide_eq_false (by omega)
  have m4 : decide (p + q < x) = false := decide_eq_false (by omega)
  have m5 : (0 : Int) ≤ b := by omega
  have m6 : b ≤ (ts.size : Int) := by omega
  have m7 : (0 : Int) ≤ x := by omega
  have m8 : x ≤ (s.size : Int) := hx
  have HA4 := Aside0.mk (show (w3.drewN nq).heap[ba]? = some (Obj.cells #[Value.int IntKind.i64 x, Value.bool y] 23 (0, 0)) from HA3.out)
  have HE4 := Aside0.mk (show (w3.drewN nq).heap[ba + 1]? = some (Obj.cells #[Value.int IntKind.i64 p, Value.int IntKind.i64 q, Value.string t] 25 (0, 0)) from HE3.out)
  have HB4 : Aside0 (Below w.heap.size w (w3.drewN nq)) := ⟨pw_below_drewN HB3.out _⟩
  clear hbz hts htz hbv hmv hsmm hbr a0 a1 e0 e1 e2 HA3 HE3 HB3 hsmall0 hf s1 s2 s3 p0 q0 p1 q1 hb9 h2 h1
  (with_reducible refine hmc.mono ?_)
  rintro e w5 ⟨rfl, hb5⟩
  have HB5 := Aside0.mk (below_step HB4.out hb5)
  have hA5 := hp_below hb5 HA4.out
  have hE5 := hp_below hb5 HE4.out
  obtain ⟨w6, hw6⟩ : ∃ w6 : World, w6 = w5.alloc (Obj.cells #[Value.int IntKind.i64 b, Value.bool y] 23) := ⟨_, rfl⟩
  obtain ⟨bb, hbb⟩ : ∃ bb, bb = w5.heap.size := ⟨_, rfl⟩
  have hA6 : w6.heap[ba]? = some (Obj.cells #[Value.int IntKind.i64 x, Value.bool y] 23 (0, 0)) := by rw [hw6]; exact hp_old hA5
  have hE6 : w6.heap[ba + 1]? = some (Obj.cells #[Value.int IntKind.i64 p, Value.int IntKind.i64 q, Value.string t] 25 (0, 0)) := by rw [hw6]; exact hp_old hE5
  have hC6 : w6.heap[bb]? = some (Obj.cells #[Value.int IntKind.i64 b, Value.bool y] 23 (0, 0)) := by rw [hw6]; exact hp_new hbb
  have HB6 : Aside0 (Below w.heap.size w w6) := ⟨by rw [hw6]; exact below_alloc HB5.out _⟩
  have a0 : w6.cell? ⟨ba, 0, none⟩ = some (.int .i64 x) := cells_of_block hA6 0 _ rfl
  have e0 : w6.cell? ⟨ba + 1, 0, none⟩ = some (.int .i64 p) := cells_of_block hE6 0 _ rfl
  have e1 : w6.cell? ⟨ba + 1, 1, none⟩ = some (.int .i64 q) := cells_of_block hE6 1 _ rfl
  have c0 : w6.cell? ⟨bb, 0, none⟩ = some (.int .i64 b) := cells_of_block hC6 0 _ rfl
  clear hmc hb5 HB5 hA5 hE5 HB4 HA4 HE4 hA6 hE6 hC6
  dsimp only
  go_upto_region 5 with fail
  rw [← hw6, ← hbb]
  clear hw6 hbb
  go_wp2_with fail
  go_quiet (fail)
  go_wp2_with fail
  go_quiet (fail)
  go_wp2_with fail
  (with_reducible refine (aw _).mono ?_)
  rintro e w9 ⟨rfl, hb9⟩
  have HB9 := Aside0.mk (below_step (W := _) (by (first | exact HB6.out | exact pw_below_drewN HB6.out _ | exact pw_below_drewN (pw_below_drewN HB6.out _) _)) hb9)
  clear hb9
  dsimp only
  go_wp2_with fail
  go_ret
  exact ⟨rfl, HB9.out⟩
set_option maxHeartbeats 4000000 in
theorem keeps_c (s : ByteArray) (x : Int) (y : Bool) (p q : Int) (t : ByteArray) (w : World) (hs : ¬ (100 : Int) < (s.size : Int)) (hf : emendateref02_Fits.f p q t (s.size : Int) = some true) (hsmall : emendateref02_Small.f x y p q t = some true) (hx : x ≤ (s.size : Int)) (hxq : p + q < x) :
    Calls Try.prog 5 #[.string s, .agg #[.int .i64 x, .bool y], .agg #[.int .i64 p, .int .i64 q, .string t]] w fun e w' => e = .returned (.bool true) ∧ Below w.heap.size w w' := by
  have hsmall0 := hsmall
  have h2 : decide ((s.size : Int) < x) = false := decide_eq_false (by omega)
  have h1 : decide ((100 : Int) < (s.size : Int)) = false := decide_eq_false hs
  have hu23 := Try.underlying23
  have hu25 := Try.underlying25
  obtain ⟨wa, hwa⟩ : ∃ wa : World, wa = (w.alloc (Obj.cells #[Value.int IntKind.i64 x, Value.bool y] 23)).alloc (Obj.cells #[Value.int IntKind.i64 p, Value.int IntKind.i64 q, Value.string t] 25) := ⟨_, rfl⟩
  obtain ⟨ba, hba⟩ : ∃ ba, ba = w.heap.size := ⟨_, rfl⟩
  have HB : Aside0 (Below w.heap.size w wa) := ⟨by rw [hwa]; exact below_alloc (below_alloc (Below.refl _ _) _) _⟩
  have hA : wa.heap[ba]? = some (Obj.cells #[Value.int IntKind.i64 x, Value.bool y] 23 (0, 0)) := by rw [hwa]; exact hp_old (hp_new hba)
  have hE : wa.heap[ba + 1]? = some (Obj.cells #[Value.int IntKind.i64 p, Value.int IntKind.i64 q, Value.string t] 25 (0, 0)) := by rw [hwa]; exact hp_new (by rw [hba]; simp)
  have HA := Aside0.mk hA
  have HE := Aside0.mk hE
  have a0 : wa.cell? ⟨ba, 0, none⟩ = some (.int .i64 x) := cells_of_block hA 0 _ rfl
  have a1 : wa.cell? ⟨ba, 1, none⟩ = some (.bool y) := cells_of_block hA 1 _ rfl
  have e0 : wa.cell? ⟨ba + 1, 0, none⟩ = some (.int .i64 p) := cells_of_block hE 0 _ rfl
  have e1 : wa.cell? ⟨ba + 1, 1, none⟩ = some (.int .i64 q) := cells_of_block hE 1 _ rfl
  have e2 : wa.cell? ⟨ba + 1, 2, none⟩ = some (.string t) := cells_of_block hE 2 _ rfl
  have hfit := emendateref02_Fits.calls p q t (s.size : Int) true wa hf
  clear hA hE
  go_enter Try.func5, Try.ntmps5
  go_upto_region 1 with fail
  rw [← hwa, ← hba]
  clear hwa hba
  go_wp2_with fail
  (with_reducible refine hfit.mono ?_)
  rintro e w2 ⟨rfl, hb2⟩
  have HB2 := Aside0.mk (below_step HB.out hb2)
  have HA2 := Aside0.mk (hp_below hb2 HA.out)
  have HE2 := Aside0.mk (hp_below hb2 HE.out)
  clear hfit hb2 HB HA HE a0 a1 e0 e1 e2
  have a0 : w2.cell? ⟨ba, 0, none⟩ = some (.int .i64 x) := cells_of_block HA2.out 0 _ rfl
  have a1 : w2.cell? ⟨ba, 1, none⟩ = some (.bool y) := cells_of_block HA2.out 1 _ rfl
  have e0 : w2.cell? ⟨ba + 1, 0, none⟩ = some (.int .i64 p) := cells_of_block HE2.out 0 _ rfl
  have e1 : w2.cell? ⟨ba + 1, 1, none⟩ = some (.int .i64 q) := cells_of_block HE2.out 1 _ rfl
  have e2 : w2.cell? ⟨ba + 1, 2, none⟩ = some (.string t) := cells_of_block HE2.out 2 _ rfl
  have hsm := emendateref02_Small.calls x y p q t true w2 hsmall
  clear hsmall
  dsimp only
  go_wp2_with fail
  (with_reducible refine hsm.mono ?_)
  rintro e w3 ⟨rfl, hb3⟩
  have HB3 := Aside0.mk (below_step HB2.out hb3)
  have HA3 := Aside0.mk (hp_below hb3 HA2.out)
  have HE3 := Aside0.mk (hp_below hb3 HE2.out)
  clear hsm hb3 HB2 HA2 HE2 a0 a1 e0 e1 e2
  have a0 : w3.cell? ⟨ba, 0, none⟩ = some (.int .i64 x) := cells_of_block HA3.out 0 _ rfl
  have a1 : w3.cell? ⟨ba, 1, none⟩ = some (.bool y) := cells_of_block HA3.out 1 _ rfl
  have e0 : w3.cell? ⟨ba + 1, 0, none⟩ = some (.int .i64 p) := cells_of_block HE3.out 0 _ rfl
  have e1 : w3.cell? ⟨ba + 1, 1, none⟩ = some (.int .i64 q) := cells_of_block HE3.out 1 _ rfl
  have e2 : w3.cell? ⟨ba + 1, 2, none⟩ = some (.string t) := cells_of_block HE3.out 2 _ rfl
  obtain ⟨p0, q0, p1, q1⟩ := Pure.fits_yes (by omega) hf
  have hsmm := Pure.small_yes hsmall0
  have hb9 := Aside0.mk hs
  have w0 : IntKind.i64.wrap (p + q) = p + q := IntWalk.i64_in _ (by omega)
  have s1 : p ≤ (s.size : Int) := p1
  have s2 : (0 : Int) ≤ p + q := by omega
  have s3 : p + q ≤ (s.size : Int) := by omega
  dsimp only
  go_upto_region 3 with fail
  go_quiet (fail)
  go_wp2_with fail
  obtain ⟨ts, hts⟩ : ∃ ts, ts = s.extract 0 p.toNat ++ t ++ s.extract (p + q).toNat s.size := ⟨_, rfl⟩
  rw [← hts]
  have htz : (ts.size : Int) = s.size - q + t.size := by rw [hts]; simp only [ByteArray.size_append, ByteArray.size_extract]; omega
  obtain ⟨b, hbv⟩ : ∃ b : Int, b = x + (t.size : Int) - q := ⟨_, rfl⟩
  have hmv : anchor_Move.f x y p q t = some (b, y) := by
    rw [Pure.move_small hsmm, hbv]
    rw [if_neg (by omega), if_pos (by omega)]
  have hmc := anchor_Move.calls x y p q t b y (w3.drewN nq) hmv
  have hbr : 0 ≤ b ∧ b ≤ (ts.size : Int) := by omega
  have heq : ts.extract b.toNat ts.size = s.extract x.toNat s.size := by rw [hts, hbv]; exact ext_back s t _ _ _ _ (by omega) (by omega) (by omega) (by omega)
  have m1 : decide (b < 0) = false := decide_eq_false (by omega)
  have m2 : decide ((ts.size : Int) < b) = false := decide_eq_false (by omega)
  have m3 : decide (x < p) = false := decide_eq_false (by omega)
  have m4 : decide (p + q < x) = true := decide_eq_true (by omega)
  have m5 : (0 : Int) ≤ b := by omega
  have m6 : b ≤ (ts.size : Int) := by omega
  have m7 : (0 : Int) ≤ x := by omega
  have m8 : x ≤ (s.size : Int) := hx
  have HA4 := Aside0.mk (show (w3.drewN nq).heap[ba]? = some (Obj.cells #[Value.int IntKind.i64 x, Value.bool y] 23 (0, 0)) from HA3.out)
  have HE4 := Aside0.mk (show (w3.drewN nq).heap[ba + 1]? = some (Obj.cells #[Value.int IntKind.i64 p, Value.int IntKind.i64 q, Value.string t] 25 (0, 0)) from HE3.out)
  have HB4 : Aside0 (Below w.heap.size w (w3.drewN nq)) := ⟨pw_below_drewN HB3.out _⟩
  clear hts htz hbv hmv hsmm hbr a0 a1 e0 e1 e2 HA3 HE3 HB3 hsmall0 hf s1 s2 s3 p0 q0 p1 q1 hb9 h2 h1
  (with_reducible refine hmc.mono ?_)
  rintro e w5 ⟨rfl, hb5⟩
  have HB5 := Aside0.mk (below_step HB4.out hb5)
  have hA5 := hp_below hb5 HA4.out
  have hE5 := hp_below hb5 HE4.out
  obtain ⟨w6, hw6⟩ : ∃ w6 : World, w6 = w5.alloc (Obj.cells #[Value.int IntKind.i64 b, Value.bool y] 23) := ⟨_, rfl⟩
  obtain ⟨bb, hbb⟩ : ∃ bb, bb = w5.heap.size := ⟨_, rfl⟩
  have hA6 : w6.heap[ba]? = some (Obj.cells #[Value.int IntKind.i64 x, Value.bool y] 23 (0, 0)) := by rw [hw6]; exact hp_old hA5
  have hE6 : w6.heap[ba + 1]? = some (Obj.cells #[Value.int IntKind.i64 p, Value.int IntKind.i64 q, Value.string t] 25 (0, 0)) := by rw [hw6]; exact hp_old hE5
  have hC6 : w6.heap[bb]? = some (Obj.cells #[Value.int IntKind.i64 b, Value.bool y] 23 (0, 0)) := by rw [hw6]; exact hp_new hbb
  have HB6 : Aside0 (Below w.heap.size w w6) := ⟨by rw [hw6]; exact below_alloc HB5.out _⟩
  have a0 : w6.cell? ⟨ba, 0, none⟩ = some (.int .i64 x) := cells_of_block hA6 0 _ rfl
  have e0 : w6.cell? ⟨ba + 1, 0, none⟩ = some (.int .i64 p) := cells_of_block hE6 0 _ rfl
  have e1 : w6.cell? ⟨ba + 1, 1, none⟩ = some (.int .i64 q) := cells_of_block hE6 1 _ rfl
  have c0 : w6.cell? ⟨bb, 0, none⟩ = some (.int .i64 b) := cells_of_block hC6 0 _ rfl
  clear hmc hb5 HB5 hA5 hE5 HB4 HA4 HE4 hA6 hE6 hC6
  dsimp only
  go_upto_region 5 with fail
  rw [← hw6, ← hbb]
  clear hw6 hbb
  go_wp2_with fail
  go_quiet (fail)
  go_wp2_with fail
  go_quiet (fail)
  go_wp2_with fail
  (with_reducible refine (aw _).mono ?_)
  rintro e w9 ⟨rfl, hb9⟩
  have HB9 := Aside0.mk (below_step (W := _) (by (first | exact HB6.out | exact pw_below_drewN HB6.out _ | exact pw_below_drewN (pw_below_drewN HB6.out _) _)) hb9)
  clear hb9
  dsimp only
  go_wp2_with fail
  go_ret
  exact ⟨rfl, HB9.out⟩

/-- AnchorKeepsNeighbors, whatever the input. -/
theorem keeps_all (s : ByteArray) (x : Int) (y : Bool) (p q : Int) (t : ByteArray) (w : World) :
    Calls Try.prog 5 #[.string s, .agg #[.int .i64 x, .bool y], .agg #[.int .i64 p, .int .i64 q, .string t]] w fun e w' => e = .returned (.bool true) ∧ Below w.heap.size w w' := by
  by_cases hs : (100 : Int) < (s.size : Int)
  · exact keeps_far s x y p q t w hs
  · obtain ⟨b, hf⟩ := Pure.fits_some p q t (s.size : Int)
    cases b with
    | false => exact keeps_unfit s x y p q t w hs hf
    | true =>
      obtain ⟨c, hc⟩ := Pure.small_some x y p q t
      cases c with
      | false => exact keeps_large s x y p q t w hs hf hc
      | true =>
        by_cases hx : (s.size : Int) < x
        · exact keeps_behind s x y p q t w hs hf hc hx
        · by_cases h1 : x < p
          · exact keeps_a s x y p q t w hs hf hc (by omega) h1
          · by_cases h2 : x ≤ p + q
            · exact keeps_b s x y p q t w hs hf hc (by omega) (by omega) h2
            · exact keeps_c s x y p q t w hs hf hc (by omega) (by omega)
end Go.Proofs.Ytgmgihnagpmfcaa.PA
