import Derived.Test.YtcigcacjjdpgfaaHandG4
/- Boxes of the laws' arguments and results, in later worlds. -/
namespace Go.Proofs.Ytcigcacjjdpgfaa.Hand
open Go.RowKit Go.Proofs.YtcigcacjjdpgfaaW.PrintWords Go.Proofs.YtcigcacjjdpgfaaW.PrintLast Go.Proofs.YtcigcacjjdpgfaaW.PrintMore Go.Proofs.Ytcigcacjjdpgfaa.PA
set_option linter.unusedVariables false
set_option linter.unusedSimpArgs false
theorem nb25 (W : World) (v0 v1 v2 : Value) : (W.alloc (Obj.cells #[v0, v1, v2] 25)).heap[W.heap.size]? = some (.cells #[v0, v1, v2] 25 (0, 0)) ∧ Below W.heap.size W (W.alloc (Obj.cells #[v0, v1, v2] 25)) :=
  ⟨blk_new rfl, below_alloc (Below.refl _ _) _⟩
theorem B3 {b t : Nat} {v0 v1 v2 : Value} {wa w' : World} (h : wa.heap[b]? = some (.cells #[v0, v1, v2] t (0, 0))) (hb : Below wa.heap.size wa w') :
    w'.heap[b]? = some (.cells #[v0, v1, v2] t (0, 0)) ∧ w'.cell? ⟨b, 0, none⟩ = some v0 ∧ w'.cell? ⟨b, 1, none⟩ = some v1 ∧ w'.cell? ⟨b, 2, none⟩ = some v2 := by
  have h2 := blk_Kp (S := fun _ => False) h (Kp.of_below hb) (fun h => h)
  exact ⟨h2, cell_of_block h2 0 _ rfl, cell_of_block h2 1 _ rfl, cell_of_block h2 2 _ rfl⟩
theorem B2 {b t : Nat} {v0 v1 : Value} {wa w' : World} (h : wa.heap[b]? = some (.cells #[v0, v1] t (0, 0))) (hb : Below wa.heap.size wa w') : w'.cell? ⟨b, 0, none⟩ = some v0 ∧ w'.cell? ⟨b, 1, none⟩ = some v1 := by
  have h2 := blk_Kp (S := fun _ => False) h (Kp.of_below hb) (fun h => h)
  exact ⟨cell_of_block h2 0 _ rfl, cell_of_block h2 1 _ rfl⟩
theorem B5 {b t : Nat} {v0 v1 v2 v3 v4 : Value} {wa w' : World} (h : wa.heap[b]? = some (.cells #[v0, v1, v2, v3, v4] t (0, 0))) (hb : Below wa.heap.size wa w') : w'.cell? ⟨b, 0, none⟩ = some v0 ∧ w'.cell? ⟨b, 1, none⟩ = some v1 ∧ w'.cell? ⟨b, 2, none⟩ = some v2 ∧ w'.cell? ⟨b, 3, none⟩ = some v3 ∧ w'.cell? ⟨b, 4, none⟩ = some v4 := by
  have h2 := blk_Kp (S := fun _ => False) h (Kp.of_below hb) (fun h => h)
  exact ⟨cell_of_block h2 0 _ rfl, cell_of_block h2 1 _ rfl, cell_of_block h2 2 _ rfl, cell_of_block h2 3 _ rfl, cell_of_block h2 4 _ rfl⟩
end Go.Proofs.Ytcigcacjjdpgfaa.Hand
