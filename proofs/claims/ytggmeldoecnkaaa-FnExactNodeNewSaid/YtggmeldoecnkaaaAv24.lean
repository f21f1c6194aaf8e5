/-
What slices.Insert needs: copies within a row of the call's own, told cell by cell; two slices of which one may be written do not overlap.
Conditions: none beside those that each theorem names.
-/
import Derived.Test.YtggmeldoecnkaaaAv22
import Derived.Shelf.Spec.SlicesInsertGrow
set_option linter.unusedVariables false
set_option linter.unusedSimpArgs false
namespace Go.Proofs.Ytggmeldoecnkaaa.Av
open Go.RowKit

/-- Since w: block g holds cur; nothing else of what there was is touched. -/
structure AtRow (w : World) (g : Nat) (ty : TypeId) (cur : Array Value) (W : World) : Prop where
  os : W.os = w.os
  tape : W.tape = w.tape
  output : W.output = w.output
  size : w.heap.size ≤ W.heap.size
  block : ∀ k, k < w.heap.size → k ≠ g → W.heap[k]? = w.heap[k]?
  row : W.heap[g]? = some (.cells cur ty (0, 0))
section
variable {P : Program} {w W : World} {g : Nat} {ty : TypeId} {cur : Array Value}
theorem AtRow.here (h : w.heap[g]? = some (.cells cur ty (0, 0))) : AtRow w g ty cur w := ⟨rfl, rfl, rfl, Nat.le_refl _, fun _ _ _ => rfl, h⟩
theorem AtRow.drew (h : AtRow w g ty cur W) : AtRow w g ty cur W.drew := ⟨h.os, h.tape, h.output, h.size, h.block, h.row⟩
theorem AtRow.set (h : AtRow w g ty cur W) (cs : Array Value) : AtRow w g ty cs (W.setRow g cs) := by
  refine ⟨h.os, h.tape, h.output, ?_, fun k hk hn => ?_, setRow_heap W g cur cs ty (0, 0) h.row⟩
  · have := h.size; simpa [World.setRow] using this
  · rw [← h.block k hk hn]
    simp [World.setRow, Array.getElem?_modify, Ne.symm hn]
theorem AtRow.new (w : World) (ty : TypeId) (cs : Array Value) : AtRow w w.heap.size ty cs (w.drew.alloc (.cells cs ty)) := by
  refine ⟨rfl, rfl, rfl, ?_, fun k hk hn => ?_, ?_⟩
  · show w.heap.size ≤ (w.heap.push _).size
    simp
  · show (w.heap.push _)[k]? = _
    rw [Array.getElem?_push]
    simp [hn]
  · show (w.heap.push _)[w.heap.size]? = _
    simp
end
end Go.Proofs.Ytggmeldoecnkaaa.Av
