/-
slices.Insert of one element, told as a function over rows.
Conditions: none beside those that each theorem names.
-/
import Derived.Test.YtggmeldoecnkaaaAv24
set_option linter.unusedVariables false
set_option linter.unusedSimpArgs false
namespace Go.Proofs.Ytggmeldoecnkaaa.Av
open Go.RowKit

theorem lookH_one {k b : Nat} {B B' : Blk} (h : lookH [(k, some B)] b = some B') : b = k := by
  have := lookH_mem h
  simp at this
  exact this.1
end Go.Proofs.Ytggmeldoecnkaaa.Av
