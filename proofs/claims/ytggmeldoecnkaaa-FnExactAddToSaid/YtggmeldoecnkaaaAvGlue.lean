/-
What a law over bytes comes to, told as its row asks for it.
Conditions: none beside those that each theorem names.
-/
import Derived.Test.YtggmeldoecnkaaaAv22
set_option linter.unusedVariables false
namespace Go.Proofs.Ytggmeldoecnkaaa.Av
open Go.RowKit

theorem cell_spot {w : World} {x : Addr} {u : Value} (h : w.cell? x = some u) : x = ⟨x.block, x.off, none⟩ ∧ ∃ cs ty fr, w.heap[x.block]? = some (.cells cs ty fr) ∧ cs[x.off]? = some u := by
  unfold World.cell? at h
  split at h
  · rename_i c ty fr hb
    split at h
    · cases h
    · rename_i hs
      refine ⟨?_, c, ty, fr, hb, h⟩
      obtain ⟨b, o, s⟩ := x
      cases s with
      | none => rfl
      | some s => simp at hs
  · cases h
end Go.Proofs.Ytggmeldoecnkaaa.Av
