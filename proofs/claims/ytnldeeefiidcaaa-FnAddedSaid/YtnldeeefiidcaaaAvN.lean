/-
What functions of the program come to, walked one by one.
Conditions: none beside those that each theorem names.
-/
import Derived.Test.YtnldeeefiidcaaaAvM
set_option linter.unusedVariables false
set_option linter.unusedSimpArgs false
namespace Go.Proofs.Ytnldeeefiidcaaa.Av
open Go.RowKit
set_option maxRecDepth 20000
set_option maxHeartbeats 4000000

theorem self_at {l : List S59} (h : treeP l) {i : Int} {x : S59} (h0 : 0 ≤ i) (hx : l[i.toNat]? = some x) : idAt l x.f0 = i := by
  refine idAt_yes h0 hx rfl fun j y hj hy => ?_
  have := asc_lt h (i.toNat - j - 1) j y x hy (by rw [show j + 1 + (i.toNat - j - 1) = i.toNat by omega]; exact hx)
  omega
section
variable {l : List S59} {id k : Int} {c : Int}
end
theorem chOf_eq {l : List S59} (ht : treeOk l = true) (id : Int) : chainOf l id = (chain l id).reverse := by simp [chainOf, ht]
end Go.Proofs.Ytnldeeefiidcaaa.Av
