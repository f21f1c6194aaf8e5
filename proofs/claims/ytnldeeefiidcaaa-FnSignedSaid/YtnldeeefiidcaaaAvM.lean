/-
What functions of the program come to, walked one by one.
Conditions: none beside those that each theorem names.
-/
import Derived.Test.YtnldeeefiidcaaaAvC
set_option linter.unusedVariables false
set_option linter.unusedSimpArgs false
namespace Go.Proofs.Ytnldeeefiidcaaa.Av
open Go.RowKit
set_option maxRecDepth 20000
set_option maxHeartbeats 4000000

theorem not_mem {α : Type} {l : List α} {x : α} {i : Int} (hA : Upto (fun _ y => x ≠ y) (fun n => l[n]?) i) (h : (l.length : Int) ≤ i) : x ∉ l := fun hx => by
  obtain ⟨j, hj⟩ := List.mem_iff_getElem?.1 hx
  have := (List.getElem?_eq_some_iff.1 hj).1
  exact hA j x (by omega) (by omega) (by simpa using hj) rfl
end Go.Proofs.Ytnldeeefiidcaaa.Av
