/-
What each type of the parameters of FnExactIsQuorum opens to, by its shape.
Conditions: none.
-/
import Derived.Test.YtieecjilnaijkaaPFnExactIsQuorumx0
import Derived.Test.YtieecjilnaijkaaOpens
set_option linter.unusedVariables false
namespace Go.Proofs.Ytieecjilnaijkaa.PFnExactIsQuorum
open Go.RowKit Go.Proofs.YtieecjilnaijkaaW.PrintWords Go.Proofs.Ytieecjilnaijkaa.Opens

/-- What the reading gives of a value of struct type 92. -/
def w92 (x : S92) : Prop := (x.f0.size ≤ maxLen) ∧ ((Lit.int .i64 x.f1).wf = true)

set_option maxRecDepth 10000 in
theorem o92 : Opens Try.prog 92 k92 w92 := by
  refine opens_struct Try.underlying92 (by kernel_rfl) (opensAt_cons rfl (opens_string Try.underlying9 (by kernel_rfl)) (opensAt_one rfl (opens_int .i64 Try.underlying3 (by kernel_rfl)))) _ (fun p => ⟨p.1, p.2⟩) ?_ ?_
  · exact fun _ => rfl
  · exact fun _ h => h

end Go.Proofs.Ytieecjilnaijkaa.PFnExactIsQuorum
