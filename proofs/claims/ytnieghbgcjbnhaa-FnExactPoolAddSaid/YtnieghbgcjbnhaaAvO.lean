/-
The types, as arguments are opened.
Conditions: none.
-/
import Derived.Test.YtnieghbgcjbnhaaAvOpen
import Derived.Test.YtnieghbgcjbnhaaAvT
set_option linter.unusedVariables false
namespace Go.Proofs.Ytnieghbgcjbnhaa.Av
open Go.RowKit
set_option maxRecDepth 20000
def w33 (x : S33) : Prop := ((Lit.int .i64 x.f0).wf = true) ∧ (x.f1.size ≤ maxLen) ∧ (x.f2.size ≤ maxLen) ∧ ((Lit.int .i64 x.f3).wf = true) ∧ ((Lit.int .i64 x.f4).wf = true)
theorem o33 : OpenD Try.prog 33 5 d33 w33 := by
  refine od_struct Try.underlying33 (by kernel_rfl) (oda_cons rfl (od_int .i64 Try.underlying3 (by kernel_rfl)) (oda_cons rfl (od_string Try.underlying9 (by kernel_rfl)) (oda_cons rfl (od_string Try.underlying9 (by kernel_rfl)) (oda_cons rfl (od_int .i64 Try.underlying3 (by kernel_rfl)) (oda_one rfl (od_int .i64 Try.underlying3 (by kernel_rfl))))))) rfl (fun a => ⟨a.1, a.2.1, a.2.2.1, a.2.2.2.1, a.2.2.2.2⟩) (fun _ => rfl) (fun _ => rfl) ?_
  exact fun _ h => h
end Go.Proofs.Ytnieghbgcjbnhaa.Av
