/-
The types, as arguments are opened.
Conditions: none.
-/
import Derived.Test.YtggmeldoecnkaaaAvOpen
import Derived.Test.YtggmeldoecnkaaaAvT
set_option linter.unusedVariables false
namespace Go.Proofs.Ytggmeldoecnkaaa.Av
open Go.RowKit
set_option maxRecDepth 20000
def w211 (x : S211) : Prop := ((Lit.int .i64 x.f0).wf = true) ∧ ((Lit.int .i64 x.f1).wf = true)
theorem o211 : OpenD Try.prog 211 2 d211 w211 := by
  refine od_struct Try.underlying211 (by kernel_rfl) (oda_cons rfl (od_int .i64 Try.underlying3 (by kernel_rfl)) (oda_one rfl (od_int .i64 Try.underlying3 (by kernel_rfl)))) rfl (fun a => ⟨a.1, a.2⟩) (fun _ => rfl) (fun _ => rfl) ?_
  exact fun _ h => h
def w151 (x : S151) : Prop := (x.f0.size ≤ maxLen) ∧ ((Lit.int .i64 x.f1).wf = true) ∧ ((Lit.int .i64 x.f2).wf = true) ∧ ((Lit.int .i64 x.f3).wf = true) ∧ (x.f4.length ≤ maxLen ∧ ∀ y ∈ x.f4, w211 y)
theorem o151 : OpenD Try.prog 151 5 d151 w151 := by
  refine od_struct Try.underlying151 (by kernel_rfl) (oda_cons rfl (od_string Try.underlying9 (by kernel_rfl)) (oda_cons rfl (od_int .i64 Try.underlying3 (by kernel_rfl)) (oda_cons rfl (od_int .i64 Try.underlying3 (by kernel_rfl)) (oda_cons rfl (od_int .i64 Try.underlying3 (by kernel_rfl)) (oda_one rfl (od_slice Try.underlying149 (by kernel_rfl) o211)))))) rfl (fun a => ⟨a.1, a.2.1, a.2.2.1, a.2.2.2.1, a.2.2.2.2⟩) (fun _ => rfl) (fun _ => rfl) ?_
  exact fun _ h => h
def w42 (x : S42) : Prop := ((Lit.int .i64 x.f0).wf = true) ∧ (x.f1.length ≤ maxLen ∧ ∀ y ∈ x.f1, w151 y)
theorem o42 : OpenD Try.prog 42 2 d42 w42 := by
  refine od_struct Try.underlying42 (by kernel_rfl) (oda_cons rfl (od_int .i64 Try.underlying3 (by kernel_rfl)) (oda_one rfl (od_slice Try.underlying40 (by kernel_rfl) o151))) rfl (fun a => ⟨a.1, a.2⟩) (fun _ => rfl) (fun _ => rfl) ?_
  exact fun _ h => h
end Go.Proofs.Ytggmeldoecnkaaa.Av
