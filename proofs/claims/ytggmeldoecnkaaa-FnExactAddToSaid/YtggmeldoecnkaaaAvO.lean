/-
The types, as arguments are opened.
Conditions: none.
-/
import Derived.Test.YtggmeldoecnkaaaAvOpen
import Derived.Test.YtggmeldoecnkaaaAvT
set_option linter.unusedVariables false
namespace Go.Proofs.Ytggmeldoecnkaaa.Av
open Go.RowKit
set_option maxRecDepth 20000
def w55 (x : S55) : Prop := ((Lit.int .i64 x.f0).wf = true) ∧ ((Lit.int .i64 x.f1).wf = true) ∧ (x.f2.length ≤ maxLen ∧ ∀ y ∈ x.f2, (y.size ≤ maxLen))
theorem o55 : OpenD Try.prog 55 3 d55 w55 := by
  refine od_struct Try.underlying55 (by kernel_rfl) (oda_cons rfl (od_int .i64 Try.underlying3 (by kernel_rfl)) (oda_cons rfl (od_int .i64 Try.underlying3 (by kernel_rfl)) (oda_one rfl (od_slice Try.underlying53 (by kernel_rfl) (od_string Try.underlying9 (by kernel_rfl)))))) rfl (fun a => ⟨a.1, a.2.1, a.2.2⟩) (fun _ => rfl) (fun _ => rfl) ?_
  exact fun _ h => h
def w58 (x : S58) : Prop := ((Lit.int .i64 x.f0).wf = true) ∧ (x.f1.length ≤ maxLen ∧ ∀ y ∈ x.f1, (y.size ≤ maxLen)) ∧ (x.f2.length ≤ maxLen ∧ ∀ y ∈ x.f2, ((Lit.int .i64 y).wf = true))
theorem o58 : OpenD Try.prog 58 3 d58 w58 := by
  refine od_struct Try.underlying58 (by kernel_rfl) (oda_cons rfl (od_int .i64 Try.underlying3 (by kernel_rfl)) (oda_cons rfl (od_slice Try.underlying53 (by kernel_rfl) (od_string Try.underlying9 (by kernel_rfl))) (oda_one rfl (od_slice Try.underlying56 (by kernel_rfl) (od_int .i64 Try.underlying3 (by kernel_rfl)))))) rfl (fun a => ⟨a.1, a.2.1, a.2.2⟩) (fun _ => rfl) (fun _ => rfl) ?_
  exact fun _ h => h
def w100 (x : S100) : Prop := ((Lit.int .i64 x.f0).wf = true) ∧ (x.f1.size ≤ maxLen) ∧ (x.f2.size ≤ maxLen) ∧ ((Lit.int .i64 x.f3).wf = true) ∧ ((Lit.int .i64 x.f4).wf = true)
theorem o100 : OpenD Try.prog 100 5 d100 w100 := by
  refine od_struct Try.underlying100 (by kernel_rfl) (oda_cons rfl (od_int .i64 Try.underlying3 (by kernel_rfl)) (oda_cons rfl (od_string Try.underlying9 (by kernel_rfl)) (oda_cons rfl (od_string Try.underlying9 (by kernel_rfl)) (oda_cons rfl (od_int .i64 Try.underlying3 (by kernel_rfl)) (oda_one rfl (od_int .i64 Try.underlying3 (by kernel_rfl))))))) rfl (fun a => ⟨a.1, a.2.1, a.2.2.1, a.2.2.2.1, a.2.2.2.2⟩) (fun _ => rfl) (fun _ => rfl) ?_
  exact fun _ h => h
def w158 (x : S158) : Prop := (x.f0.size ≤ maxLen) ∧ ((Lit.int .i64 x.f1).wf = true)
theorem o158 : OpenD Try.prog 158 2 d158 w158 := by
  refine od_struct Try.underlying158 (by kernel_rfl) (oda_cons rfl (od_string Try.underlying9 (by kernel_rfl)) (oda_one rfl (od_int .i64 Try.underlying3 (by kernel_rfl)))) rfl (fun a => ⟨a.1, a.2⟩) (fun _ => rfl) (fun _ => rfl) ?_
  exact fun _ h => h
def w61 (x : S61) : Prop := ((Lit.int .i64 x.f0).wf = true) ∧ ((Lit.int .i64 x.f1).wf = true) ∧ ((Lit.int .i64 x.f2).wf = true) ∧ (x.f3.size ≤ maxLen) ∧ w55 x.f4 ∧ w58 x.f5 ∧ (x.f6.length ≤ maxLen ∧ ∀ y ∈ x.f6, w100 y) ∧ True ∧ (x.f8.length ≤ maxLen ∧ ∀ y ∈ x.f8, w158 y) ∧ (x.f9.size ≤ maxLen)
theorem o61 : OpenD Try.prog 61 14 d61 w61 := by
  refine od_struct Try.underlying61 (by kernel_rfl) (oda_cons rfl (od_int .i64 Try.underlying3 (by kernel_rfl)) (oda_cons rfl (od_int .i64 Try.underlying3 (by kernel_rfl)) (oda_cons rfl (od_int .i64 Try.underlying3 (by kernel_rfl)) (oda_cons rfl (od_string Try.underlying9 (by kernel_rfl)) (oda_cons rfl o55 (oda_cons rfl o58 (oda_cons rfl (od_slice Try.underlying39 (by kernel_rfl) o100) (oda_cons rfl (od_bool Try.underlying4 (by kernel_rfl)) (oda_cons rfl (od_slice Try.underlying59 (by kernel_rfl) o158) (oda_one rfl (od_string Try.underlying9 (by kernel_rfl)))))))))))) rfl (fun a => ⟨a.1, a.2.1, a.2.2.1, a.2.2.2.1, a.2.2.2.2.1, a.2.2.2.2.2.1, a.2.2.2.2.2.2.1, a.2.2.2.2.2.2.2.1, a.2.2.2.2.2.2.2.2.1, a.2.2.2.2.2.2.2.2.2⟩) (fun _ => rfl) (fun _ => rfl) ?_
  exact fun _ h => h
end Go.Proofs.Ytggmeldoecnkaaa.Av
