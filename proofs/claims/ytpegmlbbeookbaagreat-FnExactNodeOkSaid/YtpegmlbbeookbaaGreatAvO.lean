/-
The types, as arguments are opened.
Conditions: none.
-/
import Derived.Test.YtpegmlbbeookbaaGreatAvOpen
import Derived.Test.YtpegmlbbeookbaaGreatAvT
set_option linter.unusedVariables false
namespace Go.Proofs.YtpegmlbbeookbaaGreat.Av
open Go.RowKit
set_option maxRecDepth 20000
def w179 (x : S179) : Prop := ((Lit.int .i64 x.f0).wf = true) ∧ ((Lit.int .i64 x.f1).wf = true)
theorem o179 : OpenD Tryz.prog 179 2 d179 w179 := by
  refine od_struct Tryz.underlying179 (by kernel_rfl) (oda_cons rfl (od_int .i64 Tryz.underlying3 (by kernel_rfl)) (oda_one rfl (od_int .i64 Tryz.underlying3 (by kernel_rfl)))) rfl (fun a => ⟨a.1, a.2⟩) (fun _ => rfl) (fun _ => rfl) ?_
  exact fun _ h => h
def w151 (x : S151) : Prop := (x.f0.size ≤ maxLen) ∧ ((Lit.int .i64 x.f1).wf = true) ∧ ((Lit.int .i64 x.f2).wf = true) ∧ ((Lit.int .i64 x.f3).wf = true) ∧ (x.f4.length ≤ maxLen ∧ ∀ y ∈ x.f4, w179 y)
theorem o151 : OpenD Tryz.prog 151 5 d151 w151 := by
  refine od_struct Tryz.underlying151 (by kernel_rfl) (oda_cons rfl (od_string Tryz.underlying9 (by kernel_rfl)) (oda_cons rfl (od_int .i64 Tryz.underlying3 (by kernel_rfl)) (oda_cons rfl (od_int .i64 Tryz.underlying3 (by kernel_rfl)) (oda_cons rfl (od_int .i64 Tryz.underlying3 (by kernel_rfl)) (oda_one rfl (od_slice Tryz.underlying149 (by kernel_rfl) o179)))))) rfl (fun a => ⟨a.1, a.2.1, a.2.2.1, a.2.2.2.1, a.2.2.2.2⟩) (fun _ => rfl) (fun _ => rfl) ?_
  exact fun _ h => h
def w24 (x : S24) : Prop := ((Lit.int .i64 x.f0).wf = true) ∧ (x.f1.length ≤ maxLen ∧ ∀ y ∈ x.f1, w151 y)
theorem o24 : OpenD Tryz.prog 24 2 d24 w24 := by
  refine od_struct Tryz.underlying24 (by kernel_rfl) (oda_cons rfl (od_int .i64 Tryz.underlying3 (by kernel_rfl)) (oda_one rfl (od_slice Tryz.underlying22 (by kernel_rfl) o151))) rfl (fun a => ⟨a.1, a.2⟩) (fun _ => rfl) (fun _ => rfl) ?_
  exact fun _ h => h
def w29 (x : S29) : Prop := ((Lit.int .i64 x.f0).wf = true) ∧ ((Lit.int .i64 x.f1).wf = true) ∧ (x.f2.length ≤ maxLen ∧ ∀ y ∈ x.f2, (y.size ≤ maxLen))
theorem o29 : OpenD Tryz.prog 29 3 d29 w29 := by
  refine od_struct Tryz.underlying29 (by kernel_rfl) (oda_cons rfl (od_int .i64 Tryz.underlying3 (by kernel_rfl)) (oda_cons rfl (od_int .i64 Tryz.underlying3 (by kernel_rfl)) (oda_one rfl (od_slice Tryz.underlying27 (by kernel_rfl) (od_string Tryz.underlying9 (by kernel_rfl)))))) rfl (fun a => ⟨a.1, a.2.1, a.2.2⟩) (fun _ => rfl) (fun _ => rfl) ?_
  exact fun _ h => h
def w32 (x : S32) : Prop := ((Lit.int .i64 x.f0).wf = true) ∧ (x.f1.length ≤ maxLen ∧ ∀ y ∈ x.f1, (y.size ≤ maxLen)) ∧ (x.f2.length ≤ maxLen ∧ ∀ y ∈ x.f2, ((Lit.int .i64 y).wf = true))
theorem o32 : OpenD Tryz.prog 32 3 d32 w32 := by
  refine od_struct Tryz.underlying32 (by kernel_rfl) (oda_cons rfl (od_int .i64 Tryz.underlying3 (by kernel_rfl)) (oda_cons rfl (od_slice Tryz.underlying27 (by kernel_rfl) (od_string Tryz.underlying9 (by kernel_rfl))) (oda_one rfl (od_slice Tryz.underlying30 (by kernel_rfl) (od_int .i64 Tryz.underlying3 (by kernel_rfl)))))) rfl (fun a => ⟨a.1, a.2.1, a.2.2⟩) (fun _ => rfl) (fun _ => rfl) ?_
  exact fun _ h => h
def w100 (x : S100) : Prop := (x.f0.size ≤ maxLen) ∧ ((Lit.int .i64 x.f1).wf = true)
theorem o100 : OpenD Tryz.prog 100 2 d100 w100 := by
  refine od_struct Tryz.underlying100 (by kernel_rfl) (oda_cons rfl (od_string Tryz.underlying9 (by kernel_rfl)) (oda_one rfl (od_int .i64 Tryz.underlying3 (by kernel_rfl)))) rfl (fun a => ⟨a.1, a.2⟩) (fun _ => rfl) (fun _ => rfl) ?_
  exact fun _ h => h
def w113 (x : S113) : Prop := ((Lit.int .i64 x.f0).wf = true) ∧ (x.f1.size ≤ maxLen) ∧ (x.f2.size ≤ maxLen) ∧ ((Lit.int .i64 x.f3).wf = true) ∧ ((Lit.int .i64 x.f4).wf = true)
theorem o113 : OpenD Tryz.prog 113 5 d113 w113 := by
  refine od_struct Tryz.underlying113 (by kernel_rfl) (oda_cons rfl (od_int .i64 Tryz.underlying3 (by kernel_rfl)) (oda_cons rfl (od_string Tryz.underlying9 (by kernel_rfl)) (oda_cons rfl (od_string Tryz.underlying9 (by kernel_rfl)) (oda_cons rfl (od_int .i64 Tryz.underlying3 (by kernel_rfl)) (oda_one rfl (od_int .i64 Tryz.underlying3 (by kernel_rfl))))))) rfl (fun a => ⟨a.1, a.2.1, a.2.2.1, a.2.2.2.1, a.2.2.2.2⟩) (fun _ => rfl) (fun _ => rfl) ?_
  exact fun _ h => h
def w103 (x : S103) : Prop := ((Lit.int .i64 x.f0).wf = true) ∧ ((Lit.int .i64 x.f1).wf = true) ∧ ((Lit.int .i64 x.f2).wf = true) ∧ (x.f3.size ≤ maxLen) ∧ w29 x.f4 ∧ w32 x.f5 ∧ (x.f6.length ≤ maxLen ∧ ∀ y ∈ x.f6, w113 y) ∧ True ∧ (x.f8.length ≤ maxLen ∧ ∀ y ∈ x.f8, w100 y) ∧ (x.f9.size ≤ maxLen)
theorem o103 : OpenD Tryz.prog 103 14 d103 w103 := by
  refine od_struct Tryz.underlying103 (by kernel_rfl) (oda_cons rfl (od_int .i64 Tryz.underlying3 (by kernel_rfl)) (oda_cons rfl (od_int .i64 Tryz.underlying3 (by kernel_rfl)) (oda_cons rfl (od_int .i64 Tryz.underlying3 (by kernel_rfl)) (oda_cons rfl (od_string Tryz.underlying9 (by kernel_rfl)) (oda_cons rfl o29 (oda_cons rfl o32 (oda_cons rfl (od_slice Tryz.underlying35 (by kernel_rfl) o113) (oda_cons rfl (od_bool Tryz.underlying4 (by kernel_rfl)) (oda_cons rfl (od_slice Tryz.underlying25 (by kernel_rfl) o100) (oda_one rfl (od_string Tryz.underlying9 (by kernel_rfl)))))))))))) rfl (fun a => ⟨a.1, a.2.1, a.2.2.1, a.2.2.2.1, a.2.2.2.2.1, a.2.2.2.2.2.1, a.2.2.2.2.2.2.1, a.2.2.2.2.2.2.2.1, a.2.2.2.2.2.2.2.2.1, a.2.2.2.2.2.2.2.2.2⟩) (fun _ => rfl) (fun _ => rfl) ?_
  exact fun _ h => h
def w107 (x : S107) : Prop := ((Lit.int .i64 x.f0).wf = true) ∧ ((Lit.int .i64 x.f1).wf = true) ∧ (x.f2.size ≤ maxLen)
theorem o107 : OpenD Tryz.prog 107 3 d107 w107 := by
  refine od_struct Tryz.underlying107 (by kernel_rfl) (oda_cons rfl (od_int .i64 Tryz.underlying3 (by kernel_rfl)) (oda_cons rfl (od_int .i64 Tryz.underlying3 (by kernel_rfl)) (oda_one rfl (od_string Tryz.underlying9 (by kernel_rfl))))) rfl (fun a => ⟨a.1, a.2.1, a.2.2⟩) (fun _ => rfl) (fun _ => rfl) ?_
  exact fun _ h => h
def w110 (x : S110) : Prop := ((Lit.int .i64 x.f0).wf = true) ∧ ((Lit.int .i64 x.f1).wf = true) ∧ (x.f2.size ≤ maxLen)
theorem o110 : OpenD Tryz.prog 110 3 d110 w110 := by
  refine od_struct Tryz.underlying110 (by kernel_rfl) (oda_cons rfl (od_int .i64 Tryz.underlying3 (by kernel_rfl)) (oda_cons rfl (od_int .i64 Tryz.underlying3 (by kernel_rfl)) (oda_one rfl (od_string Tryz.underlying9 (by kernel_rfl))))) rfl (fun a => ⟨a.1, a.2.1, a.2.2⟩) (fun _ => rfl) (fun _ => rfl) ?_
  exact fun _ h => h
def w116 (x : S116) : Prop := ((Lit.int .i64 x.f0).wf = true) ∧ (x.f1.length ≤ maxLen ∧ ∀ y ∈ x.f1, w103 y) ∧ w29 x.f2
theorem o116 : OpenD Tryz.prog 116 5 d116 w116 := by
  refine od_struct Tryz.underlying116 (by kernel_rfl) (oda_cons rfl (od_int .i64 Tryz.underlying3 (by kernel_rfl)) (oda_cons rfl (od_slice Tryz.underlying26 (by kernel_rfl) o103) (oda_one rfl o29))) rfl (fun a => ⟨a.1, a.2.1, a.2.2⟩) (fun _ => rfl) (fun _ => rfl) ?_
  exact fun _ h => h
def w38 (x : S38) : Prop := (x.f0.size ≤ maxLen) ∧ ((Lit.int .i64 x.f1).wf = true) ∧ w24 x.f2 ∧ (x.f3.length ≤ maxLen ∧ ∀ y ∈ x.f3, w100 y) ∧ (x.f4.length ≤ maxLen ∧ ∀ y ∈ x.f4, w103 y) ∧ ((Lit.int .i64 x.f5).wf = true) ∧ ((Lit.int .i64 x.f6).wf = true) ∧ w29 x.f7 ∧ w32 x.f8 ∧ ((Lit.int .i64 x.f9).wf = true) ∧ (x.f10.length ≤ maxLen ∧ ∀ y ∈ x.f10, w107 y) ∧ (x.f11.length ≤ maxLen ∧ ∀ y ∈ x.f11, w110 y) ∧ (x.f12.length ≤ maxLen ∧ ∀ y ∈ x.f12, ((Lit.int .i64 y).wf = true)) ∧ (x.f13.length ≤ maxLen ∧ ∀ y ∈ x.f13, w113 y) ∧ (x.f14.length ≤ maxLen ∧ ∀ y ∈ x.f14, w116 y)
theorem o38 : OpenD Tryz.prog 38 20 d38 w38 := by
  refine od_struct Tryz.underlying38 (by kernel_rfl) (oda_cons rfl (od_string Tryz.underlying9 (by kernel_rfl)) (oda_cons rfl (od_int .i64 Tryz.underlying3 (by kernel_rfl)) (oda_cons rfl o24 (oda_cons rfl (od_slice Tryz.underlying25 (by kernel_rfl) o100) (oda_cons rfl (od_slice Tryz.underlying26 (by kernel_rfl) o103) (oda_cons rfl (od_int .i64 Tryz.underlying3 (by kernel_rfl)) (oda_cons rfl (od_int .i64 Tryz.underlying3 (by kernel_rfl)) (oda_cons rfl o29 (oda_cons rfl o32 (oda_cons rfl (od_int .i64 Tryz.underlying3 (by kernel_rfl)) (oda_cons rfl (od_slice Tryz.underlying33 (by kernel_rfl) o107) (oda_cons rfl (od_slice Tryz.underlying34 (by kernel_rfl) o110) (oda_cons rfl (od_slice Tryz.underlying30 (by kernel_rfl) (od_int .i64 Tryz.underlying3 (by kernel_rfl))) (oda_cons rfl (od_slice Tryz.underlying35 (by kernel_rfl) o113) (oda_one rfl (od_slice Tryz.underlying36 (by kernel_rfl) o116)))))))))))))))) rfl (fun a => ⟨a.1, a.2.1, a.2.2.1, a.2.2.2.1, a.2.2.2.2.1, a.2.2.2.2.2.1, a.2.2.2.2.2.2.1, a.2.2.2.2.2.2.2.1, a.2.2.2.2.2.2.2.2.1, a.2.2.2.2.2.2.2.2.2.1, a.2.2.2.2.2.2.2.2.2.2.1, a.2.2.2.2.2.2.2.2.2.2.2.1, a.2.2.2.2.2.2.2.2.2.2.2.2.1, a.2.2.2.2.2.2.2.2.2.2.2.2.2.1, a.2.2.2.2.2.2.2.2.2.2.2.2.2.2⟩) (fun _ => rfl) (fun _ => rfl) ?_
  exact fun _ h => h
end Go.Proofs.YtpegmlbbeookbaaGreat.Av
