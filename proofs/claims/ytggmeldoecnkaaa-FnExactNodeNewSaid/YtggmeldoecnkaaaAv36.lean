/-
slices.Insert of one element into a nest.
Conditions: none beside those that each theorem names.
-/
import Derived.Test.YtggmeldoecnkaaaAv35
import Derived.Test.YtggmeldoecnkaaaAv24
set_option linter.unusedVariables false
set_option linter.unusedSimpArgs false
namespace Go.Proofs.Ytggmeldoecnkaaa.Av
open Go.RowKit

theorem ones {g : Env} {w : World} {wd k0 : Nat} {c0 : Cp} {co : List (Nat × Nat × TypeId)} {rows : List (List D)} {xs : List Value} (hwd : 0 < wd) (hl : xs.length = rows.length * wd) (hr : ∀ r, r ∈ rows → r.length = wd) (h : ∀ (i : Nat) (r : List D) (j : Nat) (d : D), rows[i]? = some r → r[j]? = some d → ∃ u, xs[i * wd + j]? = some u ∧ ND g w k0 c0 co j d u) : ∀ u ∈ xs, u.oneCell' = true := fun u hu => by
  obtain ⟨m, hm⟩ := List.mem_iff_getElem?.1 hu
  have hml : m < rows.length * wd := by have := (List.getElem?_eq_some_iff.1 hm).1; omega
  have hq : m / wd < rows.length := (Nat.div_lt_iff_lt_mul hwd).2 hml
  have e1 := List.getElem?_eq_getElem hq
  have e2 : m % wd < (rows[m / wd]).length := by rw [hr _ (List.mem_of_getElem? e1)]; exact Nat.mod_lt _ hwd
  obtain ⟨u', f1, f2⟩ := h _ _ _ _ e1 (List.getElem?_eq_getElem e2)
  rw [show m / wd * wd + m % wd = m by rw [Nat.mul_comm]; exact Nat.div_add_mod m wd, hm] at f1
  cases f1
  exact f2.one
end Go.Proofs.Ytggmeldoecnkaaa.Av
