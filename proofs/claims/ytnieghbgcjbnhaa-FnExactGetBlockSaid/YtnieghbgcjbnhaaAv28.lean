/-
Several slices handed back in place.
Conditions: none beside those that each theorem names.
-/
import Derived.Test.YtnieghbgcjbnhaaAv27
set_option linter.unusedVariables false
namespace Go.Proofs.Ytnieghbgcjbnhaa.Av
open Go.RowKit Go.Proofs.YtnieghbgcjbnhaaW.PrintLast
theorem back_nil {H : Hp} {h1 : List (Nat × Option Blk)} : BackOk H [] h1 := fun p hp => by cases hp
theorem back_cons {H : Hp} {m0 : List (Nat × Nat)} {h1 : List (Nat × Option Blk)} {b f : Nat} (wd e0 : Nat) (rows : List (List D)) (nf : Bool) (e1 : Nat) (rows1 : List (List D)) (eB : H b = some (.row wd e0 rows false nf)) (e1' : lookH h1 f = some (.row wd e1 rows1 false true)) (hl : rows1.length = rows.length) (h : BackOk H m0 h1) : BackOk H ((b, f) :: m0) h1 := fun p hp wd' e' rows' nf' wd1 e1 rows1' q1 q2 => by
  rcases List.mem_cons.1 hp with rfl | hp
  · rw [eB] at q1
    rw [e1'] at q2
    cases q1
    cases q2
    exact ⟨rfl, hl⟩
  · exact h p hp _ _ _ _ _ _ _ q1 q2
end Go.Proofs.Ytnieghbgcjbnhaa.Av
