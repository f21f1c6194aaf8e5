/-
Several slices handed back in place.
Conditions: none beside those that each theorem names.
-/
import Derived.Test.YtggmeldoecnkaaaAv23
import Derived.Laws.Small
set_option linter.unusedVariables false
namespace Go.Proofs.Ytggmeldoecnkaaa.Av
open Go.RowKit Go.Proofs.YtggmeldoecnkaaaW.PrintLast
theorem back_nil {H : Hp} {h1 : List (Nat × Option Blk)} : BackOk H [] h1 := ⟨fun p hp => (by cases hp), fun p hp => by cases hp⟩
theorem back_cons {H : Hp} {m0 : List (Nat × Nat)} {h1 : List (Nat × Option Blk)} {b f : Nat} (wd e0 : Nat) (rows : List (List D)) (nf : Bool) (e1 : Nat) (rows1 : List (List D)) (eB : H b = some (.row wd e0 rows false nf)) (e1' : lookH h1 f = some (.row wd e1 rows1 false true)) (hl : rows1.length = rows.length) (h : BackOk H m0 h1) : BackOk H ((b, f) :: m0) h1 := ⟨fun p hp wd' e' rows' nf' wd1 e1 rows1' q1 q2 => by
  rcases List.mem_cons.1 hp with rfl | hp
  · rw [eB] at q1
    rw [e1'] at q2
    cases q1
    cases q2
    exact ⟨rfl, hl⟩
  · exact h.1 p hp _ _ _ _ _ _ _ q1 q2, fun p hp wd' e' co' rows' wd1 e1 co1 rows1' q1 q2 => by
  rcases List.mem_cons.1 hp with rfl | hp
  · rw [eB] at q1
    cases q1
  · exact h.2 p hp _ _ _ _ _ _ _ _ q1 q2⟩
theorem back_consN {H : Hp} {m0 : List (Nat × Nat)} {h1 : List (Nat × Option Blk)} {b f : Nat} (wd e0 : Nat) (co : List (Nat × Nat × TypeId)) (rows : List (List D)) (e1 : Nat) (co1 : List (Nat × Nat × TypeId)) (rows1 : List (List D)) (eB : H b = some (.nst wd e0 co rows [])) (e1' : lookH h1 f = some (.nst wd e1 co1 rows1 [])) (hl : rows1.length = rows.length) (h : BackOk H m0 h1) : BackOk H ((b, f) :: m0) h1 := ⟨fun p hp wd' e' rows' nf' wd1 e1 rows1' q1 q2 => by
  rcases List.mem_cons.1 hp with rfl | hp
  · rw [eB] at q1
    cases q1
  · exact h.1 p hp _ _ _ _ _ _ _ q1 q2, fun p hp wd' e' co' rows' wd1 e1 co1 rows1' q1 q2 => by
  rcases List.mem_cons.1 hp with rfl | hp
  · rw [eB] at q1
    rw [e1'] at q2
    cases q1
    cases q2
    exact ⟨rfl, hl⟩
  · exact h.2 p hp _ _ _ _ _ _ _ _ q1 q2⟩
end Go.Proofs.Ytggmeldoecnkaaa.Av
