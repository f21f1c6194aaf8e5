/-
What functions of the program come to, walked one by one.
Conditions: none beside those that each theorem names.
-/
import Derived.Test.YtnldeeefiidcaaaAvD
set_option linter.unusedVariables false
set_option linter.unusedSimpArgs false
namespace Go.Proofs.Ytnldeeefiidcaaa.Av
open Go.RowKit
set_option maxRecDepth 20000
set_option maxHeartbeats 4000000

section
variable {l : List S59} {q : S31} {x y : S59}
end
theorem l_big (c : List Int) (hl : c.length ≤ 4611686018427387904) : ∃ r0 : Bool, (True) ∧ Fn Try.prog 40 [.e (.c (.d (.sl (c.map dB))))] (lookH []) (.e (.c (.d (.v (.bool r0))))) (lookH []) := by
  have key : ∃ x' h', ((fun x' h' => ∃ r0 : Bool, (True) ∧ x' = .e (.c (.d (.v (.bool r0)))) ∧ h' = [])) x' h' ∧ Fn Try.prog 40 [.e (.c (.d (.sl (c.map dB))))] (lookH []) x' (lookH h') := by
    refine Fn.bodyX (N := 6) hτ Try.func40 rfl rfl rfl rfl ?_
    refine X.seq ?_
    refine X.rk ⟨[(0, .e (.c (.d (.sl (c.map dB)))))], [], 80⟩ hτ hmix (by kernel_rfl) (by kernel_rfl) rfl ?_
    refine X.seq ?_
    have el1 : (c.map dB).length = c.length := List.length_map ..
    refine X.rk ⟨[(2, .e (.c (.d (.v (.bool (decide ((((c.map dB).length : Int) : Int) > 1048576)))))))], [], 144⟩ hτ hmix (by kernel_rfl) (by kernel_rfl) rfl ?_
    refine X.ret ?_
    exact ⟨trivial, _, _, ⟨decide ((((c.map dB).length : Int) : Int) > 1048576), trivial, rfl, rfl⟩, .inl (Ret.mk' [] (by kernel_rfl) (by kernel_rfl) (by kernel_rfl))⟩
  obtain ⟨_, _, ⟨r0, q1, rfl, rfl⟩, hf⟩ := key
  exact ⟨r0, q1, hf⟩

end Go.Proofs.Ytnldeeefiidcaaa.Av
