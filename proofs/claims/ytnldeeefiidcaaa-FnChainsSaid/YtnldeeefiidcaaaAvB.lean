/-
What functions of the program come to, walked one by one.
Conditions: none beside those that each theorem names.
-/
import Derived.Test.YtnldeeefiidcaaaAvL
set_option linter.unusedVariables false
set_option linter.unusedSimpArgs false
namespace Go.Proofs.Ytnldeeefiidcaaa.Av
open Go.RowKit
set_option maxRecDepth 20000
set_option maxHeartbeats 4000000
theorem s_l1Size (code : List Int) (most : Int) (hl : code.length ≤ 4611686018427387904) : ∃ r0 : Int, (r0 ≤ most) ∧ Fn Try.prog 93 [.e (.c (.d (.sl (code.map dB)))), .e (.c (.d (.v (.int .i64 most))))] (lookH []) (.e (.c (.d (.v (.int .i64 r0))))) (lookH []) := by
  have key : ∃ x' h', ((fun x' h' => ∃ r0 : Int, (r0 ≤ most) ∧ x' = .e (.c (.d (.v (.int .i64 r0)))) ∧ h' = [])) x' h' ∧ Fn Try.prog 93 [.e (.c (.d (.sl (code.map dB)))), .e (.c (.d (.v (.int .i64 most))))] (lookH []) x' (lookH h') := by
    refine Fn.bodyX (N := 15) hτ Try.func93 rfl rfl rfl rfl ?_
    refine X.seq ?_
    refine X.rk ⟨[(0, .e (.c (.d (.sl (code.map dB))))), (1, .e (.c (.d (.v (.int .i64 most)))))], [], 80⟩ hτ hmix (by kernel_rfl) (by kernel_rfl) rfl ?_
    refine X.seq ?_
    have el1 : (code.map dB).length = code.length := List.length_map ..
    have ft2 := tdiv_le ((code.map dB).length : Int) 12 (by first | omega | (simp; done) | (simp; omega)) (by omega)
    refine X.rk ⟨[(1, .e (.c (.d (.v (.int .i64 most))))), (5, .e (.c (.d (.v (.int .i64 (wrap64 (3 + (wrap64 (Int.tdiv ((code.map dB).length : Int) 12)))))))))], [], 160⟩ hτ hmix (by kernel_rfl) (by kernel_rfl) (s2 := ⟨[(1, .e (.c (.d (.v (.int .i64 most))))), (5, .e (.c (.d (.v (.int .i64 (3 + ((Int.tdiv ((code.map dB).length : Int) 12))))))))], [], 160⟩) (congrArg (fun z : Int => (⟨[(1, .e (.c (.d (.v (.int .i64 most))))), (5, .e (.c (.d (.v (.int .i64 z)))))], [], 160⟩ : St)) (show wrap64 (3 + (wrap64 (Int.tdiv ((code.map dB).length : Int) 12))) = (3 + ((Int.tdiv ((code.map dB).length : Int) 12))) by rw [w64 (n := (Int.tdiv ((code.map dB).length : Int) 12)) (by omega) (by omega), w64 (n := (3 + ((Int.tdiv ((code.map dB).length : Int) 12)))) (by omega) (by omega)])) ?_
    refine X.seq ?_
    refine X.seq ?_
    refine X.rk ⟨[(1, .e (.c (.d (.v (.int .i64 most))))), (5, .e (.c (.d (.v (.int .i64 (3 + ((Int.tdiv ((code.map dB).length : Int) 12)))))))), (12, .e (.c (.d (.v (.bool (decide (((3 + ((Int.tdiv ((code.map dB).length : Int) 12))) : Int) > most)))))))], [], 208⟩ hτ hmix (by kernel_rfl) (by kernel_rfl) rfl ?_
    refine X.if_ (b := decide (((3 + ((Int.tdiv ((code.map dB).length : Int) 12))) : Int) > most)) (by kernel_rfl) (fun hb3 => ?_) (fun hb3 => ?_)
    · replace hb3 := of_decide_eq_true (hb3)
      refine X.seq ?_
      refine X.rk ⟨[(4, .e (.c (.d (.v (.int .i64 most)))))], [], 240⟩ hτ hmix (by kernel_rfl) (by kernel_rfl) rfl ?_
      refine X.ret ?_
      exact ⟨trivial, _, _, ⟨most, by first | exact rfl | omega | (dsimp only; omega) | (simp only [List.length_append, List.length_cons, List.length_nil, List.length_set]; omega) | (simp; done) | (simp; omega), rfl, rfl⟩, .inl (Ret.mk' [] (by kernel_rfl) (by kernel_rfl) (by kernel_rfl))⟩
    · replace hb3 := of_decide_eq_false (hb3)
      refine X.skip ?_
      refine X.seq ?_
      refine X.rk ⟨[(4, .e (.c (.d (.v (.int .i64 (3 + ((Int.tdiv ((code.map dB).length : Int) 12))))))))], [], 240⟩ hτ hmix (by kernel_rfl) (by kernel_rfl) rfl ?_
      refine X.ret ?_
      exact ⟨trivial, _, _, ⟨(3 + ((Int.tdiv ((code.map dB).length : Int) 12))), by first | exact rfl | omega | (dsimp only; omega) | (simp only [List.length_append, List.length_cons, List.length_nil, List.length_set]; omega) | (simp; done) | (simp; omega), rfl, rfl⟩, .inl (Ret.mk' [] (by kernel_rfl) (by kernel_rfl) (by kernel_rfl))⟩
  obtain ⟨_, _, ⟨r0, q1, rfl, rfl⟩, hf⟩ := key
  exact ⟨r0, q1, hf⟩
end Go.Proofs.Ytnldeeefiidcaaa.Av
