/-
Functions of the program, what they come to, and that Go comes to just that: laws_eqVal, laws_eqValS.
Conditions: those that each theorem names.
-/
import Derived.Test.YtadkhkpchankjaaFAbs
import Derived.Test.YtadkhkpchankjaaFam
set_option linter.unusedVariables false
set_option linter.unusedSimpArgs false
namespace Go.Proofs.Ytadkhkpchankjaa.F
open Go.RowKit Go.Proofs.YtadkhkpchankjaaW.PrintWords Go.Proofs.YtadkhkpchankjaaW.PrintLast Go.Proofs.Ytadkhkpchankjaa.Base Go.Proofs.Ytadkhkpchankjaa.BW
open Go.Proofs.Ytadkhkpchankjaa.FamW

/-! ### laws_eqVal: printed by compact.py -/
set_option maxHeartbeats 2000000 in
set_option maxRecDepth 100000 in
theorem laws_eqVal.same {x : S138} {cs ds : List Value} {w : World} (hK : k138.K w x cs) (hL : k138.K w x ds) :
    Calls Try.prog 120 #[.agg cs.toArray, .agg ds.toArray] w fun e w' => e = .returned (.bool true) ∧ Below w.heap.size w w' := by
  obtain rfl := k138_open hK
  obtain rfl := k138_open hL
  clear hK hL 
  go_enter Try.func120, Try.ntmps120
  go_wp2
  go_ret
  exact ⟨rfl, atop (atop (Below.refl _ _))⟩

/-! ### laws_eqValS: printed by compact.py -/
set_option maxHeartbeats 2000000 in
set_option maxRecDepth 100000 in
theorem laws_eqValS.same {xs : List S138} (hl : (fun l : List S138 => l.length ≤ 9223372036854775807) xs) {B D : Option Addr} {c d : Nat} {w : World} (hr : Kd.C k138 w B xs.length xs) (hc : xs.length ≤ c) (hs : Kd.C k138 w D xs.length xs) (hd : xs.length ≤ d) :
    Calls Try.prog 41 #[.slice B xs.length c, .slice D xs.length d] w fun e w' => e = .returned (.bool true) ∧ Below w.heap.size w w' := by
  have hn : (xs.length : Int) ≤ 9223372036854775807 := by have := hl; omega
  have HR := Aside0.mk hr
  have HS := Aside0.mk hs
  clear hr hs hl
  go_enter Try.func41, Try.ntmps41
  go_wp2
  go_loopg [5] xs.length (fun g v5 w' => ∃ (i : Int) (e : On w), v5 = .int .i64 i ∧ w' = e.now ∧ 0 ≤ i ∧ i ≤ xs.length ∧ Aside0 ((xs.length : Int) - i ≤ g))
  case atStart => exact ⟨0, On.here w, rfl, rfl, Int.le_refl _, by omega, ⟨by omega⟩⟩
  case round =>
    obtain ⟨i, e, rfl, rfl, hi0, hi1, HG⟩ := hrel
    by_cases c1 : i < (xs.length : Int)
    rotate_left
    · go_wp2
      go_ret
      exact ⟨rfl, e.ok⟩
    obtain ⟨ad, e1, h0, h1⟩ := at_T138 HR.out i hi0 c1
    cases e1
    obtain ⟨ad', e1, k0, k1⟩ := at_T138 HS.out i hi0 c1
    cases e1
    have E1 := Aside0.mk (fun e : On w => laws_eqVal.same (x := (rd_T138 xs i)) (k138_mk e.now (rd_T138 xs i)) (k138_mk e.now (rd_T138 xs i)))
    have R0 := On.cell h0
    have S0 := On.cell k0
    have R1 := On.cell h1
    have S1 := On.cell k1
    clear h0 k0 h1 k1
    go_wp2
    refine BW.region (by kernel_rfl) (by kernel_rfl) ?_
    repeat (go_big_quiet_step (first | exact BW.quiet (E1.out _)))
    refine wpQuiet_nil ?_
    rintro _ ⟨e2, rfl⟩
    go_wp2
    go_roundg (xs.length - i.toNat - 1)
    case measure => have := HG.out; omega
    case rel => exact ⟨i + 1, e2, rfl, rfl, by omega, by omega, ⟨by omega⟩⟩

end Go.Proofs.Ytadkhkpchankjaa.F
