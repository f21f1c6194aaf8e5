/-
Functions of the program, what they come to, and that Go comes to just that: laws_FnExactSetOk.
Conditions: those that each theorem names.
-/
import Derived.Test.YtieecjilnaijkaaFAbs
import Derived.Test.YtieecjilnaijkaaF1
import Derived.Test.YtieecjilnaijkaaF5
set_option linter.unusedVariables false
set_option linter.unusedSimpArgs false
namespace Go.Proofs.Ytieecjilnaijkaa.F
open Go.RowKit Go.Proofs.YtieecjilnaijkaaW.PrintWords Go.Proofs.YtieecjilnaijkaaW.PrintLast Go.Proofs.YtieecjilnaijkaaW.PrintMore Go.Proofs.Ytieecjilnaijkaa.Base Go.Proofs.Ytieecjilnaijkaa.BW
attribute [local go_sem] max2_int min2_int max_two min_two max_three min_three max_four min_four   -- for this text's walks alone

/-! ### laws_FnExactSetOk: walked in this session -/
set_option maxHeartbeats 1000000 in
set_option maxRecDepth 100000 in
theorem laws_FnExactSetOk.does (x0 : List S92) (hw : (fun l : List S92 => l.length ≤ maxLen ∧ ∀ x ∈ l, w92 x) x0) {B : Option Addr} {c : Nat} {w : World} (hr : Kd.C k92 w B x0.length x0) (hc : x0.length ≤ c) :
    Calls Try.prog 4 #[.slice B x0.length c] w fun e w' => e = .returned (.bool true) ∧ Below w.heap.size w w' := by
  have C0 := fun (e : On w) => laws_szValS.does hw (left := 1048576) (by decide) (by decide) (On.row hr e) hc
  by_cases hd : szR ((x0.length : Int) + sums hold92 x0) 1048576 < 0
  · have D0 := Aside0.mk C0
    have hd' : decide (szR ((x0.length : Int) + sums hold92 x0) 1048576 < 0) = true := decide_eq_true hd
    clear C0 hd hr hw
    go_enter Try.func4, Try.ntmps4
    go_wp2_with fail
    refine BW.call (e := On.here w) (D0.out _) (fun e1 => ?_)
    go_wp2
    go_ret
    exact ⟨rfl, e1.ok⟩
  · have hc' := mt (szR_lt (by omega)).2 hd
    have hn0 := sums_nn hold92.nn x0
    have hs : x0.length ≤ 1048576 := by omega
    have hl : (x0.map c92).length ≤ maxLen := by rw [List.length_map]; exact Nat.le_trans hs (by decide)
    have hl' : (x0.map c92).length ≤ 9223372036854775807 := hl
    have hv : ∀ v ∈ x0.map c92, v.f0.size ≤ maxLen := fun v hv => by
      obtain ⟨z, hz, rfl⟩ := List.mem_map.1 hv
      exact (hw.2 z hz).1
    have hd' : decide (szR ((x0.length : Int) + sums hold92 x0) 1048576 < 0) = false := decide_eq_false hd
    have D0 := Aside0.mk C0
    have HR := Aside0.mk hr
    have HC := Aside0.mk hc
    have T := Aside0.mk (fun (W : World) (A : Option Addr) (hr : Kd.C k92 W A x0.length x0) => laws_toValS.does hs (w := W) hr hc)
    have SP := Aside0.mk (fun (W : World) A d (h1 : (x0.map c92).length ≤ d) (hr : Kd.C k93 W A (x0.map c92).length (x0.map c92)) => spec_SetOk.does hl hv hr h1)
    have IM := Aside0.mk (fun (W : World) A d (h1 : (x0.map c92).length ≤ d) (hr : Kd.C k93 W A (x0.map c92).length (x0.map c92)) => impl_SetOk.does hl hv hr h1)
    have EQ := Aside0.mk (fun (W : World) A d A' d' (h1 : (x0.map c92).length ≤ d) (h2 : (x0.map c92).length ≤ d') (hr : Kd.C k93 W A (x0.map c92).length (x0.map c92)) (hr' : Kd.C k93 W A' (x0.map c92).length (x0.map c92)) => laws_eqValS.same hl' hr h1 hr' h2)
    clear C0 hd hr hw hc' hn0 hs hl hl' hv hc
    generalize x0.map c92 = y at *
    generalize setOk y = b at *
    go_enter Try.func4, Try.ntmps4
    go_wp2_with fail
    refine BW.call (e := On.here w) (D0.out _) (fun e1 => ?_)
    go_wp2_with fail
    refine (T.out _ _ (On.row HR.out e1)).mono ?_
    rintro _ W2 ⟨A2, d2, rfl, q2, K2, b2⟩
    obtain ⟨e2, rfl⟩ := e1.next b2
    have K2 := Aside0.mk K2
    have q2 := Aside0.mk q2
    clear b2
    go_wp2_with fail
    refine (SP.out _ _ _ q2.out K2.out).mono ?_
    rintro _ W3 ⟨rfl, b3⟩
    obtain ⟨e3, rfl⟩ := e2.next b3
    clear b3 K2 q2
    go_wp2_with fail
    refine (T.out _ _ (On.row HR.out e3)).mono ?_
    rintro _ W4 ⟨A4, d4, rfl, q4, K4, b4⟩
    obtain ⟨e4, rfl⟩ := e3.next b4
    have K4 := Aside0.mk K4
    have q4 := Aside0.mk q4
    clear b4
    go_wp2_with fail
    refine (IM.out _ _ _ q4.out K4.out).mono ?_
    rintro _ W5 ⟨rfl, b5⟩
    have K5 := Aside0.mk (Kd.C_below K4.out b5)
    obtain ⟨e5, rfl⟩ := e4.next b5
    clear b5 K4
    go_wp2_with fail
    refine (T.out _ _ (On.row HR.out e5)).mono ?_
    rintro _ W6 ⟨A6, d6, rfl, q6, K6, b6⟩
    have K7 := Aside0.mk (Kd.C_below K5.out b6)
    have K6 := Aside0.mk K6
    have q6 := Aside0.mk q6
    obtain ⟨e6, rfl⟩ := e5.next b6
    clear b6 K5
    go_wp2_with fail
    refine (EQ.out _ _ _ _ _ q4.out q6.out K7.out K6.out).mono ?_
    rintro _ W7 ⟨rfl, b7⟩
    obtain ⟨e7, rfl⟩ := e6.next b7
    clear b7
    go_wp2
    go_ret
    exact ⟨rfl, e7.ok⟩

end Go.Proofs.Ytieecjilnaijkaa.F
