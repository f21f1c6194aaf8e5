/-
Functions of the program, what they come to, and that Go comes to just that: spec_l10At.
Conditions: those that each theorem names.
-/
import Derived.Test.YtnldeeefiidcaaaFAbs
set_option linter.unusedVariables false
set_option linter.unusedSimpArgs false
namespace Go.Proofs.Ytnldeeefiidcaaa.F
open Go.RowKit Go.Proofs.YtnldeeefiidcaaaW.PrintWords Go.Proofs.YtnldeeefiidcaaaW.PrintLast Go.Proofs.Ytnldeeefiidcaaa.Base Go.Proofs.Ytnldeeefiidcaaa.BW

/-! ### spec_l10At: function 54 -/
def spec_l10At.l0 : Nat → List (S59) → Int → Int → Option (Int)
  | 0, _, _, _ => none
  | k + 1, x0, x1, x5 => if x5 < (x0.length : Int) then (if 0 ≤ x5 then (if ((rd_T59 x0 x5).f0) = x1 then (some x5) else (spec_l10At.l0 k x0 x1 (wrap64 (x5 + 1)))) else (none)) else (some (-1))
def spec_l10At.f (k : Nat) (l0 : List (S59)) (a1 : Int) : Option (Int) := spec_l10At.l0 k l0 a1 0
theorem spec_l10At.mono_l : ∀ k, (∀ y0 y1 y2, LeO (spec_l10At.l0 k y0 y1 y2) (spec_l10At.l0 (k + 1) y0 y1 y2))
  | 0 => fun _ _ _ r h => by simp [spec_l10At.l0] at h
  | k + 1 => by
    have ih0 := spec_l10At.mono_l k
    · intro y0 y1 y2
      unfold spec_l10At.l0
      repeat' first
      | (with_reducible exact ih0 _ _ _)
      | (with_reducible exact LeO.refl _)
      | (with_reducible exact LeO.none _)
      | (with_reducible refine LeO.ite ?_ ?_)
      | (with_reducible refine LeO.bind ?_ (fun _ => ?_))
      | exact ih0 _ _ _
      | exact LeO.none _
      | refine LeO.ite ?_ ?_
      | refine LeO.bind ?_ (fun _ => ?_)
theorem spec_l10At.mono : ∀ a0 a1 k, LeO (spec_l10At.f k a0 a1) (spec_l10At.f (k + 1) a0 a1) := by
  intro a0 a1 k
  have ih0 := spec_l10At.mono_l k
  unfold spec_l10At.f
  repeat' first
      | (with_reducible exact ih0 _ _ _)
      | (with_reducible exact LeO.refl _)
      | (with_reducible exact LeO.none _)
      | (with_reducible refine LeO.ite ?_ ?_)
      | (with_reducible refine LeO.bind ?_ (fun _ => ?_))
      | exact ih0 _ _ _
      | exact LeO.none _
      | refine LeO.ite ?_ ?_
      | refine LeO.bind ?_ (fun _ => ?_)
set_option maxHeartbeats 8000000 in
set_option maxRecDepth 100000 in
theorem spec_l10At.calls (k : Nat) (A0 : Option Addr) (c0 : Nat) (l0 : List (S59)) (a1 : Int) (r : Int) (w : World) (hr0 : Kd.C k59 w A0 l0.length l0) (hc0 : l0.length ≤ c0) (h : spec_l10At.f k l0 a1 = some r) :
    Calls Try.prog 54 #[.slice A0 l0.length c0, .int .i64 a1] w fun e w' => e = .returned (.int .i64 r) ∧ Drawn0 w w' := by
  have HR0 := Aside0.mk hr0
  have HC0 := Aside0.mk hc0
  clear hr0 hc0
  have H : (spec_l10At.l0 k l0 a1 0) = some r := h
  clear h
  have H' := Aside0.mk H
  clear H
  go_enter Try.func54, Try.ntmps54
  go_wp2
  go_loopg [5] k (fun kq v5 w' => ∃ (x5_1 : Int), v5 = .int .i64 x5_1 ∧ Aside0 (spec_l10At.l0 kq l0 a1 x5_1 = some r) ∧ Aside0 (kq ≤ k) ∧ Drawn0 w w')
  case atStart => exact ⟨(0), (by first | rfl | (simp; done) | (simp [*]; done)), H', ⟨Nat.le_refl _⟩, by repeat (first | exact Drawn0.refl _ | apply Drawn0.step)⟩
  case round =>
    clear H'
    try clear p2
    obtain ⟨x5_1, rfl, HA, HK1, ⟨m1, rfl⟩⟩ := hrel
    cases gk with
    | zero => exact absurd HA.out (by simp [spec_l10At.l0])
    | succ k1 =>
      have H := HA.out
      clear HA
      simp only [spec_l10At.l0] at H
      by_cases c3 : x5_1 < (l0.length : Int)
      · rw [if_pos c3] at H
        have c3b0 : decide (x5_1 < (l0.length : Int)) = true := decide_eq_true c3
        clear c3
        by_cases c4 : 0 ≤ x5_1
        · rw [if_pos c4] at H
          have c4b0 : decide (0 ≤ x5_1) = true := decide_eq_true c4
          clear c4
          by_cases c5 : ((rd_T59 l0 x5_1).f0) = a1
          · rw [if_pos c5] at H
            have c5b0 : (((rd_T59 l0 x5_1).f0) == a1) = true := beq_iff_eq.mpr c5
            have c5b1 : (((rd_T59 l0 x5_1).f0) != a1) = false := bne_eq_false_iff_eq.mpr c5
            clear c5
            obtain rfl := Option.some.inj H
            have p120 : 0 ≤ (x5_1 : Int) := of_decide_eq_true (by first | (with_reducible assumption) | assumption)
            have q120 : x5_1 < (l0.length : Int) := of_decide_eq_true (by first | (with_reducible assumption) | assumption)
            obtain ⟨ad120, A120_6, c120_6, A120_8, c120_8, A120_9, c120_9, A120_10, c120_10, A120_12, c120_12, e120, hx120_0, hx120_1, hx120_2, hx120_3, hx120_4, hx120_5, hx120_6, hx120_7, hx120_8, hx120_9, hx120_10, hx120_11, hx120_12, hx120_13, hl120_6, hi120_6, hl120_8, hi120_8, hl120_9, hi120_9, hl120_10, hi120_10, hl120_12, hi120_12⟩ := at_T59 HR0.out x5_1 p120 q120
            cases e120
            have HR120_6 := Aside0.mk hi120_6
            have HC120_6 := Aside0.mk hl120_6
            clear hi120_6 hl120_6
            have HR120_8 := Aside0.mk hi120_8
            have HC120_8 := Aside0.mk hl120_8
            clear hi120_8 hl120_8
            have HR120_9 := Aside0.mk hi120_9
            have HC120_9 := Aside0.mk hl120_9
            clear hi120_9 hl120_9
            have HR120_10 := Aside0.mk hi120_10
            have HC120_10 := Aside0.mk hl120_10
            clear hi120_10 hl120_10
            have HR120_12 := Aside0.mk hi120_12
            have HC120_12 := Aside0.mk hl120_12
            clear hi120_12 hl120_12
            replace p120 := eq_true p120
            replace q120 := eq_true q120
            go_wp2
            go_ret
            exact ⟨by first | rfl | (simp; done) | (simp [*]; done), by repeat (first | exact Drawn0.refl _ | apply Drawn0.step)⟩
          · rw [if_neg c5] at H
            have c5b0 : (((rd_T59 l0 x5_1).f0) == a1) = false := beq_eq_false_iff_ne.mpr c5
            have c5b1 : (((rd_T59 l0 x5_1).f0) != a1) = true := bne_iff_ne.mpr c5
            have H' := Aside0.mk H
            clear H
            have p120 : 0 ≤ (x5_1 : Int) := of_decide_eq_true (by first | (with_reducible assumption) | assumption)
            have q120 : x5_1 < (l0.length : Int) := of_decide_eq_true (by first | (with_reducible assumption) | assumption)
            obtain ⟨ad120, A120_6, c120_6, A120_8, c120_8, A120_9, c120_9, A120_10, c120_10, A120_12, c120_12, e120, hx120_0, hx120_1, hx120_2, hx120_3, hx120_4, hx120_5, hx120_6, hx120_7, hx120_8, hx120_9, hx120_10, hx120_11, hx120_12, hx120_13, hl120_6, hi120_6, hl120_8, hi120_8, hl120_9, hi120_9, hl120_10, hi120_10, hl120_12, hi120_12⟩ := at_T59 HR0.out x5_1 p120 q120
            cases e120
            have HR120_6 := Aside0.mk hi120_6
            have HC120_6 := Aside0.mk hl120_6
            clear hi120_6 hl120_6
            have HR120_8 := Aside0.mk hi120_8
            have HC120_8 := Aside0.mk hl120_8
            clear hi120_8 hl120_8
            have HR120_9 := Aside0.mk hi120_9
            have HC120_9 := Aside0.mk hl120_9
            clear hi120_9 hl120_9
            have HR120_10 := Aside0.mk hi120_10
            have HC120_10 := Aside0.mk hl120_10
            clear hi120_10 hl120_10
            have HR120_12 := Aside0.mk hi120_12
            have HC120_12 := Aside0.mk hl120_12
            clear hi120_12 hl120_12
            replace p120 := eq_true p120
            replace q120 := eq_true q120
            go_wp2
            go_roundg k1
            case measure => have := HK1.out; omega
            case rel => exact ⟨(wrap64 (x5_1 + 1)), (by first | rfl | (simp; done) | (simp [*]; done)), H', ⟨by have := HK1.out; omega⟩, by repeat (first | exact Drawn0.refl _ | apply Drawn0.step)⟩
        · rw [if_neg c4] at H
          exact absurd H (by simp)
      · rw [if_neg c3] at H
        have c3b0 : decide (x5_1 < (l0.length : Int)) = false := decide_eq_false c3
        clear c3
        obtain rfl := Option.some.inj H
        go_wp2
        go_ret
        exact ⟨by first | rfl | (simp; done) | (simp [*]; done), by repeat (first | exact Drawn0.refl _ | apply Drawn0.step)⟩

theorem spec_l10At.is {l : List S59} {id : Int} (hl : l.length ≤ maxLen) : Ev (fun k => spec_l10At.f k l id) (idAt l id) := by
  have hm : maxLen = 9223372036854775807 := rfl
  unfold spec_l10At.f
  have key : ∀ (n i : Nat), i + n = l.length → (∀ j, j < i → idIs id (l.getD j z59) = false) → Ev (fun k => spec_l10At.l0 k l id (i : Int)) (idAt l id) := by
    intro n
    induction n with
    | zero =>
      intro i hi hn
      refine Ev.up ?_
      simp only [spec_l10At.l0]
      exact Ev.no (by omega) (Ev.is (idxOf_miss (z := z59) (fun j hj => hn j (by omega))).symm)
    | succ n ih =>
      intro i hi hn
      have hrd : rd_T59 l (i : Int) = l.getD i z59 := rfl
      refine Ev.up ?_
      simp only [spec_l10At.l0, hrd]
      refine Ev.yes (by omega) (Ev.yes (by omega) (Ev.cond (fun hc => ?_) (fun hc => ?_)))
      · exact Ev.is (idxOf_hit (z := z59) (by omega) (decide_eq_true hc) hn).symm
      · rw [unw (x := (i : Int) + 1) (by omega) (by omega)]
        refine ih (i + 1) (by omega) (fun j hj => ?_)
        rcases Nat.lt_or_ge j i with h | h
        · exact hn j h
        · obtain rfl : j = i := by omega
          exact decide_eq_false hc
  exact key l.length 0 (by omega) (fun j hj => absurd hj (by omega))

end Go.Proofs.Ytnldeeefiidcaaa.F
