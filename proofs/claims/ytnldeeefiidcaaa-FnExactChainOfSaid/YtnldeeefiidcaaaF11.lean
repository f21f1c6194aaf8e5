/-
Functions of the program, what they come to, and that Go comes to just that: impl_inRange, impl_NameOk, impl_isRoot, impl_NamesOk, impl_qcForm, impl_isNone, impl_tcForm, impl_TxOk, impl_txsOk, impl_SetOk, impl_BlockOk, impl_TreeOk.
Conditions: those that each theorem names.
-/
import Derived.Test.YtnldeeefiidcaaaFAbs
import Derived.Test.YtnldeeefiidcaaaF5
import Derived.Test.YtnldeeefiidcaaaFew
set_option linter.unusedVariables false
set_option linter.unusedSimpArgs false
namespace Go.Proofs.Ytnldeeefiidcaaa.F
open Go.RowKit Go.Proofs.YtnldeeefiidcaaaW.PrintWords Go.Proofs.YtnldeeefiidcaaaW.PrintLast Go.Proofs.Ytnldeeefiidcaaa.Base Go.Proofs.Ytnldeeefiidcaaa.BW
open Go.Proofs.Ytnldeeefiidcaaa.Few

/-! ### impl_inRange: function 125 -/
def impl_inRange.f (a0 : Int) (a1 : Int) (a2 : Int) : Option (Bool) := if a0 ≥ a1 then (some (decide (a0 ≤ a2))) else (some false)
set_option maxHeartbeats 8000000 in
set_option maxRecDepth 100000 in
theorem impl_inRange.calls (a0 : Int) (a1 : Int) (a2 : Int) (r : Bool) (w : World) (h : impl_inRange.f a0 a1 a2 = some r) :
    Calls Try.prog 125 #[.int .i64 a0, .int .i64 a1, .int .i64 a2] w fun e w' => e = .returned (.bool r) ∧ Drawn0 w w' := by
  have H : (if a0 ≥ a1 then (some (decide (a0 ≤ a2))) else (some false)) = some r := h
  clear h
  by_cases c4 : a0 ≥ a1
  · rw [if_pos c4] at H
    have c4b0 : decide (a1 ≤ a0) = true := decide_eq_true c4
    clear c4
    obtain rfl := Option.some.inj H
    go_enter Try.func125, Try.ntmps125
    go_wp2
    go_ret
    exact ⟨by first | rfl | (simp; done) | (simp [*]; done), by repeat (first | exact Drawn0.refl _ | apply Drawn0.step)⟩
  · rw [if_neg c4] at H
    have c4b0 : decide (a1 ≤ a0) = false := decide_eq_false c4
    clear c4
    obtain rfl := Option.some.inj H
    go_enter Try.func125, Try.ntmps125
    go_wp2
    go_ret
    exact ⟨by first | rfl | (simp; done) | (simp [*]; done), by repeat (first | exact Drawn0.refl _ | apply Drawn0.step)⟩

theorem impl_inRange.is (a b c : Int) : impl_inRange.f a b c = some (inR a b c) := by
  unfold impl_inRange.f inR
  by_cases h : a ≥ b <;> simp [h]
theorem impl_inRange.does (a b c : Int) (w : World) : Calls Try.prog 125 #[.int .i64 a, .int .i64 b, .int .i64 c] w fun e w' => e = .returned (.bool (inR a b c)) ∧ Drawn0 w w' := impl_inRange.calls _ _ _ _ w (impl_inRange.is a b c)

/-! ### impl_NameOk: function 126 -/
def impl_NameOk.l0 : Nat → ByteArray → Int → Option (Bool)
  | 0, _, _ => none
  | k + 1, x0, x3 => if x3 < (x0.size : Int) then (if 0 ≤ x3 then (if (bt x0 x3) ≥ 97 then (if (bt x0 x3) ≤ 122 then (impl_NameOk.l0 k x0 (wrap64 (x3 + 1))) else (if (bt x0 x3) ≥ 48 then (if ((bt x0 x3) ≤ 57) then (impl_NameOk.l0 k x0 (wrap64 (x3 + 1))) else (some false)) else (some false))) else (if (bt x0 x3) ≥ 48 then (if ((bt x0 x3) ≤ 57) then (impl_NameOk.l0 k x0 (wrap64 (x3 + 1))) else (some false)) else (some false))) else (none)) else ((impl_inRange.f (x0.size : Int) 1 8).bind fun t355 => (some t355))
def impl_NameOk.f (k : Nat) (a0 : ByteArray) : Option (Bool) := impl_NameOk.l0 k a0 0
theorem impl_NameOk.mono_l : ∀ k, (∀ y0 y1, LeO (impl_NameOk.l0 k y0 y1) (impl_NameOk.l0 (k + 1) y0 y1))
  | 0 => fun _ _ r h => by simp [impl_NameOk.l0] at h
  | k + 1 => by
    have ih0 := impl_NameOk.mono_l k
    · intro y0 y1
      unfold impl_NameOk.l0
      repeat' first
      | (with_reducible exact ih0 _ _)
      | (with_reducible exact LeO.refl _)
      | (with_reducible exact LeO.none _)
      | (with_reducible refine LeO.ite ?_ ?_)
      | (with_reducible refine LeO.bind ?_ (fun _ => ?_))
      | exact ih0 _ _
      | exact LeO.none _
      | refine LeO.ite ?_ ?_
      | refine LeO.bind ?_ (fun _ => ?_)
theorem impl_NameOk.mono : ∀ a0 k, LeO (impl_NameOk.f k a0) (impl_NameOk.f (k + 1) a0) := by
  intro a0 k
  have ih0 := impl_NameOk.mono_l k
  unfold impl_NameOk.f
  repeat' first
      | (with_reducible exact ih0 _ _)
      | (with_reducible exact LeO.refl _)
      | (with_reducible exact LeO.none _)
      | (with_reducible refine LeO.ite ?_ ?_)
      | (with_reducible refine LeO.bind ?_ (fun _ => ?_))
      | exact ih0 _ _
      | exact LeO.none _
      | refine LeO.ite ?_ ?_
      | refine LeO.bind ?_ (fun _ => ?_)
set_option maxHeartbeats 8000000 in
set_option maxRecDepth 100000 in
theorem impl_NameOk.calls (k : Nat) (a0 : ByteArray) (r : Bool) (w : World) (h : impl_NameOk.f k a0 = some r) :
    Calls Try.prog 126 #[.string a0] w fun e w' => e = .returned (.bool r) ∧ Drawn0 w w' := by
  have H : (impl_NameOk.l0 k a0 0) = some r := h
  clear h
  have H' := Aside0.mk H
  clear H
  go_enter Try.func126, Try.ntmps126
  go_wp2
  go_loopg [3] k (fun kq v3 w' => ∃ (x3_1 : Int), v3 = .int .i64 x3_1 ∧ Aside0 (impl_NameOk.l0 kq a0 x3_1 = some r) ∧ Aside0 (kq ≤ k) ∧ Drawn0 w w')
  case atStart => exact ⟨(0), (by first | rfl | (simp; done) | (simp [*]; done)), H', ⟨Nat.le_refl _⟩, by repeat (first | exact Drawn0.refl _ | apply Drawn0.step)⟩
  case round =>
    clear H'
    try clear c1
    obtain ⟨x3_1, rfl, HA, HK1, ⟨m1, rfl⟩⟩ := hrel
    cases gk with
    | zero => exact absurd HA.out (by simp [impl_NameOk.l0])
    | succ k1 =>
      have H := HA.out
      clear HA
      simp only [impl_NameOk.l0] at H
      by_cases c2 : x3_1 < (a0.size : Int)
      · rw [if_pos c2] at H
        have c2b0 : decide (x3_1 < (a0.size : Int)) = true := decide_eq_true c2
        clear c2
        by_cases c3 : 0 ≤ x3_1
        · rw [if_pos c3] at H
          have c3b0 : decide (0 ≤ x3_1) = true := decide_eq_true c3
          clear c3
          by_cases c5 : (bt a0 x3_1) ≥ 97
          · rw [if_pos c5] at H
            have c5b0 : decide (97 ≤ (bt a0 x3_1)) = true := decide_eq_true c5
            clear c5
            by_cases c7 : (bt a0 x3_1) ≤ 122
            · rw [if_pos c7] at H
              have c7b0 : decide ((bt a0 x3_1) ≤ 122) = true := decide_eq_true c7
              clear c7
              have H' := Aside0.mk H
              clear H
              have p4 : 0 ≤ (x3_1 : Int) := of_decide_eq_true (by first | (with_reducible assumption) | assumption)
              have q4 : x3_1 < (a0.size : Int) := of_decide_eq_true (by first | (with_reducible assumption) | assumption)
              have hx4 := bt_at a0 x3_1
              replace p4 := eq_true p4
              replace q4 := eq_true q4
              have p6 : 0 ≤ (x3_1 : Int) := of_decide_eq_true (by first | (with_reducible assumption) | assumption)
              have q6 : x3_1 < (a0.size : Int) := of_decide_eq_true (by first | (with_reducible assumption) | assumption)
              have hx6 := bt_at a0 x3_1
              replace p6 := eq_true p6
              replace q6 := eq_true q6
              go_wp2
              go_roundg k1
              case measure => have := HK1.out; omega
              case rel => exact ⟨(wrap64 (x3_1 + 1)), (by first | rfl | (simp; done) | (simp [*]; done)), H', ⟨by have := HK1.out; omega⟩, by repeat (first | exact Drawn0.refl _ | apply Drawn0.step)⟩
            · rw [if_neg c7] at H
              have c7b0 : decide ((bt a0 x3_1) ≤ 122) = false := decide_eq_false c7
              clear c7
              by_cases c9 : (bt a0 x3_1) ≥ 48
              · rw [if_pos c9] at H
                have c9b0 : decide (48 ≤ (bt a0 x3_1)) = true := decide_eq_true c9
                clear c9
                by_cases c11 : ((bt a0 x3_1) ≤ 57)
                · rw [if_pos c11] at H
                  have c11b0 : decide ((bt a0 x3_1) ≤ 57) = true := decide_eq_true c11
                  clear c11
                  have H' := Aside0.mk H
                  clear H
                  have p4 : 0 ≤ (x3_1 : Int) := of_decide_eq_true (by first | (with_reducible assumption) | assumption)
                  have q4 : x3_1 < (a0.size : Int) := of_decide_eq_true (by first | (with_reducible assumption) | assumption)
                  have hx4 := bt_at a0 x3_1
                  replace p4 := eq_true p4
                  replace q4 := eq_true q4
                  have p6 : 0 ≤ (x3_1 : Int) := of_decide_eq_true (by first | (with_reducible assumption) | assumption)
                  have q6 : x3_1 < (a0.size : Int) := of_decide_eq_true (by first | (with_reducible assumption) | assumption)
                  have hx6 := bt_at a0 x3_1
                  replace p6 := eq_true p6
                  replace q6 := eq_true q6
                  have p8 : 0 ≤ (x3_1 : Int) := of_decide_eq_true (by first | (with_reducible assumption) | assumption)
                  have q8 : x3_1 < (a0.size : Int) := of_decide_eq_true (by first | (with_reducible assumption) | assumption)
                  have hx8 := bt_at a0 x3_1
                  replace p8 := eq_true p8
                  replace q8 := eq_true q8
                  have p10 : 0 ≤ (x3_1 : Int) := of_decide_eq_true (by first | (with_reducible assumption) | assumption)
                  have q10 : x3_1 < (a0.size : Int) := of_decide_eq_true (by first | (with_reducible assumption) | assumption)
                  have hx10 := bt_at a0 x3_1
                  replace p10 := eq_true p10
                  replace q10 := eq_true q10
                  go_wp2
                  go_roundg k1
                  case measure => have := HK1.out; omega
                  case rel => exact ⟨(wrap64 (x3_1 + 1)), (by first | rfl | (simp; done) | (simp [*]; done)), H', ⟨by have := HK1.out; omega⟩, by repeat (first | exact Drawn0.refl _ | apply Drawn0.step)⟩
                · rw [if_neg c11] at H
                  have c11b0 : decide ((bt a0 x3_1) ≤ 57) = false := decide_eq_false c11
                  clear c11
                  obtain rfl := Option.some.inj H
                  have p4 : 0 ≤ (x3_1 : Int) := of_decide_eq_true (by first | (with_reducible assumption) | assumption)
                  have q4 : x3_1 < (a0.size : Int) := of_decide_eq_true (by first | (with_reducible assumption) | assumption)
                  have hx4 := bt_at a0 x3_1
                  replace p4 := eq_true p4
                  replace q4 := eq_true q4
                  have p6 : 0 ≤ (x3_1 : Int) := of_decide_eq_true (by first | (with_reducible assumption) | assumption)
                  have q6 : x3_1 < (a0.size : Int) := of_decide_eq_true (by first | (with_reducible assumption) | assumption)
                  have hx6 := bt_at a0 x3_1
                  replace p6 := eq_true p6
                  replace q6 := eq_true q6
                  have p8 : 0 ≤ (x3_1 : Int) := of_decide_eq_true (by first | (with_reducible assumption) | assumption)
                  have q8 : x3_1 < (a0.size : Int) := of_decide_eq_true (by first | (with_reducible assumption) | assumption)
                  have hx8 := bt_at a0 x3_1
                  replace p8 := eq_true p8
                  replace q8 := eq_true q8
                  have p10 : 0 ≤ (x3_1 : Int) := of_decide_eq_true (by first | (with_reducible assumption) | assumption)
                  have q10 : x3_1 < (a0.size : Int) := of_decide_eq_true (by first | (with_reducible assumption) | assumption)
                  have hx10 := bt_at a0 x3_1
                  replace p10 := eq_true p10
                  replace q10 := eq_true q10
                  go_wp2
                  go_ret
                  exact ⟨by first | rfl | (simp; done) | (simp [*]; done), by repeat (first | exact Drawn0.refl _ | apply Drawn0.step)⟩
              · rw [if_neg c9] at H
                have c9b0 : decide (48 ≤ (bt a0 x3_1)) = false := decide_eq_false c9
                clear c9
                obtain rfl := Option.some.inj H
                have p4 : 0 ≤ (x3_1 : Int) := of_decide_eq_true (by first | (with_reducible assumption) | assumption)
                have q4 : x3_1 < (a0.size : Int) := of_decide_eq_true (by first | (with_reducible assumption) | assumption)
                have hx4 := bt_at a0 x3_1
                replace p4 := eq_true p4
                replace q4 := eq_true q4
                have p6 : 0 ≤ (x3_1 : Int) := of_decide_eq_true (by first | (with_reducible assumption) | assumption)
                have q6 : x3_1 < (a0.size : Int) := of_decide_eq_true (by first | (with_reducible assumption) | assumption)
                have hx6 := bt_at a0 x3_1
                replace p6 := eq_true p6
                replace q6 := eq_true q6
                have p8 : 0 ≤ (x3_1 : Int) := of_decide_eq_true (by first | (with_reducible assumption) | assumption)
                have q8 : x3_1 < (a0.size : Int) := of_decide_eq_true (by first | (with_reducible assumption) | assumption)
                have hx8 := bt_at a0 x3_1
                replace p8 := eq_true p8
                replace q8 := eq_true q8
                go_wp2
                go_ret
                exact ⟨by first | rfl | (simp; done) | (simp [*]; done), by repeat (first | exact Drawn0.refl _ | apply Drawn0.step)⟩
          · rw [if_neg c5] at H
            have c5b0 : decide (97 ≤ (bt a0 x3_1)) = false := decide_eq_false c5
            clear c5
            by_cases c13 : (bt a0 x3_1) ≥ 48
            · rw [if_pos c13] at H
              have c13b0 : decide (48 ≤ (bt a0 x3_1)) = true := decide_eq_true c13
              clear c13
              by_cases c15 : ((bt a0 x3_1) ≤ 57)
              · rw [if_pos c15] at H
                have c15b0 : decide ((bt a0 x3_1) ≤ 57) = true := decide_eq_true c15
                clear c15
                have H' := Aside0.mk H
                clear H
                have p4 : 0 ≤ (x3_1 : Int) := of_decide_eq_true (by first | (with_reducible assumption) | assumption)
                have q4 : x3_1 < (a0.size : Int) := of_decide_eq_true (by first | (with_reducible assumption) | assumption)
                have hx4 := bt_at a0 x3_1
                replace p4 := eq_true p4
                replace q4 := eq_true q4
                have p12 : 0 ≤ (x3_1 : Int) := of_decide_eq_true (by first | (with_reducible assumption) | assumption)
                have q12 : x3_1 < (a0.size : Int) := of_decide_eq_true (by first | (with_reducible assumption) | assumption)
                have hx12 := bt_at a0 x3_1
                replace p12 := eq_true p12
                replace q12 := eq_true q12
                have p14 : 0 ≤ (x3_1 : Int) := of_decide_eq_true (by first | (with_reducible assumption) | assumption)
                have q14 : x3_1 < (a0.size : Int) := of_decide_eq_true (by first | (with_reducible assumption) | assumption)
                have hx14 := bt_at a0 x3_1
                replace p14 := eq_true p14
                replace q14 := eq_true q14
                go_wp2
                go_roundg k1
                case measure => have := HK1.out; omega
                case rel => exact ⟨(wrap64 (x3_1 + 1)), (by first | rfl | (simp; done) | (simp [*]; done)), H', ⟨by have := HK1.out; omega⟩, by repeat (first | exact Drawn0.refl _ | apply Drawn0.step)⟩
              · rw [if_neg c15] at H
                have c15b0 : decide ((bt a0 x3_1) ≤ 57) = false := decide_eq_false c15
                clear c15
                obtain rfl := Option.some.inj H
                have p4 : 0 ≤ (x3_1 : Int) := of_decide_eq_true (by first | (with_reducible assumption) | assumption)
                have q4 : x3_1 < (a0.size : Int) := of_decide_eq_true (by first | (with_reducible assumption) | assumption)
                have hx4 := bt_at a0 x3_1
                replace p4 := eq_true p4
                replace q4 := eq_true q4
                have p12 : 0 ≤ (x3_1 : Int) := of_decide_eq_true (by first | (with_reducible assumption) | assumption)
                have q12 : x3_1 < (a0.size : Int) := of_decide_eq_true (by first | (with_reducible assumption) | assumption)
                have hx12 := bt_at a0 x3_1
                replace p12 := eq_true p12
                replace q12 := eq_true q12
                have p14 : 0 ≤ (x3_1 : Int) := of_decide_eq_true (by first | (with_reducible assumption) | assumption)
                have q14 : x3_1 < (a0.size : Int) := of_decide_eq_true (by first | (with_reducible assumption) | assumption)
                have hx14 := bt_at a0 x3_1
                replace p14 := eq_true p14
                replace q14 := eq_true q14
                go_wp2
                go_ret
                exact ⟨by first | rfl | (simp; done) | (simp [*]; done), by repeat (first | exact Drawn0.refl _ | apply Drawn0.step)⟩
            · rw [if_neg c13] at H
              have c13b0 : decide (48 ≤ (bt a0 x3_1)) = false := decide_eq_false c13
              clear c13
              obtain rfl := Option.some.inj H
              have p4 : 0 ≤ (x3_1 : Int) := of_decide_eq_true (by first | (with_reducible assumption) | assumption)
              have q4 : x3_1 < (a0.size : Int) := of_decide_eq_true (by first | (with_reducible assumption) | assumption)
              have hx4 := bt_at a0 x3_1
              replace p4 := eq_true p4
              replace q4 := eq_true q4
              have p12 : 0 ≤ (x3_1 : Int) := of_decide_eq_true (by first | (with_reducible assumption) | assumption)
              have q12 : x3_1 < (a0.size : Int) := of_decide_eq_true (by first | (with_reducible assumption) | assumption)
              have hx12 := bt_at a0 x3_1
              replace p12 := eq_true p12
              replace q12 := eq_true q12
              go_wp2
              go_ret
              exact ⟨by first | rfl | (simp; done) | (simp [*]; done), by repeat (first | exact Drawn0.refl _ | apply Drawn0.step)⟩
        · rw [if_neg c3] at H
          exact absurd H (by simp)
      · rw [if_neg c2] at H
        have c2b0 : decide (x3_1 < (a0.size : Int)) = false := decide_eq_false c2
        clear c2
        replace H := Option.bind_eq_some_iff.mp H
        obtain ⟨t355, A160, H⟩ := H
        replace H : (some t355) = some r := H
        have A16 := Aside0.mk A160
        clear A160
        obtain rfl := Option.some.inj H
        go_wp2_with (first | ((with_reducible refine gate_callee (f := 125) rfl ?_); refine goesL_ (some 35) rfl rfl Try.func125 (by kernel_rfl) rfl #[.int .i64 (a0.size : Int), .int .i64 1, .int .i64 8] rfl (by (try simp only [List.map_toArray, List.map_cons, List.map_nil]); first | done | rfl | (simp only [List.length_drop, List.length_take]; rfl)) ?_; (with_reducible refine (impl_inRange.calls (a0.size : Int) 1 8 t355 _ A16.out).mono ?_); rintro e w' ⟨rfl, ⟨nd, rfl⟩⟩; refine ⟨_, rfl, ?_⟩))
        go_ret
        exact ⟨by first | rfl | (simp; done) | (simp [*]; done), by repeat (first | exact Drawn0.refl _ | apply Drawn0.step)⟩

theorem impl_NameOk.is {s : ByteArray} (hs : s.size ≤ maxLen) : Ev (fun k => impl_NameOk.f k s) (nameOk s) := by
  have hm : maxLen = 9223372036854775807 := rfl
  unfold impl_NameOk.f
  refine ev_all (fun k i => impl_NameOk.l0 k s i) ?_ (fun i hi r ih => ?_)
  · simp only [impl_NameOk.l0]
    refine Ev.no (by omega) ?_
    simp only [impl_inRange.is, Option.bind_some]
    exact Ev.now _
  · simp only [impl_NameOk.l0]
    refine Ev.yes (by omega) (Ev.yes (by omega) ?_)
    rw [unw (x := (i : Int) + 1) (by omega) (by omega)]
    refine Ev.cond (fun h1 => Ev.cond (fun h2 => Ev.to ih (by simp [byteOk, inR, h1, h2])) (fun h2 => Ev.cond (fun h3 => Ev.cond (fun h4 => Ev.to ih (by simp [byteOk, inR, h3, h4])) (fun h4 => Ev.is (by simp [byteOk, inR, h2, h4]))) (fun h3 => Ev.is (by simp [byteOk, inR, h2, h3])))) (fun h1 => Ev.cond (fun h3 => Ev.cond (fun h4 => Ev.to ih (by simp [byteOk, inR, h3, h4])) (fun h4 => Ev.is (by simp [byteOk, inR, h1, h4]))) (fun h3 => Ev.is (by simp [byteOk, inR, h1, h3])))
theorem impl_NameOk.does {s : ByteArray} (hs : s.size ≤ maxLen) (w : World) : Calls Try.prog 126 #[.string s] w fun e w' => e = .returned (.bool (nameOk s)) ∧ Drawn0 w w' := by
  obtain ⟨k, h⟩ := (impl_NameOk.is hs).rounds
  exact impl_NameOk.calls k _ _ w h

/-! ### impl_isRoot: function 61 -/
def impl_isRoot.f (a0_0 : Int) (a0_1 : Int) (l0_2 : List ByteArray) : Option (Bool) := if a0_0 = 0 then (if a0_1 = (-1) then (some ((l0_2.length : Int) == 0)) else (some false)) else (some false)
set_option maxHeartbeats 8000000 in
set_option maxRecDepth 100000 in
theorem impl_isRoot.calls (a0_0 : Int) (a0_1 : Int) (A0_2 : Option Addr) (c0_2 : Nat) (l0_2 : List ByteArray) (r : Bool) (w : World) (hr0_2 : Kd.C Kd.string w A0_2 l0_2.length l0_2) (hc0_2 : l0_2.length ≤ c0_2) (h : impl_isRoot.f a0_0 a0_1 l0_2 = some r) :
    Calls Try.prog 61 #[.agg #[.int .i64 a0_0, .int .i64 a0_1, .slice A0_2 l0_2.length c0_2]] w fun e w' => e = .returned (.bool r) ∧ Below w.heap.size w w' := by
  have hu31 := Try.underlying31
  have HR0_2 := Aside0.mk hr0_2
  have HC0_2 := Aside0.mk hc0_2
  clear hr0_2 hc0_2
  have HB := Aside0.mk (Below.refl w.heap.size w)
  have H : (if a0_0 = 0 then (if a0_1 = (-1) then (some ((l0_2.length : Int) == 0)) else (some false)) else (some false)) = some r := h
  clear h
  by_cases c2 : a0_0 = 0
  · rw [if_pos c2] at H
    have c2b0 : (a0_0 == 0) = true := beq_iff_eq.mpr c2
    have c2b1 : (a0_0 != 0) = false := bne_eq_false_iff_eq.mpr c2
    clear c2
    by_cases c3 : a0_1 = (-1)
    · rw [if_pos c3] at H
      have c3b0 : (a0_1 == (-1)) = true := beq_iff_eq.mpr c3
      have c3b1 : (a0_1 != (-1)) = false := bne_eq_false_iff_eq.mpr c3
      clear c3
      obtain rfl := Option.some.inj H
      go_enter Try.func61, Try.ntmps61
      go_wp2_with (first | ((with_reducible refine gate_dst (N := 1) rfl ?_); (try (refine gate_guard (by rfl) ?_; dsimp only)); refine box_event ?hg (N := 1) ?hd (cs := #[.int .i64 a0_0, .int .i64 a0_1, .slice A0_2 l0_2.length c0_2]) (t := 31) ?hr ?_; (case hd => rfl); (case hg => rfl); (case hr => first | (go_simp; done) | (go_simp; rfl)); intro gb356 hg w4 hbox hb; have n0_ := Aside0.mk (below_step (by repeat (first | (with_reducible first | exact HB.out | apply below_alloc | apply pw_below_drewN | apply below_drew1) | exact HB.out)) hb); have n1_ := Aside0.mk (hbox); have n2_ := Aside0.mk ((by rw [hg]; exact (below_size (by repeat (first | (with_reducible first | exact HB.out | apply below_alloc | apply pw_below_drewN | apply below_drew1) | exact HB.out))) : w.heap.size ≤ gb356)); have n3_ := n2_; clear HB; have HB := n0_; have BK356 := n1_; have GW356 := n2_; have GE356 := n3_; clear n0_ n1_ n2_ n3_; clear hb hbox hg; obtain ⟨hcz5_0, hcz5_1, hcz5_2⟩ := cells3 BK356.out; obtain ⟨hfz5_0, hfz5_1, hfz5_2⟩ := frozens3 BK356.out))
      go_ret
      exact ⟨by first | rfl | (simp [errW_none, errW_some] <;> rfl) | (simp [*, errW_none, errW_some] <;> rfl), by repeat (first | (with_reducible first | exact HB.out | apply below_alloc | apply pw_below_drewN | apply below_drew1 | refine below_set ?_ GE356.out) | exact HB.out)⟩
    · rw [if_neg c3] at H
      have c3b0 : (a0_1 == (-1)) = false := beq_eq_false_iff_ne.mpr c3
      have c3b1 : (a0_1 != (-1)) = true := bne_iff_ne.mpr c3
      obtain rfl := Option.some.inj H
      go_enter Try.func61, Try.ntmps61
      go_wp2_with (first | ((with_reducible refine gate_dst (N := 1) rfl ?_); (try (refine gate_guard (by rfl) ?_; dsimp only)); refine box_event ?hg (N := 1) ?hd (cs := #[.int .i64 a0_0, .int .i64 a0_1, .slice A0_2 l0_2.length c0_2]) (t := 31) ?hr ?_; (case hd => rfl); (case hg => rfl); (case hr => first | (go_simp; done) | (go_simp; rfl)); intro gb356 hg w6 hbox hb; have n0_ := Aside0.mk (below_step (by repeat (first | (with_reducible first | exact HB.out | apply below_alloc | apply pw_below_drewN | apply below_drew1) | exact HB.out)) hb); have n1_ := Aside0.mk (hbox); have n2_ := Aside0.mk ((by rw [hg]; exact (below_size (by repeat (first | (with_reducible first | exact HB.out | apply below_alloc | apply pw_below_drewN | apply below_drew1) | exact HB.out))) : w.heap.size ≤ gb356)); have n3_ := n2_; clear HB; have HB := n0_; have BK356 := n1_; have GW356 := n2_; have GE356 := n3_; clear n0_ n1_ n2_ n3_; clear hb hbox hg; obtain ⟨hcz7_0, hcz7_1, hcz7_2⟩ := cells3 BK356.out; obtain ⟨hfz7_0, hfz7_1, hfz7_2⟩ := frozens3 BK356.out))
      go_ret
      exact ⟨by first | rfl | (simp [errW_none, errW_some] <;> rfl) | (simp [*, errW_none, errW_some] <;> rfl), by repeat (first | (with_reducible first | exact HB.out | apply below_alloc | apply pw_below_drewN | apply below_drew1 | refine below_set ?_ GE356.out) | exact HB.out)⟩
  · rw [if_neg c2] at H
    have c2b0 : (a0_0 == 0) = false := beq_eq_false_iff_ne.mpr c2
    have c2b1 : (a0_0 != 0) = true := bne_iff_ne.mpr c2
    obtain rfl := Option.some.inj H
    go_enter Try.func61, Try.ntmps61
    go_wp2_with (first | ((with_reducible refine gate_dst (N := 1) rfl ?_); (try (refine gate_guard (by rfl) ?_; dsimp only)); refine box_event ?hg (N := 1) ?hd (cs := #[.int .i64 a0_0, .int .i64 a0_1, .slice A0_2 l0_2.length c0_2]) (t := 31) ?hr ?_; (case hd => rfl); (case hg => rfl); (case hr => first | (go_simp; done) | (go_simp; rfl)); intro gb356 hg w8 hbox hb; have n0_ := Aside0.mk (below_step (by repeat (first | (with_reducible first | exact HB.out | apply below_alloc | apply pw_below_drewN | apply below_drew1) | exact HB.out)) hb); have n1_ := Aside0.mk (hbox); have n2_ := Aside0.mk ((by rw [hg]; exact (below_size (by repeat (first | (with_reducible first | exact HB.out | apply below_alloc | apply pw_below_drewN | apply below_drew1) | exact HB.out))) : w.heap.size ≤ gb356)); have n3_ := n2_; clear HB; have HB := n0_; have BK356 := n1_; have GW356 := n2_; have GE356 := n3_; clear n0_ n1_ n2_ n3_; clear hb hbox hg; obtain ⟨hcz9_0, hcz9_1, hcz9_2⟩ := cells3 BK356.out; obtain ⟨hfz9_0, hfz9_1, hfz9_2⟩ := frozens3 BK356.out))
    go_ret
    exact ⟨by first | rfl | (simp [errW_none, errW_some] <;> rfl) | (simp [*, errW_none, errW_some] <;> rfl), by repeat (first | (with_reducible first | exact HB.out | apply below_alloc | apply pw_below_drewN | apply below_drew1 | refine below_set ?_ GE356.out) | exact HB.out)⟩

theorem impl_isRoot.is (r b : Int) (who : List ByteArray) : impl_isRoot.f r b who = some (rootQ r b who) := by
  unfold impl_isRoot.f rootQ
  by_cases h1 : r = 0 <;> by_cases h2 : b = -1 <;> simp [h1, h2]
theorem impl_isRoot.does {q : S31} {cs : List Value} {w : World} (hK : k31.K w q cs) : Calls Try.prog 61 #[.agg cs.toArray] w fun e w' => e = .returned (.bool (rootQ q.f0 q.f1 q.f2)) ∧ Below w.heap.size w w' := by
  obtain ⟨A2, c2, rfl, l2, g2⟩ := k31_open hK
  exact impl_isRoot.calls _ _ _ _ _ _ w g2 l2 (impl_isRoot.is _ _ _)

/-! ### impl_NamesOk: function 164 -/
def impl_NamesOk.l0 : Nat → List ByteArray → List ByteArray → Int → Int → Option (Bool)
  | 0, _, _, _, _ => none
  | k + 1, x0, x5, x6, x7 => if x7 < x6 then (if 0 ≤ x7 then (if x7 < (x5.length : Int) then ((impl_NameOk.f k (rdOf ByteArray.empty x5 x7)).bind fun t358 => (if t358 = true then (if x7 > 0 then (if 0 ≤ (wrap64 (x7 - 1)) then (if (wrap64 (x7 - 1)) < (x0.length : Int) then (if ((Op.bytesLess ((rdOf ByteArray.empty x0 (wrap64 (x7 - 1))).toList) ((rdOf ByteArray.empty x5 x7).toList)) = true) then (impl_NamesOk.l0 k x0 x5 x6 (wrap64 (x7 + 1))) else (some false)) else (none)) else (none)) else (impl_NamesOk.l0 k x0 x5 x6 (wrap64 (x7 + 1)))) else (some false))) else (none)) else (none)) else (some (decide ((x0.length : Int) ≤ 20)))
def impl_NamesOk.f (k : Nat) (l0 : List ByteArray) : Option (Bool) := impl_NamesOk.l0 k l0 l0 (l0.length : Int) 0
theorem impl_NamesOk.mono_l : ∀ k, (∀ y0 y1 y2 y3, LeO (impl_NamesOk.l0 k y0 y1 y2 y3) (impl_NamesOk.l0 (k + 1) y0 y1 y2 y3))
  | 0 => fun _ _ _ _ r h => by simp [impl_NamesOk.l0] at h
  | k + 1 => by
    have ih0 := impl_NamesOk.mono_l k
    · intro y0 y1 y2 y3
      unfold impl_NamesOk.l0
      repeat' first
      | (with_reducible exact ih0 _ _ _ _)
      | (with_reducible exact impl_NameOk.mono _ _)
      | (with_reducible exact LeO.refl _)
      | (with_reducible exact LeO.none _)
      | (with_reducible refine LeO.ite ?_ ?_)
      | (with_reducible refine LeO.bind ?_ (fun _ => ?_))
      | exact ih0 _ _ _ _
      | exact impl_NameOk.mono _ _
      | exact LeO.none _
      | refine LeO.ite ?_ ?_
      | refine LeO.bind ?_ (fun _ => ?_)
theorem impl_NamesOk.mono : ∀ a0 k, LeO (impl_NamesOk.f k a0) (impl_NamesOk.f (k + 1) a0) := by
  intro a0 k
  have ih0 := impl_NamesOk.mono_l k
  unfold impl_NamesOk.f
  repeat' first
      | (with_reducible exact ih0 _ _ _ _)
      | (with_reducible exact impl_NameOk.mono _ _)
      | (with_reducible exact LeO.refl _)
      | (with_reducible exact LeO.none _)
      | (with_reducible refine LeO.ite ?_ ?_)
      | (with_reducible refine LeO.bind ?_ (fun _ => ?_))
      | exact ih0 _ _ _ _
      | exact impl_NameOk.mono _ _
      | exact LeO.none _
      | refine LeO.ite ?_ ?_
      | refine LeO.bind ?_ (fun _ => ?_)
set_option maxHeartbeats 8000000 in
set_option maxRecDepth 100000 in
theorem impl_NamesOk.calls (k : Nat) (A0 : Option Addr) (c0 : Nat) (l0 : List ByteArray) (r : Bool) (w : World) (hr0 : Kd.C Kd.string w A0 l0.length l0) (hc0 : l0.length ≤ c0) (h : impl_NamesOk.f k l0 = some r) :
    Calls Try.prog 164 #[.slice A0 l0.length c0] w fun e w' => e = .returned (.bool r) ∧ Drawn0 w w' := by
  have HR0 := Aside0.mk hr0
  have HC0 := Aside0.mk hc0
  clear hr0 hc0
  have H : (impl_NamesOk.l0 k l0 l0 (l0.length : Int) 0) = some r := h
  clear h
  have H' := Aside0.mk H
  clear H
  go_enter Try.func164, Try.ntmps164
  go_wp2
  go_loopg [7] k (fun kq v7 w' => ∃ (x7_1 : Int), v7 = .int .i64 x7_1 ∧ Aside0 (impl_NamesOk.l0 kq l0 l0 (l0.length : Int) x7_1 = some r) ∧ Aside0 (kq ≤ k) ∧ Drawn0 w w')
  case atStart => exact ⟨(0), (by first | rfl | (simp; done) | (simp [*]; done)), H', ⟨Nat.le_refl _⟩, by repeat (first | exact Drawn0.refl _ | apply Drawn0.step)⟩
  case round =>
    clear H'
    try clear c1
    obtain ⟨x7_1, rfl, HA, HK1, ⟨m1, rfl⟩⟩ := hrel
    cases gk with
    | zero => exact absurd HA.out (by simp [impl_NamesOk.l0])
    | succ k1 =>
      have H := HA.out
      clear HA
      simp only [impl_NamesOk.l0] at H
      by_cases c2 : x7_1 < (l0.length : Int)
      · rw [if_pos c2] at H
        have c2b0 : decide (x7_1 < (l0.length : Int)) = true := decide_eq_true c2
        clear c2
        by_cases c3 : 0 ≤ x7_1
        · rw [if_pos c3] at H
          have c3b0 : decide (0 ≤ x7_1) = true := decide_eq_true c3
          clear c3
          by_cases c4 : x7_1 < (l0.length : Int)
          · rw [if_pos c4] at H
            have c4b0 : decide (x7_1 < (l0.length : Int)) = true := decide_eq_true c4
            clear c4
            replace H := Option.bind_eq_some_iff.mp H
            obtain ⟨t358, A50, H⟩ := H
            replace H : (if t358 = true then (if x7_1 > 0 then (if 0 ≤ (wrap64 (x7_1 - 1)) then (if (wrap64 (x7_1 - 1)) < (l0.length : Int) then (if ((Op.bytesLess ((rdOf ByteArray.empty l0 (wrap64 (x7_1 - 1))).toList) ((rdOf ByteArray.empty l0 x7_1).toList)) = true) then (impl_NamesOk.l0 k1 l0 l0 (l0.length : Int) (wrap64 (x7_1 + 1))) else (some false)) else (none)) else (none)) else (impl_NamesOk.l0 k1 l0 l0 (l0.length : Int) (wrap64 (x7_1 + 1)))) else (some false)) = some r := H
            have A5 := Aside0.mk A50
            clear A50
            by_cases c6 : t358 = true
            · subst c6
              have H1 : (if x7_1 > 0 then (if 0 ≤ (wrap64 (x7_1 - 1)) then (if (wrap64 (x7_1 - 1)) < (l0.length : Int) then (if ((Op.bytesLess ((rdOf ByteArray.empty l0 (wrap64 (x7_1 - 1))).toList) ((rdOf ByteArray.empty l0 x7_1).toList)) = true) then (impl_NamesOk.l0 k1 l0 l0 (l0.length : Int) (wrap64 (x7_1 + 1))) else (some false)) else (none)) else (none)) else (impl_NamesOk.l0 k1 l0 l0 (l0.length : Int) (wrap64 (x7_1 + 1)))) = some r := by rw [if_pos rfl] at H; exact H
              clear H
              have H := H1
              clear H1
              by_cases c7 : x7_1 > 0
              · rw [if_pos c7] at H
                have c7b0 : decide (0 < x7_1) = true := decide_eq_true c7
                clear c7
                obtain ⟨ji8, hji8⟩ : ∃ j_ : Int, (wrap64 (x7_1 - 1)) = j_ := ⟨_, rfl⟩
                replace H : (if 0 ≤ (ji8) then (if (ji8) < (l0.length : Int) then (if ((Op.bytesLess ((rdOf ByteArray.empty l0 (ji8)).toList) ((rdOf ByteArray.empty l0 x7_1).toList)) = true) then (impl_NamesOk.l0 k1 l0 l0 (l0.length : Int) (wrap64 (x7_1 + 1))) else (some false)) else (none)) else (none)) = some r := by first | (rw [hji8] at H; exact H) | (simp only [hji8] at H ⊢; exact H)
                (try rw [hji8] at A5)
                have hji8w : (IntKind.i64.wrap (x7_1 - 1)) = ji8 := (i64_w _).trans hji8
                by_cases c9 : 0 ≤ (ji8)
                · rw [if_pos c9] at H
                  have c9b0 : decide (0 ≤ (ji8)) = true := decide_eq_true c9
                  clear c9
                  by_cases c10 : (ji8) < (l0.length : Int)
                  · rw [if_pos c10] at H
                    have c10b0 : decide ((ji8) < (l0.length : Int)) = true := decide_eq_true c10
                    clear c10
                    by_cases c11 : ((Op.bytesLess ((rdOf ByteArray.empty l0 (ji8)).toList) ((rdOf ByteArray.empty l0 x7_1).toList)) = true)
                    · rw [if_pos c11] at H
                      have c11b0 : (Op.bytesLess ((rdOf ByteArray.empty l0 (ji8)).toList) ((rdOf ByteArray.empty l0 x7_1).toList)) = true := c11
                      clear c11
                      have H' := Aside0.mk H
                      clear H
                      have p357 : 0 ≤ (x7_1 : Int) := of_decide_eq_true (by first | (with_reducible assumption) | assumption)
                      have q357 : x7_1 < (l0.length : Int) := of_decide_eq_true (by first | (with_reducible assumption) | assumption)
                      obtain ⟨ad357, e357, hx357_0⟩ := Kd.at_string HR0.out x7_1 p357 q357
                      cases e357
                      replace p357 := eq_true p357
                      replace q357 := eq_true q357
                      go_wp2_with (first | ((with_reducible refine gate_callee (f := 126) rfl ?_); refine goesL_ (some 13) rfl rfl Try.func126 (by kernel_rfl) rfl #[.string (rdOf ByteArray.empty l0 x7_1)] rfl (by (try simp only [List.map_toArray, List.map_cons, List.map_nil]); first | done | rfl | (simp only [List.length_drop, List.length_take]; rfl)) ?_; (with_reducible refine (impl_NameOk.calls k1 (rdOf ByteArray.empty l0 x7_1) true _ A5.out).mono ?_); rintro e w' ⟨rfl, ⟨nd, rfl⟩⟩; refine ⟨_, rfl, ?_⟩; have p359 : 0 ≤ ((ji8) : Int) := of_decide_eq_true (by first | (with_reducible assumption) | assumption); have q359 : (ji8) < (l0.length : Int) := of_decide_eq_true (by first | (with_reducible assumption) | assumption); obtain ⟨ad359, e359, hx359_0⟩ := Kd.at_string HR0.out (ji8) p359 q359; obtain rfl : ad357 = ad359 := (by injection e359); replace p359 := eq_true p359; replace q359 := eq_true q359))
                      go_roundg k1
                      case measure => have := HK1.out; omega
                      case rel => exact ⟨(wrap64 (x7_1 + 1)), (by first | rfl | (simp; done) | (simp [*]; done)), H', ⟨by have := HK1.out; omega⟩, by repeat (first | exact Drawn0.refl _ | apply Drawn0.step)⟩
                    · rw [if_neg c11] at H
                      have c11b0 : (Op.bytesLess ((rdOf ByteArray.empty l0 (ji8)).toList) ((rdOf ByteArray.empty l0 x7_1).toList)) = false := by simpa using c11
                      clear c11
                      obtain rfl := Option.some.inj H
                      have p357 : 0 ≤ (x7_1 : Int) := of_decide_eq_true (by first | (with_reducible assumption) | assumption)
                      have q357 : x7_1 < (l0.length : Int) := of_decide_eq_true (by first | (with_reducible assumption) | assumption)
                      obtain ⟨ad357, e357, hx357_0⟩ := Kd.at_string HR0.out x7_1 p357 q357
                      cases e357
                      replace p357 := eq_true p357
                      replace q357 := eq_true q357
                      go_wp2_with (first | ((with_reducible refine gate_callee (f := 126) rfl ?_); refine goesL_ (some 13) rfl rfl Try.func126 (by kernel_rfl) rfl #[.string (rdOf ByteArray.empty l0 x7_1)] rfl (by (try simp only [List.map_toArray, List.map_cons, List.map_nil]); first | done | rfl | (simp only [List.length_drop, List.length_take]; rfl)) ?_; (with_reducible refine (impl_NameOk.calls k1 (rdOf ByteArray.empty l0 x7_1) true _ A5.out).mono ?_); rintro e w' ⟨rfl, ⟨nd, rfl⟩⟩; refine ⟨_, rfl, ?_⟩; have p359 : 0 ≤ ((ji8) : Int) := of_decide_eq_true (by first | (with_reducible assumption) | assumption); have q359 : (ji8) < (l0.length : Int) := of_decide_eq_true (by first | (with_reducible assumption) | assumption); obtain ⟨ad359, e359, hx359_0⟩ := Kd.at_string HR0.out (ji8) p359 q359; obtain rfl : ad357 = ad359 := (by injection e359); replace p359 := eq_true p359; replace q359 := eq_true q359))
                      go_ret
                      exact ⟨by first | rfl | (simp; done) | (simp only [← hji8] <;> (first | rfl | simp)) | (simp [*]; done), by repeat (first | exact Drawn0.refl _ | apply Drawn0.step)⟩
                  · rw [if_neg c10] at H
                    exact absurd H (by simp)
                · rw [if_neg c9] at H
                  exact absurd H (by simp)
              · rw [if_neg c7] at H
                have c7b0 : decide (0 < x7_1) = false := decide_eq_false c7
                clear c7
                have H' := Aside0.mk H
                clear H
                have p357 : 0 ≤ (x7_1 : Int) := of_decide_eq_true (by first | (with_reducible assumption) | assumption)
                have q357 : x7_1 < (l0.length : Int) := of_decide_eq_true (by first | (with_reducible assumption) | assumption)
                obtain ⟨ad357, e357, hx357_0⟩ := Kd.at_string HR0.out x7_1 p357 q357
                cases e357
                replace p357 := eq_true p357
                replace q357 := eq_true q357
                go_wp2_with (first | ((with_reducible refine gate_callee (f := 126) rfl ?_); refine goesL_ (some 13) rfl rfl Try.func126 (by kernel_rfl) rfl #[.string (rdOf ByteArray.empty l0 x7_1)] rfl (by (try simp only [List.map_toArray, List.map_cons, List.map_nil]); first | done | rfl | (simp only [List.length_drop, List.length_take]; rfl)) ?_; (with_reducible refine (impl_NameOk.calls k1 (rdOf ByteArray.empty l0 x7_1) true _ A5.out).mono ?_); rintro e w' ⟨rfl, ⟨nd, rfl⟩⟩; refine ⟨_, rfl, ?_⟩))
                go_roundg k1
                case measure => have := HK1.out; omega
                case rel => exact ⟨(wrap64 (x7_1 + 1)), (by first | rfl | (simp; done) | (simp [*]; done)), H', ⟨by have := HK1.out; omega⟩, by repeat (first | exact Drawn0.refl _ | apply Drawn0.step)⟩
            · replace c6 := Bool.eq_false_iff.mpr c6
              subst c6
              have H1 : (some false) = some r := by rw [if_neg (show ¬ (false = true) by decide)] at H; exact H
              clear H
              have H := H1
              clear H1
              obtain rfl := Option.some.inj H
              have p357 : 0 ≤ (x7_1 : Int) := of_decide_eq_true (by first | (with_reducible assumption) | assumption)
              have q357 : x7_1 < (l0.length : Int) := of_decide_eq_true (by first | (with_reducible assumption) | assumption)
              obtain ⟨ad357, e357, hx357_0⟩ := Kd.at_string HR0.out x7_1 p357 q357
              cases e357
              replace p357 := eq_true p357
              replace q357 := eq_true q357
              go_wp2_with (first | ((with_reducible refine gate_callee (f := 126) rfl ?_); refine goesL_ (some 13) rfl rfl Try.func126 (by kernel_rfl) rfl #[.string (rdOf ByteArray.empty l0 x7_1)] rfl (by (try simp only [List.map_toArray, List.map_cons, List.map_nil]); first | done | rfl | (simp only [List.length_drop, List.length_take]; rfl)) ?_; (with_reducible refine (impl_NameOk.calls k1 (rdOf ByteArray.empty l0 x7_1) false _ A5.out).mono ?_); rintro e w' ⟨rfl, ⟨nd, rfl⟩⟩; refine ⟨_, rfl, ?_⟩))
              go_ret
              exact ⟨by first | rfl | (simp; done) | (simp [*]; done), by repeat (first | exact Drawn0.refl _ | apply Drawn0.step)⟩
          · rw [if_neg c4] at H
            exact absurd H (by simp)
        · rw [if_neg c3] at H
          exact absurd H (by simp)
      · rw [if_neg c2] at H
        have c2b0 : decide (x7_1 < (l0.length : Int)) = false := decide_eq_false c2
        clear c2
        obtain rfl := Option.some.inj H
        go_wp2
        go_ret
        exact ⟨by first | rfl | (simp; done) | (simp [*]; done), by repeat (first | exact Drawn0.refl _ | apply Drawn0.step)⟩

theorem impl_NamesOk.is {l : List ByteArray} (hl : l.length ≤ maxLen) (hw : ∀ s ∈ l, s.size ≤ maxLen) : Ev (fun k => impl_NamesOk.f k l) (namesOk l) := by
  have hm : maxLen = 9223372036854775807 := rfl
  unfold impl_NamesOk.f
  refine ev_all (fun k i => impl_NamesOk.l0 k l l l.length i) ?_ (fun i hi r ih => ?_)
  · simp only [impl_NamesOk.l0]
    exact Ev.no (by omega) (Ev.now _)
  · have hrd : rdOf ByteArray.empty l (i : Int) = l.getD i nought := by simp [rdOf, nought]
    simp only [impl_NamesOk.l0, hrd]
    refine Ev.yes (by omega) (Ev.yes (by omega) (Ev.yes (by omega) (Ev.bind (impl_NameOk.is (hw _ (getD_mem hi _))) ?_)))
    rw [unw (x := (i : Int) + 1) (by omega) (by omega)]
    cases hb : nameOk (l.getD i nought)
    · exact Ev.no (by simp) (Ev.is (by simp only [okAt, hb, Bool.false_and]))
    · refine Ev.yes rfl (Ev.cond (fun hp => ?_) (fun hp => Ev.to ih ?_))
      · rw [unw (x := (i : Int) - 1) (by omega) (by omega)]
        have hrd2 : rdOf ByteArray.empty l ((i : Int) - 1) = l.getD (i - 1) nought := by unfold rdOf; rw [toNat_pred (by omega)]; rfl
        simp only [hrd2]
        have h0 : decide (i = 0) = false := decide_eq_false (by omega)
        refine Ev.yes (by omega) (Ev.yes (by omega) (Ev.cond (fun hc => Ev.to ih ?_) (fun hc => Ev.is ?_)))
        · have : bless (l.getD (i - 1) nought) (l.getD i nought) = true := hc
          simp only [okAt, hb, this, h0, Bool.or_true, Bool.and_true, Bool.true_and]
        · have : bless (l.getD (i - 1) nought) (l.getD i nought) = false := Bool.eq_false_iff.2 hc
          simp only [okAt, hb, this, h0, Bool.or_false, Bool.and_false, Bool.false_and]
      · have h0 : decide (i = 0) = true := decide_eq_true (by omega)
        simp only [okAt, hb, h0, Bool.true_or, Bool.and_true, Bool.true_and]
theorem impl_NamesOk.does {l : List ByteArray} (hl : l.length ≤ maxLen) (hw : ∀ s ∈ l, s.size ≤ maxLen) {B : Option Addr} {c : Nat} {w : World} (hr : Kd.C Kd.string w B l.length l) (hc : l.length ≤ c) :
    Calls Try.prog 164 #[.slice B l.length c] w fun e w' => e = .returned (.bool (namesOk l)) ∧ Drawn0 w w' := by
  obtain ⟨k, h⟩ := (impl_NamesOk.is hl hw).rounds
  exact impl_NamesOk.calls k _ _ _ _ w hr hc h

/-! ### impl_qcForm: function 127 -/
def impl_qcForm.f (k : Nat) (a0_0 : Int) (a0_1 : Int) (l0_2 : List ByteArray) (a1 : Int) (a2 : Int) : Option (Bool) := (impl_isRoot.f a0_0 a0_1 l0_2).bind fun t361 => (if t361 = true then (some true) else ((impl_inRange.f a0_0 1 a1).bind fun t362 => (if t362 = true then ((impl_inRange.f a0_1 0 a2).bind fun t363 => (if t363 = true then ((impl_NamesOk.f k l0_2).bind fun t364 => (some t364)) else (some false))) else (some false))))
theorem impl_qcForm.mono : ∀ a0 a1 a2 a3 a4 k, LeO (impl_qcForm.f k a0 a1 a2 a3 a4) (impl_qcForm.f (k + 1) a0 a1 a2 a3 a4) := by
  intro a0 a1 a2 a3 a4 k
  unfold impl_qcForm.f
  repeat' first
      | (with_reducible exact impl_NamesOk.mono _ _)
      | (with_reducible exact LeO.refl _)
      | (with_reducible exact LeO.none _)
      | (with_reducible refine LeO.ite ?_ ?_)
      | (with_reducible refine LeO.bind ?_ (fun _ => ?_))
      | exact impl_NamesOk.mono _ _
      | exact LeO.none _
      | refine LeO.ite ?_ ?_
      | refine LeO.bind ?_ (fun _ => ?_)
set_option maxHeartbeats 8000000 in
set_option maxRecDepth 100000 in
theorem impl_qcForm.calls (k : Nat) (a0_0 : Int) (a0_1 : Int) (A0_2 : Option Addr) (c0_2 : Nat) (l0_2 : List ByteArray) (a1 : Int) (a2 : Int) (r : Bool) (w : World) (hr0_2 : Kd.C Kd.string w A0_2 l0_2.length l0_2) (hc0_2 : l0_2.length ≤ c0_2) (h : impl_qcForm.f k a0_0 a0_1 l0_2 a1 a2 = some r) :
    Calls Try.prog 127 #[.agg #[.int .i64 a0_0, .int .i64 a0_1, .slice A0_2 l0_2.length c0_2], .int .i64 a1, .int .i64 a2] w fun e w' => e = .returned (.bool r) ∧ Below w.heap.size w w' := by
  have hu31 := Try.underlying31
  have HR0_2 := Aside0.mk hr0_2
  have HC0_2 := Aside0.mk hc0_2
  clear hr0_2 hc0_2
  have HB := Aside0.mk (Below.refl w.heap.size w)
  have H : ((impl_isRoot.f a0_0 a0_1 l0_2).bind fun t361 => (if t361 = true then (some true) else ((impl_inRange.f a0_0 1 a1).bind fun t362 => (if t362 = true then ((impl_inRange.f a0_1 0 a2).bind fun t363 => (if t363 = true then ((impl_NamesOk.f k l0_2).bind fun t364 => (some t364)) else (some false))) else (some false))))) = some r := h
  clear h
  replace H := Option.bind_eq_some_iff.mp H
  obtain ⟨t361, A40, H⟩ := H
  replace H : (if t361 = true then (some true) else ((impl_inRange.f a0_0 1 a1).bind fun t362 => (if t362 = true then ((impl_inRange.f a0_1 0 a2).bind fun t363 => (if t363 = true then ((impl_NamesOk.f k l0_2).bind fun t364 => (some t364)) else (some false))) else (some false)))) = some r := H
  have A4 := Aside0.mk A40
  clear A40
  by_cases c5 : t361 = true
  · subst c5
    have H1 : (some true) = some r := by rw [if_pos rfl] at H; exact H
    clear H
    have H := H1
    clear H1
    obtain rfl := Option.some.inj H
    go_enter Try.func127, Try.ntmps127
    go_wp2_with (first | ((with_reducible refine gate_dst (N := 3) rfl ?_); refine box_event ?hg (N := 3) ?hd (cs := #[.int .i64 a0_0, .int .i64 a0_1, .slice A0_2 l0_2.length c0_2]) (t := 31) ?hr ?_; (case hd => rfl); (case hg => rfl); (case hr => first | (go_simp; done) | (go_simp; rfl)); intro gb360 hg w6 hbox hb; have n0_ := Aside0.mk (below_step (by repeat (first | (with_reducible first | exact HB.out | apply below_alloc | apply pw_below_drewN | apply below_drew1) | exact HB.out)) hb); have n1_ := Aside0.mk (hbox); have n2_ := Aside0.mk ((by rw [hg]; exact (below_size (by repeat (first | (with_reducible first | exact HB.out | apply below_alloc | apply pw_below_drewN | apply below_drew1) | exact HB.out))) : w.heap.size ≤ gb360)); have n3_ := n2_; clear HB; have HB := n0_; have BK360 := n1_; have GW360 := n2_; have GE360 := n3_; clear n0_ n1_ n2_ n3_; clear hb hbox hg; obtain ⟨hcz7_0, hcz7_1, hcz7_2⟩ := cells3 BK360.out; obtain ⟨hfz7_0, hfz7_1, hfz7_2⟩ := frozens3 BK360.out) | ((with_reducible refine gate_callee (f := 61) rfl ?_); refine goesL_ (some 8) rfl rfl Try.func61 (by kernel_rfl) rfl #[.agg #[.int .i64 a0_0, .int .i64 a0_1, .slice A0_2 l0_2.length c0_2]] rfl (by (try simp only [List.map_toArray, List.map_cons, List.map_nil]); first | done | rfl | (simp only [List.length_drop, List.length_take]; rfl)) ?_; (with_reducible refine (impl_isRoot.calls a0_0 a0_1 _ _ l0_2 true _ ?side1 ?side2 A4.out).mono ?_); (case side1 => repeat (first | exact (Kd.C_below HR0_2.out HB.out) | (with_reducible refine Kd.C_alloc ?_ _) | (with_reducible refine Kd.C_drewN ?_ _) | (with_reducible refine Kd.C_drew ?_))); (case side2 => exact HC0_2.out); rintro e w8 ⟨rfl, hb⟩; refine ⟨_, rfl, ?_⟩; have n0_ := Aside0.mk (blk_below (g := gb360) (by (with_reducible repeat (first | refine blk_drewN ?_ _ | refine blk_drew ?_ | refine blk_alloc ?_ _)); exact BK360.out) hb); have n1_ := Aside0.mk (below_step (by repeat (first | (with_reducible first | exact HB.out | apply below_alloc | apply pw_below_drewN | apply below_drew1 | refine below_set ?_ GE360.out) | exact HB.out)) hb); clear BK360; clear HB; have BK360 := n0_; have HB := n1_; clear n0_ n1_; (try clear hb); (try clear hb2); (try clear hk); (try clear hi)))
    go_ret
    exact ⟨by first | rfl | (simp [errW_none, errW_some] <;> rfl) | (simp [*, errW_none, errW_some] <;> rfl), by repeat (first | (with_reducible first | exact HB.out | apply below_alloc | apply pw_below_drewN | apply below_drew1 | refine below_set ?_ GE360.out) | exact HB.out)⟩
  · replace c5 := Bool.eq_false_iff.mpr c5
    subst c5
    have H1 : ((impl_inRange.f a0_0 1 a1).bind fun t362 => (if t362 = true then ((impl_inRange.f a0_1 0 a2).bind fun t363 => (if t363 = true then ((impl_NamesOk.f k l0_2).bind fun t364 => (some t364)) else (some false))) else (some false))) = some r := by rw [if_neg (show ¬ (false = true) by decide)] at H; exact H
    clear H
    have H := H1
    clear H1
    replace H := Option.bind_eq_some_iff.mp H
    obtain ⟨t362, A90, H⟩ := H
    replace H : (if t362 = true then ((impl_inRange.f a0_1 0 a2).bind fun t363 => (if t363 = true then ((impl_NamesOk.f k l0_2).bind fun t364 => (some t364)) else (some false))) else (some false)) = some r := H
    have A9 := Aside0.mk A90
    clear A90
    by_cases c10 : t362 = true
    · subst c10
      have H1 : ((impl_inRange.f a0_1 0 a2).bind fun t363 => (if t363 = true then ((impl_NamesOk.f k l0_2).bind fun t364 => (some t364)) else (some false))) = some r := by rw [if_pos rfl] at H; exact H
      clear H
      have H := H1
      clear H1
      replace H := Option.bind_eq_some_iff.mp H
      obtain ⟨t363, A110, H⟩ := H
      replace H : (if t363 = true then ((impl_NamesOk.f k l0_2).bind fun t364 => (some t364)) else (some false)) = some r := H
      have A11 := Aside0.mk A110
      clear A110
      by_cases c12 : t363 = true
      · subst c12
        have H1 : ((impl_NamesOk.f k l0_2).bind fun t364 => (some t364)) = some r := by rw [if_pos rfl] at H; exact H
        clear H
        have H := H1
        clear H1
        replace H := Option.bind_eq_some_iff.mp H
        obtain ⟨t364, A130, H⟩ := H
        replace H : (some t364) = some r := H
        have A13 := Aside0.mk A130
        clear A130
        obtain rfl := Option.some.inj H
        go_enter Try.func127, Try.ntmps127
        go_wp2_with (first | ((with_reducible refine gate_dst (N := 3) rfl ?_); refine box_event ?hg (N := 3) ?hd (cs := #[.int .i64 a0_0, .int .i64 a0_1, .slice A0_2 l0_2.length c0_2]) (t := 31) ?hr ?_; (case hd => rfl); (case hg => rfl); (case hr => first | (go_simp; done) | (go_simp; rfl)); intro gb360 hg w14 hbox hb; have n0_ := Aside0.mk (below_step (by repeat (first | (with_reducible first | exact HB.out | apply below_alloc | apply pw_below_drewN | apply below_drew1) | exact HB.out)) hb); have n1_ := Aside0.mk (hbox); have n2_ := Aside0.mk ((by rw [hg]; exact (below_size (by repeat (first | (with_reducible first | exact HB.out | apply below_alloc | apply pw_below_drewN | apply below_drew1) | exact HB.out))) : w.heap.size ≤ gb360)); have n3_ := n2_; clear HB; have HB := n0_; have BK360 := n1_; have GW360 := n2_; have GE360 := n3_; clear n0_ n1_ n2_ n3_; clear hb hbox hg; obtain ⟨hcz15_0, hcz15_1, hcz15_2⟩ := cells3 BK360.out; obtain ⟨hfz15_0, hfz15_1, hfz15_2⟩ := frozens3 BK360.out) | ((with_reducible refine gate_callee (f := 61) rfl ?_); refine goesL_ (some 8) rfl rfl Try.func61 (by kernel_rfl) rfl #[.agg #[.int .i64 a0_0, .int .i64 a0_1, .slice A0_2 l0_2.length c0_2]] rfl (by (try simp only [List.map_toArray, List.map_cons, List.map_nil]); first | done | rfl | (simp only [List.length_drop, List.length_take]; rfl)) ?_; (with_reducible refine (impl_isRoot.calls a0_0 a0_1 _ _ l0_2 false _ ?side1 ?side2 A4.out).mono ?_); (case side1 => repeat (first | exact (Kd.C_below HR0_2.out HB.out) | (with_reducible refine Kd.C_alloc ?_ _) | (with_reducible refine Kd.C_drewN ?_ _) | (with_reducible refine Kd.C_drew ?_))); (case side2 => exact HC0_2.out); rintro e w16 ⟨rfl, hb⟩; refine ⟨_, rfl, ?_⟩; have n0_ := Aside0.mk (blk_below (g := gb360) (by (with_reducible repeat (first | refine blk_drewN ?_ _ | refine blk_drew ?_ | refine blk_alloc ?_ _)); exact BK360.out) hb); have n1_ := Aside0.mk (below_step (by repeat (first | (with_reducible first | exact HB.out | apply below_alloc | apply pw_below_drewN | apply below_drew1 | refine below_set ?_ GE360.out) | exact HB.out)) hb); clear BK360; clear HB; have BK360 := n0_; have HB := n1_; clear n0_ n1_; (try clear hb); (try clear hb2); (try clear hk); (try clear hi); obtain ⟨hcz17_0, hcz17_1, hcz17_2⟩ := cells3 BK360.out; obtain ⟨hfz17_0, hfz17_1, hfz17_2⟩ := frozens3 BK360.out) | (go_at_call 125; (with_reducible refine (impl_inRange.calls a0_0 1 a1 true _ A9.out).mono ?_); rintro e w' ⟨rfl, ⟨nd, rfl⟩⟩) | (go_at_call 125; (with_reducible refine (impl_inRange.calls a0_1 0 a2 true _ A11.out).mono ?_); rintro e w' ⟨rfl, ⟨nd, rfl⟩⟩) | (go_at_call 164; (with_reducible refine (impl_NamesOk.calls k _ _ l0_2 t364 _ ?side1 ?side2 A13.out).mono ?_); (case side1 => repeat (first | exact (Kd.C_below HR0_2.out (by repeat (first | (with_reducible first | exact HB.out | apply below_alloc | apply pw_below_drewN | apply below_drew1 | refine below_set ?_ GE360.out) | exact HB.out))) | (with_reducible refine Kd.C_alloc ?_ _) | (with_reducible refine Kd.C_drewN ?_ _) | (with_reducible refine Kd.C_drew ?_))); (case side2 => exact HC0_2.out); rintro e w' ⟨rfl, ⟨nd, rfl⟩⟩))
        go_ret
        exact ⟨by first | rfl | (simp [errW_none, errW_some] <;> rfl) | (simp [*, errW_none, errW_some] <;> rfl), by repeat (first | (with_reducible first | exact HB.out | apply below_alloc | apply pw_below_drewN | apply below_drew1 | refine below_set ?_ GE360.out) | exact HB.out)⟩
      · replace c12 := Bool.eq_false_iff.mpr c12
        subst c12
        have H1 : (some false) = some r := by rw [if_neg (show ¬ (false = true) by decide)] at H; exact H
        clear H
        have H := H1
        clear H1
        obtain rfl := Option.some.inj H
        go_enter Try.func127, Try.ntmps127
        go_wp2_with (first | ((with_reducible refine gate_dst (N := 3) rfl ?_); refine box_event ?hg (N := 3) ?hd (cs := #[.int .i64 a0_0, .int .i64 a0_1, .slice A0_2 l0_2.length c0_2]) (t := 31) ?hr ?_; (case hd => rfl); (case hg => rfl); (case hr => first | (go_simp; done) | (go_simp; rfl)); intro gb360 hg w18 hbox hb; have n0_ := Aside0.mk (below_step (by repeat (first | (with_reducible first | exact HB.out | apply below_alloc | apply pw_below_drewN | apply below_drew1) | exact HB.out)) hb); have n1_ := Aside0.mk (hbox); have n2_ := Aside0.mk ((by rw [hg]; exact (below_size (by repeat (first | (with_reducible first | exact HB.out | apply below_alloc | apply pw_below_drewN | apply below_drew1) | exact HB.out))) : w.heap.size ≤ gb360)); have n3_ := n2_; clear HB; have HB := n0_; have BK360 := n1_; have GW360 := n2_; have GE360 := n3_; clear n0_ n1_ n2_ n3_; clear hb hbox hg; obtain ⟨hcz19_0, hcz19_1, hcz19_2⟩ := cells3 BK360.out; obtain ⟨hfz19_0, hfz19_1, hfz19_2⟩ := frozens3 BK360.out) | ((with_reducible refine gate_callee (f := 61) rfl ?_); refine goesL_ (some 8) rfl rfl Try.func61 (by kernel_rfl) rfl #[.agg #[.int .i64 a0_0, .int .i64 a0_1, .slice A0_2 l0_2.length c0_2]] rfl (by (try simp only [List.map_toArray, List.map_cons, List.map_nil]); first | done | rfl | (simp only [List.length_drop, List.length_take]; rfl)) ?_; (with_reducible refine (impl_isRoot.calls a0_0 a0_1 _ _ l0_2 false _ ?side1 ?side2 A4.out).mono ?_); (case side1 => repeat (first | exact (Kd.C_below HR0_2.out HB.out) | (with_reducible refine Kd.C_alloc ?_ _) | (with_reducible refine Kd.C_drewN ?_ _) | (with_reducible refine Kd.C_drew ?_))); (case side2 => exact HC0_2.out); rintro e w20 ⟨rfl, hb⟩; refine ⟨_, rfl, ?_⟩; have n0_ := Aside0.mk (blk_below (g := gb360) (by (with_reducible repeat (first | refine blk_drewN ?_ _ | refine blk_drew ?_ | refine blk_alloc ?_ _)); exact BK360.out) hb); have n1_ := Aside0.mk (below_step (by repeat (first | (with_reducible first | exact HB.out | apply below_alloc | apply pw_below_drewN | apply below_drew1 | refine below_set ?_ GE360.out) | exact HB.out)) hb); clear BK360; clear HB; have BK360 := n0_; have HB := n1_; clear n0_ n1_; (try clear hb); (try clear hb2); (try clear hk); (try clear hi); obtain ⟨hcz21_0, hcz21_1, hcz21_2⟩ := cells3 BK360.out; obtain ⟨hfz21_0, hfz21_1, hfz21_2⟩ := frozens3 BK360.out) | (go_at_call 125; (with_reducible refine (impl_inRange.calls a0_0 1 a1 true _ A9.out).mono ?_); rintro e w' ⟨rfl, ⟨nd, rfl⟩⟩) | (go_at_call 125; (with_reducible refine (impl_inRange.calls a0_1 0 a2 false _ A11.out).mono ?_); rintro e w' ⟨rfl, ⟨nd, rfl⟩⟩))
        go_ret
        exact ⟨by first | rfl | (simp [errW_none, errW_some] <;> rfl) | (simp [*, errW_none, errW_some] <;> rfl), by repeat (first | (with_reducible first | exact HB.out | apply below_alloc | apply pw_below_drewN | apply below_drew1 | refine below_set ?_ GE360.out) | exact HB.out)⟩
    · replace c10 := Bool.eq_false_iff.mpr c10
      subst c10
      have H1 : (some false) = some r := by rw [if_neg (show ¬ (false = true) by decide)] at H; exact H
      clear H
      have H := H1
      clear H1
      obtain rfl := Option.some.inj H
      go_enter Try.func127, Try.ntmps127
      go_wp2_with (first | ((with_reducible refine gate_dst (N := 3) rfl ?_); refine box_event ?hg (N := 3) ?hd (cs := #[.int .i64 a0_0, .int .i64 a0_1, .slice A0_2 l0_2.length c0_2]) (t := 31) ?hr ?_; (case hd => rfl); (case hg => rfl); (case hr => first | (go_simp; done) | (go_simp; rfl)); intro gb360 hg w22 hbox hb; have n0_ := Aside0.mk (below_step (by repeat (first | (with_reducible first | exact HB.out | apply below_alloc | apply pw_below_drewN | apply below_drew1) | exact HB.out)) hb); have n1_ := Aside0.mk (hbox); have n2_ := Aside0.mk ((by rw [hg]; exact (below_size (by repeat (first | (with_reducible first | exact HB.out | apply below_alloc | apply pw_below_drewN | apply below_drew1) | exact HB.out))) : w.heap.size ≤ gb360)); have n3_ := n2_; clear HB; have HB := n0_; have BK360 := n1_; have GW360 := n2_; have GE360 := n3_; clear n0_ n1_ n2_ n3_; clear hb hbox hg; obtain ⟨hcz23_0, hcz23_1, hcz23_2⟩ := cells3 BK360.out; obtain ⟨hfz23_0, hfz23_1, hfz23_2⟩ := frozens3 BK360.out) | ((with_reducible refine gate_callee (f := 61) rfl ?_); refine goesL_ (some 8) rfl rfl Try.func61 (by kernel_rfl) rfl #[.agg #[.int .i64 a0_0, .int .i64 a0_1, .slice A0_2 l0_2.length c0_2]] rfl (by (try simp only [List.map_toArray, List.map_cons, List.map_nil]); first | done | rfl | (simp only [List.length_drop, List.length_take]; rfl)) ?_; (with_reducible refine (impl_isRoot.calls a0_0 a0_1 _ _ l0_2 false _ ?side1 ?side2 A4.out).mono ?_); (case side1 => repeat (first | exact (Kd.C_below HR0_2.out HB.out) | (with_reducible refine Kd.C_alloc ?_ _) | (with_reducible refine Kd.C_drewN ?_ _) | (with_reducible refine Kd.C_drew ?_))); (case side2 => exact HC0_2.out); rintro e w24 ⟨rfl, hb⟩; refine ⟨_, rfl, ?_⟩; have n0_ := Aside0.mk (blk_below (g := gb360) (by (with_reducible repeat (first | refine blk_drewN ?_ _ | refine blk_drew ?_ | refine blk_alloc ?_ _)); exact BK360.out) hb); have n1_ := Aside0.mk (below_step (by repeat (first | (with_reducible first | exact HB.out | apply below_alloc | apply pw_below_drewN | apply below_drew1 | refine below_set ?_ GE360.out) | exact HB.out)) hb); clear BK360; clear HB; have BK360 := n0_; have HB := n1_; clear n0_ n1_; (try clear hb); (try clear hb2); (try clear hk); (try clear hi); obtain ⟨hcz25_0, hcz25_1, hcz25_2⟩ := cells3 BK360.out; obtain ⟨hfz25_0, hfz25_1, hfz25_2⟩ := frozens3 BK360.out) | (go_at_call 125; (with_reducible refine (impl_inRange.calls a0_0 1 a1 false _ A9.out).mono ?_); rintro e w' ⟨rfl, ⟨nd, rfl⟩⟩))
      go_ret
      exact ⟨by first | rfl | (simp [errW_none, errW_some] <;> rfl) | (simp [*, errW_none, errW_some] <;> rfl), by repeat (first | (with_reducible first | exact HB.out | apply below_alloc | apply pw_below_drewN | apply below_drew1 | refine below_set ?_ GE360.out) | exact HB.out)⟩

theorem impl_qcForm.is {r b : Int} {who : List ByteArray} (mr mb : Int) (hl : who.length ≤ maxLen) (hw : ∀ s ∈ who, s.size ≤ maxLen) : Ev (fun k => impl_qcForm.f k r b who mr mb) (qcForm r b who mr mb) := by
  unfold impl_qcForm.f qcForm
  simp only [impl_isRoot.is, impl_inRange.is, Option.bind_some]
  cases rootQ r b who
  · refine Ev.no (by simp) ?_
    cases inR r 1 mr
    · exact Ev.no (by simp) (Ev.now _)
    · refine Ev.yes rfl ?_
      cases inR b 0 mb
      · exact Ev.no (by simp) (Ev.now _)
      · exact Ev.yes rfl (Ev.bind (impl_NamesOk.is hl hw) (Ev.is (by simp)))
  · exact Ev.yes rfl (Ev.now _)
theorem impl_qcForm.does {q : S31} (mr mb : Int) (hl : q.f2.length ≤ maxLen) (hw : ∀ s ∈ q.f2, s.size ≤ maxLen) {cs : List Value} {w : World} (hK : k31.K w q cs) : Calls Try.prog 127 #[.agg cs.toArray, .int .i64 mr, .int .i64 mb] w fun e w' => e = .returned (.bool (qcForm q.f0 q.f1 q.f2 mr mb)) ∧ Below w.heap.size w w' := by
  obtain ⟨A2, c2, rfl, l2, g2⟩ := k31_open hK
  obtain ⟨k, h⟩ := (impl_qcForm.is mr mb hl hw).rounds
  exact impl_qcForm.calls k _ _ _ _ _ _ _ _ w g2 l2 h

/-! ### impl_isNone: function 165 -/
def impl_isNone.f (a0_0 : Int) (l0_1 : List ByteArray) (l0_2 : List Int) : Option (Bool) := if a0_0 = 0 then (if (l0_1.length : Int) = 0 then (some ((l0_2.length : Int) == 0)) else (some false)) else (some false)
set_option maxHeartbeats 8000000 in
set_option maxRecDepth 100000 in
theorem impl_isNone.calls (a0_0 : Int) (A0_1 : Option Addr) (c0_1 : Nat) (l0_1 : List ByteArray) (A0_2 : Option Addr) (c0_2 : Nat) (l0_2 : List Int) (r : Bool) (w : World) (hr0_1 : Kd.C Kd.string w A0_1 l0_1.length l0_1) (hc0_1 : l0_1.length ≤ c0_1) (hr0_2 : Kd.C (Kd.int .i64) w A0_2 l0_2.length l0_2) (hc0_2 : l0_2.length ≤ c0_2) (h : impl_isNone.f a0_0 l0_1 l0_2 = some r) :
    Calls Try.prog 165 #[.agg #[.int .i64 a0_0, .slice A0_1 l0_1.length c0_1, .slice A0_2 l0_2.length c0_2]] w fun e w' => e = .returned (.bool r) ∧ Below w.heap.size w w' := by
  have hu55 := Try.underlying55
  have HR0_1 := Aside0.mk hr0_1
  have HC0_1 := Aside0.mk hc0_1
  clear hr0_1 hc0_1
  have HR0_2 := Aside0.mk hr0_2
  have HC0_2 := Aside0.mk hc0_2
  clear hr0_2 hc0_2
  have HB := Aside0.mk (Below.refl w.heap.size w)
  have H : (if a0_0 = 0 then (if (l0_1.length : Int) = 0 then (some ((l0_2.length : Int) == 0)) else (some false)) else (some false)) = some r := h
  clear h
  by_cases c2 : a0_0 = 0
  · rw [if_pos c2] at H
    have c2b0 : (a0_0 == 0) = true := beq_iff_eq.mpr c2
    have c2b1 : (a0_0 != 0) = false := bne_eq_false_iff_eq.mpr c2
    clear c2
    by_cases c3 : (l0_1.length : Int) = 0
    · rw [if_pos c3] at H
      have c3b0 : ((l0_1.length : Int) == 0) = true := beq_iff_eq.mpr c3
      have c3b1 : ((l0_1.length : Int) != 0) = false := bne_eq_false_iff_eq.mpr c3
      clear c3
      obtain rfl := Option.some.inj H
      go_enter Try.func165, Try.ntmps165
      go_wp2_with (first | ((with_reducible refine gate_dst (N := 1) rfl ?_); (try (refine gate_guard (by rfl) ?_; dsimp only)); refine box_event ?hg (N := 1) ?hd (cs := #[.int .i64 a0_0, .slice A0_1 l0_1.length c0_1, .slice A0_2 l0_2.length c0_2]) (t := 55) ?hr ?_; (case hd => rfl); (case hg => rfl); (case hr => first | (go_simp; done) | (go_simp; rfl)); intro gb365 hg w4 hbox hb; have n0_ := Aside0.mk (below_step (by repeat (first | (with_reducible first | exact HB.out | apply below_alloc | apply pw_below_drewN | apply below_drew1) | exact HB.out)) hb); have n1_ := Aside0.mk (hbox); have n2_ := Aside0.mk ((by rw [hg]; exact (below_size (by repeat (first | (with_reducible first | exact HB.out | apply below_alloc | apply pw_below_drewN | apply below_drew1) | exact HB.out))) : w.heap.size ≤ gb365)); have n3_ := n2_; clear HB; have HB := n0_; have BK365 := n1_; have GW365 := n2_; have GE365 := n3_; clear n0_ n1_ n2_ n3_; clear hb hbox hg; obtain ⟨hcz5_0, hcz5_1, hcz5_2⟩ := cells3 BK365.out; obtain ⟨hfz5_0, hfz5_1, hfz5_2⟩ := frozens3 BK365.out))
      go_ret
      exact ⟨by first | rfl | (simp [errW_none, errW_some] <;> rfl) | (simp [*, errW_none, errW_some] <;> rfl), by repeat (first | (with_reducible first | exact HB.out | apply below_alloc | apply pw_below_drewN | apply below_drew1 | refine below_set ?_ GE365.out) | exact HB.out)⟩
    · rw [if_neg c3] at H
      have c3b0 : ((l0_1.length : Int) == 0) = false := beq_eq_false_iff_ne.mpr c3
      have c3b1 : ((l0_1.length : Int) != 0) = true := bne_iff_ne.mpr c3
      have c3b2 : ¬ (l0_1 = []) := fun h_ => c3 (by rw [h_]; rfl)
      obtain rfl := Option.some.inj H
      go_enter Try.func165, Try.ntmps165
      go_wp2_with (first | ((with_reducible refine gate_dst (N := 1) rfl ?_); (try (refine gate_guard (by rfl) ?_; dsimp only)); refine box_event ?hg (N := 1) ?hd (cs := #[.int .i64 a0_0, .slice A0_1 l0_1.length c0_1, .slice A0_2 l0_2.length c0_2]) (t := 55) ?hr ?_; (case hd => rfl); (case hg => rfl); (case hr => first | (go_simp; done) | (go_simp; rfl)); intro gb365 hg w6 hbox hb; have n0_ := Aside0.mk (below_step (by repeat (first | (with_reducible first | exact HB.out | apply below_alloc | apply pw_below_drewN | apply below_drew1) | exact HB.out)) hb); have n1_ := Aside0.mk (hbox); have n2_ := Aside0.mk ((by rw [hg]; exact (below_size (by repeat (first | (with_reducible first | exact HB.out | apply below_alloc | apply pw_below_drewN | apply below_drew1) | exact HB.out))) : w.heap.size ≤ gb365)); have n3_ := n2_; clear HB; have HB := n0_; have BK365 := n1_; have GW365 := n2_; have GE365 := n3_; clear n0_ n1_ n2_ n3_; clear hb hbox hg; obtain ⟨hcz7_0, hcz7_1, hcz7_2⟩ := cells3 BK365.out; obtain ⟨hfz7_0, hfz7_1, hfz7_2⟩ := frozens3 BK365.out))
      go_ret
      exact ⟨by first | rfl | (simp [errW_none, errW_some] <;> rfl) | (simp [*, errW_none, errW_some] <;> rfl), by repeat (first | (with_reducible first | exact HB.out | apply below_alloc | apply pw_below_drewN | apply below_drew1 | refine below_set ?_ GE365.out) | exact HB.out)⟩
  · rw [if_neg c2] at H
    have c2b0 : (a0_0 == 0) = false := beq_eq_false_iff_ne.mpr c2
    have c2b1 : (a0_0 != 0) = true := bne_iff_ne.mpr c2
    obtain rfl := Option.some.inj H
    go_enter Try.func165, Try.ntmps165
    go_wp2_with (first | ((with_reducible refine gate_dst (N := 1) rfl ?_); (try (refine gate_guard (by rfl) ?_; dsimp only)); refine box_event ?hg (N := 1) ?hd (cs := #[.int .i64 a0_0, .slice A0_1 l0_1.length c0_1, .slice A0_2 l0_2.length c0_2]) (t := 55) ?hr ?_; (case hd => rfl); (case hg => rfl); (case hr => first | (go_simp; done) | (go_simp; rfl)); intro gb365 hg w8 hbox hb; have n0_ := Aside0.mk (below_step (by repeat (first | (with_reducible first | exact HB.out | apply below_alloc | apply pw_below_drewN | apply below_drew1) | exact HB.out)) hb); have n1_ := Aside0.mk (hbox); have n2_ := Aside0.mk ((by rw [hg]; exact (below_size (by repeat (first | (with_reducible first | exact HB.out | apply below_alloc | apply pw_below_drewN | apply below_drew1) | exact HB.out))) : w.heap.size ≤ gb365)); have n3_ := n2_; clear HB; have HB := n0_; have BK365 := n1_; have GW365 := n2_; have GE365 := n3_; clear n0_ n1_ n2_ n3_; clear hb hbox hg; obtain ⟨hcz9_0, hcz9_1, hcz9_2⟩ := cells3 BK365.out; obtain ⟨hfz9_0, hfz9_1, hfz9_2⟩ := frozens3 BK365.out))
    go_ret
    exact ⟨by first | rfl | (simp [errW_none, errW_some] <;> rfl) | (simp [*, errW_none, errW_some] <;> rfl), by repeat (first | (with_reducible first | exact HB.out | apply below_alloc | apply pw_below_drewN | apply below_drew1 | refine below_set ?_ GE365.out) | exact HB.out)⟩

theorem impl_isNone.is (r : Int) (who : List ByteArray) (highs : List Int) : impl_isNone.f r who highs = some (noneT r who highs) := by
  unfold impl_isNone.f noneT
  by_cases h1 : r = 0
  · rw [if_pos h1, decide_eq_true h1, Bool.true_and]
    by_cases h2 : (who.length : Int) = 0
    · rw [if_pos h2, decide_eq_true h2, Bool.true_and]
    · rw [if_neg h2, decide_eq_false h2, Bool.false_and]
  · rw [if_neg h1, decide_eq_false h1, Bool.false_and]
theorem impl_isNone.does {t : S55} {cs : List Value} {w : World} (hK : k55.K w t cs) : Calls Try.prog 165 #[.agg cs.toArray] w fun e w' => e = .returned (.bool (noneT t.f0 t.f1 t.f2)) ∧ Below w.heap.size w w' := by
  obtain ⟨A1, c1, A2, c2, rfl, l1, g1, l2, g2⟩ := k55_open hK
  exact impl_isNone.calls _ _ _ _ _ _ _ _ w g1 l1 g2 l2 (impl_isNone.is _ _ _)

/-! ### impl_tcForm: function 128 -/
def impl_tcForm.l0 : Nat → Int → List Int → Int → Int → Int → List ByteArray → List Int → Option (Bool)
  | 0, _, _, _, _, _, _, _ => none
  | k + 1, x1, x10, x11, x12, x367000, x367001, x367002 => if x12 < x11 then (if 0 ≤ x12 then (if x12 < (x10.length : Int) then ((impl_inRange.f (rd x10 x12) 0 (wrap64 (x367000 - 1))).bind fun t369 => (if t369 = true then (impl_tcForm.l0 k x1 x10 x11 (wrap64 (x12 + 1)) x367000 x367001 x367002) else (some false))) else (none)) else (none)) else ((impl_inRange.f x367000 1 x1).bind fun t370 => (if t370 = true then ((impl_NamesOk.f k x367001).bind fun t371 => (if t371 = true then (some ((x367002.length : Int) == (x367001.length : Int))) else (some false))) else (some false)))
def impl_tcForm.f (k : Nat) (a0_0 : Int) (l0_1 : List ByteArray) (l0_2 : List Int) (a1 : Int) : Option (Bool) := (impl_isNone.f a0_0 l0_1 l0_2).bind fun t367 => (if t367 = true then (some true) else (impl_tcForm.l0 k a1 l0_2 (l0_2.length : Int) 0 a0_0 l0_1 l0_2))
theorem impl_tcForm.mono_l : ∀ k, (∀ y0 y1 y2 y3 y4 y5 y6, LeO (impl_tcForm.l0 k y0 y1 y2 y3 y4 y5 y6) (impl_tcForm.l0 (k + 1) y0 y1 y2 y3 y4 y5 y6))
  | 0 => fun _ _ _ _ _ _ _ r h => by simp [impl_tcForm.l0] at h
  | k + 1 => by
    have ih0 := impl_tcForm.mono_l k
    · intro y0 y1 y2 y3 y4 y5 y6
      unfold impl_tcForm.l0
      repeat' first
      | (with_reducible exact ih0 _ _ _ _ _ _ _)
      | (with_reducible exact impl_NamesOk.mono _ _)
      | (with_reducible exact LeO.refl _)
      | (with_reducible exact LeO.none _)
      | (with_reducible refine LeO.ite ?_ ?_)
      | (with_reducible refine LeO.bind ?_ (fun _ => ?_))
      | exact ih0 _ _ _ _ _ _ _
      | exact impl_NamesOk.mono _ _
      | exact LeO.none _
      | refine LeO.ite ?_ ?_
      | refine LeO.bind ?_ (fun _ => ?_)
theorem impl_tcForm.mono : ∀ a0 a1 a2 a3 k, LeO (impl_tcForm.f k a0 a1 a2 a3) (impl_tcForm.f (k + 1) a0 a1 a2 a3) := by
  intro a0 a1 a2 a3 k
  have ih0 := impl_tcForm.mono_l k
  unfold impl_tcForm.f
  repeat' first
      | (with_reducible exact ih0 _ _ _ _ _ _ _)
      | (with_reducible exact impl_NamesOk.mono _ _)
      | (with_reducible exact LeO.refl _)
      | (with_reducible exact LeO.none _)
      | (with_reducible refine LeO.ite ?_ ?_)
      | (with_reducible refine LeO.bind ?_ (fun _ => ?_))
      | exact ih0 _ _ _ _ _ _ _
      | exact impl_NamesOk.mono _ _
      | exact LeO.none _
      | refine LeO.ite ?_ ?_
      | refine LeO.bind ?_ (fun _ => ?_)
set_option maxHeartbeats 8000000 in
set_option maxRecDepth 100000 in
theorem impl_tcForm.calls (k : Nat) (a0_0 : Int) (A0_1 : Option Addr) (c0_1 : Nat) (l0_1 : List ByteArray) (A0_2 : Option Addr) (c0_2 : Nat) (l0_2 : List Int) (a1 : Int) (r : Bool) (w : World) (hr0_1 : Kd.C Kd.string w A0_1 l0_1.length l0_1) (hc0_1 : l0_1.length ≤ c0_1) (hr0_2 : Kd.C (Kd.int .i64) w A0_2 l0_2.length l0_2) (hc0_2 : l0_2.length ≤ c0_2) (h : impl_tcForm.f k a0_0 l0_1 l0_2 a1 = some r) :
    Calls Try.prog 128 #[.agg #[.int .i64 a0_0, .slice A0_1 l0_1.length c0_1, .slice A0_2 l0_2.length c0_2], .int .i64 a1] w fun e w' => e = .returned (.bool r) ∧ Below w.heap.size w w' := by
  have hu55 := Try.underlying55
  have HR0_1 := Aside0.mk hr0_1
  have HC0_1 := Aside0.mk hc0_1
  clear hr0_1 hc0_1
  have HR0_2 := Aside0.mk hr0_2
  have HC0_2 := Aside0.mk hc0_2
  clear hr0_2 hc0_2
  have HB := Aside0.mk (Below.refl w.heap.size w)
  have H : ((impl_isNone.f a0_0 l0_1 l0_2).bind fun t367 => (if t367 = true then (some true) else (impl_tcForm.l0 k a1 l0_2 (l0_2.length : Int) 0 a0_0 l0_1 l0_2))) = some r := h
  clear h
  replace H := Option.bind_eq_some_iff.mp H
  obtain ⟨t367, A30, H⟩ := H
  replace H : (if t367 = true then (some true) else (impl_tcForm.l0 k a1 l0_2 (l0_2.length : Int) 0 a0_0 l0_1 l0_2)) = some r := H
  have A3 := Aside0.mk A30
  clear A30
  by_cases c4 : t367 = true
  · subst c4
    have H1 : (some true) = some r := by rw [if_pos rfl] at H; exact H
    clear H
    have H := H1
    clear H1
    obtain rfl := Option.some.inj H
    go_enter Try.func128, Try.ntmps128
    go_wp2_with (first | ((with_reducible refine gate_dst (N := 2) rfl ?_); (try (refine gate_guard (by rfl) ?_; dsimp only)); refine box_event ?hg (N := 2) ?hd (cs := #[.int .i64 a0_0, .slice A0_1 l0_1.length c0_1, .slice A0_2 l0_2.length c0_2]) (t := 55) ?hr ?_; (case hd => rfl); (case hg => rfl); (case hr => first | (go_simp; done) | (go_simp; rfl)); intro gb366 hg w5 hbox hb; have n0_ := Aside0.mk (below_step (by repeat (first | (with_reducible first | exact HB.out | apply below_alloc | apply pw_below_drewN | apply below_drew1) | exact HB.out)) hb); have n1_ := Aside0.mk (hbox); have n2_ := Aside0.mk ((by rw [hg]; exact (below_size (by repeat (first | (with_reducible first | exact HB.out | apply below_alloc | apply pw_below_drewN | apply below_drew1) | exact HB.out))) : w.heap.size ≤ gb366)); have n3_ := n2_; clear HB; have HB := n0_; have BK366 := n1_; have GW366 := n2_; have GE366 := n3_; clear n0_ n1_ n2_ n3_; clear hb hbox hg; obtain ⟨hcz6_0, hcz6_1, hcz6_2⟩ := cells3 BK366.out; obtain ⟨hfz6_0, hfz6_1, hfz6_2⟩ := frozens3 BK366.out) | ((with_reducible refine gate_callee (f := 165) rfl ?_); refine goesL_ (some 8) rfl rfl Try.func165 (by kernel_rfl) rfl #[.agg #[.int .i64 a0_0, .slice A0_1 l0_1.length c0_1, .slice A0_2 l0_2.length c0_2]] rfl (by (try simp only [List.map_toArray, List.map_cons, List.map_nil]); first | done | rfl | (simp only [List.length_drop, List.length_take]; rfl)) ?_; (with_reducible refine (impl_isNone.calls a0_0 _ _ l0_1 _ _ l0_2 true _ ?side1 ?side2 ?side3 ?side4 A3.out).mono ?_); (case side1 => repeat (first | exact (Kd.C_below HR0_1.out HB.out) | (with_reducible refine Kd.C_alloc ?_ _) | (with_reducible refine Kd.C_drewN ?_ _) | (with_reducible refine Kd.C_drew ?_))); (case side2 => exact HC0_1.out); (case side3 => repeat (first | exact (Kd.C_below HR0_2.out HB.out) | (with_reducible refine Kd.C_alloc ?_ _) | (with_reducible refine Kd.C_drewN ?_ _) | (with_reducible refine Kd.C_drew ?_))); (case side4 => exact HC0_2.out); rintro e w7 ⟨rfl, hb⟩; refine ⟨_, rfl, ?_⟩; have n0_ := Aside0.mk (blk_below (g := gb366) (by (with_reducible repeat (first | refine blk_drewN ?_ _ | refine blk_drew ?_ | refine blk_alloc ?_ _)); exact BK366.out) hb); have n1_ := Aside0.mk (below_step (by repeat (first | (with_reducible first | exact HB.out | apply below_alloc | apply pw_below_drewN | apply below_drew1 | refine below_set ?_ GE366.out) | exact HB.out)) hb); clear BK366; clear HB; have BK366 := n0_; have HB := n1_; clear n0_ n1_; (try clear hb); (try clear hb2); (try clear hk); (try clear hi)))
    go_ret
    exact ⟨by first | rfl | (simp [errW_none, errW_some] <;> rfl) | (simp [*, errW_none, errW_some] <;> rfl), by repeat (first | (with_reducible first | exact HB.out | apply below_alloc | apply pw_below_drewN | apply below_drew1 | refine below_set ?_ GE366.out) | exact HB.out)⟩
  · replace c4 := Bool.eq_false_iff.mpr c4
    subst c4
    have H1 : (impl_tcForm.l0 k a1 l0_2 (l0_2.length : Int) 0 a0_0 l0_1 l0_2) = some r := by rw [if_neg (show ¬ (false = true) by decide)] at H; exact H
    clear H
    have H := H1
    clear H1
    have H' := Aside0.mk H
    clear H
    go_enter Try.func128, Try.ntmps128
    go_wp2_with (first | ((with_reducible refine gate_dst (N := 2) rfl ?_); (try (refine gate_guard (by rfl) ?_; dsimp only)); refine box_event ?hg (N := 2) ?hd (cs := #[.int .i64 a0_0, .slice A0_1 l0_1.length c0_1, .slice A0_2 l0_2.length c0_2]) (t := 55) ?hr ?_; (case hd => rfl); (case hg => rfl); (case hr => first | (go_simp; done) | (go_simp; rfl)); intro gb366 hg w8 hbox hb; have n0_ := Aside0.mk (below_step (by repeat (first | (with_reducible first | exact HB.out | apply below_alloc | apply pw_below_drewN | apply below_drew1) | exact HB.out)) hb); have n1_ := Aside0.mk (hbox); have n2_ := Aside0.mk ((by rw [hg]; exact (below_size (by repeat (first | (with_reducible first | exact HB.out | apply below_alloc | apply pw_below_drewN | apply below_drew1) | exact HB.out))) : w.heap.size ≤ gb366)); have n3_ := n2_; clear HB; have HB := n0_; have BK366 := n1_; have GW366 := n2_; have GE366 := n3_; clear n0_ n1_ n2_ n3_; clear hb hbox hg; obtain ⟨hcz9_0, hcz9_1, hcz9_2⟩ := cells3 BK366.out; obtain ⟨hfz9_0, hfz9_1, hfz9_2⟩ := frozens3 BK366.out) | ((with_reducible refine gate_callee (f := 165) rfl ?_); refine goesL_ (some 8) rfl rfl Try.func165 (by kernel_rfl) rfl #[.agg #[.int .i64 a0_0, .slice A0_1 l0_1.length c0_1, .slice A0_2 l0_2.length c0_2]] rfl (by (try simp only [List.map_toArray, List.map_cons, List.map_nil]); first | done | rfl | (simp only [List.length_drop, List.length_take]; rfl)) ?_; (with_reducible refine (impl_isNone.calls a0_0 _ _ l0_1 _ _ l0_2 false _ ?side1 ?side2 ?side3 ?side4 A3.out).mono ?_); (case side1 => repeat (first | exact (Kd.C_below HR0_1.out HB.out) | (with_reducible refine Kd.C_alloc ?_ _) | (with_reducible refine Kd.C_drewN ?_ _) | (with_reducible refine Kd.C_drew ?_))); (case side2 => exact HC0_1.out); (case side3 => repeat (first | exact (Kd.C_below HR0_2.out HB.out) | (with_reducible refine Kd.C_alloc ?_ _) | (with_reducible refine Kd.C_drewN ?_ _) | (with_reducible refine Kd.C_drew ?_))); (case side4 => exact HC0_2.out); rintro e w10 ⟨rfl, hb⟩; refine ⟨_, rfl, ?_⟩; have n0_ := Aside0.mk (blk_below (g := gb366) (by (with_reducible repeat (first | refine blk_drewN ?_ _ | refine blk_drew ?_ | refine blk_alloc ?_ _)); exact BK366.out) hb); have n1_ := Aside0.mk (below_step (by repeat (first | (with_reducible first | exact HB.out | apply below_alloc | apply pw_below_drewN | apply below_drew1 | refine below_set ?_ GE366.out) | exact HB.out)) hb); clear BK366; clear HB; have BK366 := n0_; have HB := n1_; clear n0_ n1_; (try clear hb); (try clear hb2); (try clear hk); (try clear hi); obtain ⟨hcz11_0, hcz11_1, hcz11_2⟩ := cells3 BK366.out; obtain ⟨hfz11_0, hfz11_1, hfz11_2⟩ := frozens3 BK366.out))
    go_loopg [12] k (fun kq v12 w' => ∃ (x12_1 : Int), v12 = .int .i64 x12_1 ∧ Aside0 (impl_tcForm.l0 kq a1 l0_2 (l0_2.length : Int) x12_1 a0_0 l0_1 l0_2 = some r) ∧ Aside0 (kq ≤ k) ∧ Aside0 (w'.heap[gb366]? = some (.cells #[.int .i64 a0_0, (.slice A0_1 l0_1.length c0_1), (.slice A0_2 l0_2.length c0_2)] 55 (0, 0))) ∧ Aside0 (Below w.heap.size w w'))
    case atStart => exact ⟨(0), (by first | rfl | (simp; done) | (simp [*]; done)), H', ⟨Nat.le_refl _⟩, ⟨by (with_reducible repeat (first | refine blk_drewN ?_ _ | refine blk_drew ?_ | refine blk_alloc ?_ _)); exact BK366.out⟩, ⟨by repeat (first | (with_reducible first | exact HB.out | apply below_alloc | apply pw_below_drewN | apply below_drew1 | refine below_set ?_ GE366.out) | exact HB.out)⟩⟩
    case round =>
      clear H'
      try clear c1
      try clear p2
      try clear c4
      try clear hcz11_0
      try clear hcz11_1
      try clear hcz11_2
      try clear hcz6_0
      try clear hcz6_1
      try clear hcz6_2
      try clear hcz9_0
      try clear hcz9_1
      try clear hcz9_2
      try clear hfz11_0
      try clear hfz11_1
      try clear hfz11_2
      try clear hfz6_0
      try clear hfz6_1
      try clear hfz6_2
      try clear hfz9_0
      try clear hfz9_1
      try clear hfz9_2
      obtain ⟨x12_1, rfl, HA, HK1, BK366, HB⟩ := hrel
      cases gk with
      | zero => exact absurd HA.out (by simp [impl_tcForm.l0])
      | succ k1 =>
        have H := HA.out
        clear HA
        simp only [impl_tcForm.l0] at H
        by_cases c12 : x12_1 < (l0_2.length : Int)
        · rw [if_pos c12] at H
          have c12b0 : decide (x12_1 < (l0_2.length : Int)) = true := decide_eq_true c12
          clear c12
          by_cases c13 : 0 ≤ x12_1
          · rw [if_pos c13] at H
            have c13b0 : decide (0 ≤ x12_1) = true := decide_eq_true c13
            clear c13
            by_cases c14 : x12_1 < (l0_2.length : Int)
            · rw [if_pos c14] at H
              have c14b0 : decide (x12_1 < (l0_2.length : Int)) = true := decide_eq_true c14
              clear c14
              replace H := Option.bind_eq_some_iff.mp H
              obtain ⟨t369, A150, H⟩ := H
              replace H : (if t369 = true then (impl_tcForm.l0 k1 a1 l0_2 (l0_2.length : Int) (wrap64 (x12_1 + 1)) a0_0 l0_1 l0_2) else (some false)) = some r := H
              have A15 := Aside0.mk A150
              clear A150
              by_cases c16 : t369 = true
              · subst c16
                have H1 : (impl_tcForm.l0 k1 a1 l0_2 (l0_2.length : Int) (wrap64 (x12_1 + 1)) a0_0 l0_1 l0_2) = some r := by rw [if_pos rfl] at H; exact H
                clear H
                have H := H1
                clear H1
                have H' := Aside0.mk H
                clear H
                have p368 : 0 ≤ (x12_1 : Int) := of_decide_eq_true (by first | (with_reducible assumption) | assumption)
                have q368 : x12_1 < (l0_2.length : Int) := of_decide_eq_true (by first | (with_reducible assumption) | assumption)
                obtain ⟨ad368, e368, hx368_0⟩ := Kd.at_int HR0_2.out x12_1 p368 q368
                cases e368
                replace hx368_0 := (HB.out.cell (World.block_lt_of_cell? w _ hx368_0)).trans hx368_0
                replace p368 := eq_true p368
                replace q368 := eq_true q368
                obtain ⟨hcz17_0, hcz17_1, hcz17_2⟩ := cells3 BK366.out
                obtain ⟨hfz17_0, hfz17_1, hfz17_2⟩ := frozens3 BK366.out
                go_wp2_with (first | ((with_reducible refine gate_callee (f := 125) rfl ?_); refine goesL_ (some 20) rfl rfl Try.func125 (by kernel_rfl) rfl #[.int .i64 (rd l0_2 x12_1), .int .i64 0, .int .i64 (wrap64 (a0_0 - 1))] rfl (by (try simp only [List.map_toArray, List.map_cons, List.map_nil]); first | done | rfl | (simp only [List.length_drop, List.length_take]; rfl)) ?_; (with_reducible refine (impl_inRange.calls (rd l0_2 x12_1) 0 (wrap64 (a0_0 - 1)) true _ A15.out).mono ?_); rintro e w' ⟨rfl, ⟨nd, rfl⟩⟩; refine ⟨_, rfl, ?_⟩))
                go_roundg k1
                case measure => have := HK1.out; omega
                case rel => exact ⟨(wrap64 (x12_1 + 1)), (by first | rfl | (simp; done) | (simp [*]; done)), H', ⟨by have := HK1.out; omega⟩, ⟨by (with_reducible repeat (first | refine blk_drewN ?_ _ | refine blk_drew ?_ | refine blk_alloc ?_ _)); exact BK366.out⟩, ⟨by repeat (first | (with_reducible first | exact HB.out | apply below_alloc | apply pw_below_drewN | apply below_drew1 | refine below_set ?_ GE366.out) | exact HB.out)⟩⟩
              · replace c16 := Bool.eq_false_iff.mpr c16
                subst c16
                have H1 : (some false) = some r := by rw [if_neg (show ¬ (false = true) by decide)] at H; exact H
                clear H
                have H := H1
                clear H1
                obtain rfl := Option.some.inj H
                have p368 : 0 ≤ (x12_1 : Int) := of_decide_eq_true (by first | (with_reducible assumption) | assumption)
                have q368 : x12_1 < (l0_2.length : Int) := of_decide_eq_true (by first | (with_reducible assumption) | assumption)
                obtain ⟨ad368, e368, hx368_0⟩ := Kd.at_int HR0_2.out x12_1 p368 q368
                cases e368
                replace hx368_0 := (HB.out.cell (World.block_lt_of_cell? w _ hx368_0)).trans hx368_0
                replace p368 := eq_true p368
                replace q368 := eq_true q368
                obtain ⟨hcz18_0, hcz18_1, hcz18_2⟩ := cells3 BK366.out
                obtain ⟨hfz18_0, hfz18_1, hfz18_2⟩ := frozens3 BK366.out
                go_wp2_with (first | ((with_reducible refine gate_callee (f := 125) rfl ?_); refine goesL_ (some 20) rfl rfl Try.func125 (by kernel_rfl) rfl #[.int .i64 (rd l0_2 x12_1), .int .i64 0, .int .i64 (wrap64 (a0_0 - 1))] rfl (by (try simp only [List.map_toArray, List.map_cons, List.map_nil]); first | done | rfl | (simp only [List.length_drop, List.length_take]; rfl)) ?_; (with_reducible refine (impl_inRange.calls (rd l0_2 x12_1) 0 (wrap64 (a0_0 - 1)) false _ A15.out).mono ?_); rintro e w' ⟨rfl, ⟨nd, rfl⟩⟩; refine ⟨_, rfl, ?_⟩))
                go_ret
                exact ⟨by first | rfl | (simp [errW_none, errW_some] <;> rfl) | (simp [*, errW_none, errW_some] <;> rfl), by repeat (first | (with_reducible first | exact HB.out | apply below_alloc | apply pw_below_drewN | apply below_drew1 | refine below_set ?_ GE366.out) | exact HB.out)⟩
            · rw [if_neg c14] at H
              exact absurd H (by simp)
          · rw [if_neg c13] at H
            exact absurd H (by simp)
        · rw [if_neg c12] at H
          have c12b0 : decide (x12_1 < (l0_2.length : Int)) = false := decide_eq_false c12
          clear c12
          replace H := Option.bind_eq_some_iff.mp H
          obtain ⟨t370, A190, H⟩ := H
          replace H : (if t370 = true then ((impl_NamesOk.f k1 l0_1).bind fun t371 => (if t371 = true then (some ((l0_2.length : Int) == (l0_1.length : Int))) else (some false))) else (some false)) = some r := H
          have A19 := Aside0.mk A190
          clear A190
          by_cases c20 : t370 = true
          · subst c20
            have H1 : ((impl_NamesOk.f k1 l0_1).bind fun t371 => (if t371 = true then (some ((l0_2.length : Int) == (l0_1.length : Int))) else (some false))) = some r := by rw [if_pos rfl] at H; exact H
            clear H
            have H := H1
            clear H1
            replace H := Option.bind_eq_some_iff.mp H
            obtain ⟨t371, A210, H⟩ := H
            replace H : (if t371 = true then (some ((l0_2.length : Int) == (l0_1.length : Int))) else (some false)) = some r := H
            have A21 := Aside0.mk A210
            clear A210
            by_cases c22 : t371 = true
            · subst c22
              have H1 : (some ((l0_2.length : Int) == (l0_1.length : Int))) = some r := by rw [if_pos rfl] at H; exact H
              clear H
              have H := H1
              clear H1
              obtain rfl := Option.some.inj H
              obtain ⟨hcz23_0, hcz23_1, hcz23_2⟩ := cells3 BK366.out
              obtain ⟨hfz23_0, hfz23_1, hfz23_2⟩ := frozens3 BK366.out
              go_wp2_with (first | ((with_reducible refine gate_callee (f := 125) rfl ?_); refine goesL_ (some 26) rfl rfl Try.func125 (by kernel_rfl) rfl #[.int .i64 a0_0, .int .i64 1, .int .i64 a1] rfl (by (try simp only [List.map_toArray, List.map_cons, List.map_nil]); first | done | rfl | (simp only [List.length_drop, List.length_take]; rfl)) ?_; (with_reducible refine (impl_inRange.calls a0_0 1 a1 true _ A19.out).mono ?_); rintro e w' ⟨rfl, ⟨nd, rfl⟩⟩; refine ⟨_, rfl, ?_⟩) | (go_at_call 164; (with_reducible refine (impl_NamesOk.calls k1 _ _ l0_1 true _ ?side1 ?side2 A21.out).mono ?_); (case side1 => repeat (first | exact (Kd.C_below HR0_1.out (by repeat (first | (with_reducible first | exact HB.out | apply below_alloc | apply pw_below_drewN | apply below_drew1 | refine below_set ?_ GE366.out) | exact HB.out))) | (with_reducible refine Kd.C_alloc ?_ _) | (with_reducible refine Kd.C_drewN ?_ _) | (with_reducible refine Kd.C_drew ?_))); (case side2 => exact HC0_1.out); rintro e w' ⟨rfl, ⟨nd, rfl⟩⟩))
              go_ret
              exact ⟨by first | rfl | (simp [errW_none, errW_some] <;> rfl) | (simp [*, errW_none, errW_some] <;> rfl), by repeat (first | (with_reducible first | exact HB.out | apply below_alloc | apply pw_below_drewN | apply below_drew1 | refine below_set ?_ GE366.out) | exact HB.out)⟩
            · replace c22 := Bool.eq_false_iff.mpr c22
              subst c22
              have H1 : (some false) = some r := by rw [if_neg (show ¬ (false = true) by decide)] at H; exact H
              clear H
              have H := H1
              clear H1
              obtain rfl := Option.some.inj H
              obtain ⟨hcz24_0, hcz24_1, hcz24_2⟩ := cells3 BK366.out
              obtain ⟨hfz24_0, hfz24_1, hfz24_2⟩ := frozens3 BK366.out
              go_wp2_with (first | ((with_reducible refine gate_callee (f := 125) rfl ?_); refine goesL_ (some 26) rfl rfl Try.func125 (by kernel_rfl) rfl #[.int .i64 a0_0, .int .i64 1, .int .i64 a1] rfl (by (try simp only [List.map_toArray, List.map_cons, List.map_nil]); first | done | rfl | (simp only [List.length_drop, List.length_take]; rfl)) ?_; (with_reducible refine (impl_inRange.calls a0_0 1 a1 true _ A19.out).mono ?_); rintro e w' ⟨rfl, ⟨nd, rfl⟩⟩; refine ⟨_, rfl, ?_⟩) | (go_at_call 164; (with_reducible refine (impl_NamesOk.calls k1 _ _ l0_1 false _ ?side1 ?side2 A21.out).mono ?_); (case side1 => repeat (first | exact (Kd.C_below HR0_1.out (by repeat (first | (with_reducible first | exact HB.out | apply below_alloc | apply pw_below_drewN | apply below_drew1 | refine below_set ?_ GE366.out) | exact HB.out))) | (with_reducible refine Kd.C_alloc ?_ _) | (with_reducible refine Kd.C_drewN ?_ _) | (with_reducible refine Kd.C_drew ?_))); (case side2 => exact HC0_1.out); rintro e w' ⟨rfl, ⟨nd, rfl⟩⟩))
              go_ret
              exact ⟨by first | rfl | (simp [errW_none, errW_some] <;> rfl) | (simp [*, errW_none, errW_some] <;> rfl), by repeat (first | (with_reducible first | exact HB.out | apply below_alloc | apply pw_below_drewN | apply below_drew1 | refine below_set ?_ GE366.out) | exact HB.out)⟩
          · replace c20 := Bool.eq_false_iff.mpr c20
            subst c20
            have H1 : (some false) = some r := by rw [if_neg (show ¬ (false = true) by decide)] at H; exact H
            clear H
            have H := H1
            clear H1
            obtain rfl := Option.some.inj H
            obtain ⟨hcz25_0, hcz25_1, hcz25_2⟩ := cells3 BK366.out
            obtain ⟨hfz25_0, hfz25_1, hfz25_2⟩ := frozens3 BK366.out
            go_wp2_with (first | ((with_reducible refine gate_callee (f := 125) rfl ?_); refine goesL_ (some 26) rfl rfl Try.func125 (by kernel_rfl) rfl #[.int .i64 a0_0, .int .i64 1, .int .i64 a1] rfl (by (try simp only [List.map_toArray, List.map_cons, List.map_nil]); first | done | rfl | (simp only [List.length_drop, List.length_take]; rfl)) ?_; (with_reducible refine (impl_inRange.calls a0_0 1 a1 false _ A19.out).mono ?_); rintro e w' ⟨rfl, ⟨nd, rfl⟩⟩; refine ⟨_, rfl, ?_⟩))
            go_ret
            exact ⟨by first | rfl | (simp [errW_none, errW_some] <;> rfl) | (simp [*, errW_none, errW_some] <;> rfl), by repeat (first | (with_reducible first | exact HB.out | apply below_alloc | apply pw_below_drewN | apply below_drew1 | refine below_set ?_ GE366.out) | exact HB.out)⟩

theorem impl_tcForm.is {r : Int} {who : List ByteArray} {highs : List Int} (mr : Int) (hl : who.length ≤ maxLen) (hw : ∀ s ∈ who, s.size ≤ maxLen) (hh : highs.length ≤ maxLen) : Ev (fun k => impl_tcForm.f k r who highs mr) (tcForm r who highs mr) := by
  have hm : maxLen = 9223372036854775807 := rfl
  unfold impl_tcForm.f tcForm
  simp only [impl_isNone.is, Option.bind_some]
  cases noneT r who highs
  · refine Ev.no (by simp) ?_
    rw [Bool.false_or]
    refine ev_all (fun k i => impl_tcForm.l0 k mr highs highs.length i r who highs) ?_ (fun i hi r' ih => ?_)
    · simp only [impl_tcForm.l0, impl_inRange.is, Option.bind_some]
      refine Ev.no (by omega) ?_
      cases inR r 1 mr
      · exact Ev.no (by simp) (Ev.now _)
      · refine Ev.yes rfl (Ev.bind (impl_NamesOk.is hl hw) ?_)
        cases namesOk who
        · exact Ev.no (by simp) (Ev.now _)
        · exact Ev.yes rfl (Ev.now _)
    · have hrd : rd highs (i : Int) = highs.getD i 0 := rfl
      simp only [impl_tcForm.l0, impl_inRange.is, Option.bind_some, hrd]
      refine Ev.yes (by omega) (Ev.yes (by omega) (Ev.yes (by omega) ?_))
      rw [unw (x := (i : Int) + 1) (by omega) (by omega)]
      cases inR (highs.getD i 0) 0 (wrap64 (r - 1))
      · exact Ev.no (by simp) (Ev.now _)
      · exact Ev.yes rfl (Ev.to ih (by simp))
  · exact Ev.yes rfl (Ev.now _)
theorem impl_tcForm.does {t : S55} (mr : Int) (hl : t.f1.length ≤ maxLen) (hw : ∀ s ∈ t.f1, s.size ≤ maxLen) (hh : t.f2.length ≤ maxLen) {cs : List Value} {w : World} (hK : k55.K w t cs) : Calls Try.prog 128 #[.agg cs.toArray, .int .i64 mr] w fun e w' => e = .returned (.bool (tcForm t.f0 t.f1 t.f2 mr)) ∧ Below w.heap.size w w' := by
  obtain ⟨A1, c1, A2, c2, rfl, l1, g1, l2, g2⟩ := k55_open hK
  obtain ⟨k, h⟩ := (impl_tcForm.is mr hl hw hh).rounds
  exact impl_tcForm.calls k _ _ _ _ _ _ _ _ _ w g1 l1 g2 l2 h

/-! ### impl_TxOk: function 166 -/
def impl_TxOk.j0 : Nat → Bool → Int → ByteArray → ByteArray → Int → Int → Option (Bool)
  | 0, _, _, _, _, _, _ => none
  | k + 1, x24, x373000, x373001, x373002, x373003, x373004 => if x24 = true then (some false) else (if x373000 = 1 then ((impl_NameOk.f k x373002).bind fun t377 => (some t377)) else (some (x373002.toList == ([] : List UInt8))))
def impl_TxOk.f (k : Nat) (a0_0 : Int) (a0_1 : ByteArray) (a0_2 : ByteArray) (a0_3 : Int) (a0_4 : Int) : Option (Bool) := (impl_inRange.f a0_0 1 3).bind fun t373 => (if t373 = true then ((impl_NameOk.f k a0_1).bind fun t374 => (if t374 = true then ((impl_inRange.f a0_3 1 1000000).bind fun t375 => (if t375 = true then ((impl_inRange.f a0_4 0 10000).bind fun t376 => (impl_TxOk.j0 k (!t376) a0_0 a0_1 a0_2 a0_3 a0_4)) else (impl_TxOk.j0 k true a0_0 a0_1 a0_2 a0_3 a0_4))) else (impl_TxOk.j0 k true a0_0 a0_1 a0_2 a0_3 a0_4))) else (impl_TxOk.j0 k true a0_0 a0_1 a0_2 a0_3 a0_4))
theorem impl_TxOk.mono_l : ∀ k, (∀ y0 y1 y2 y3 y4 y5, LeO (impl_TxOk.j0 k y0 y1 y2 y3 y4 y5) (impl_TxOk.j0 (k + 1) y0 y1 y2 y3 y4 y5))
  | 0 => fun _ _ _ _ _ _ r h => by simp [impl_TxOk.j0] at h
  | k + 1 => by
    have ih0 := impl_TxOk.mono_l k
    · intro y0 y1 y2 y3 y4 y5
      unfold impl_TxOk.j0
      repeat' first
      | (with_reducible exact ih0 _ _ _ _ _ _)
      | (with_reducible exact impl_NameOk.mono _ _)
      | (with_reducible exact LeO.refl _)
      | (with_reducible exact LeO.none _)
      | (with_reducible refine LeO.ite ?_ ?_)
      | (with_reducible refine LeO.bind ?_ (fun _ => ?_))
      | exact ih0 _ _ _ _ _ _
      | exact impl_NameOk.mono _ _
      | exact LeO.none _
      | refine LeO.ite ?_ ?_
      | refine LeO.bind ?_ (fun _ => ?_)
theorem impl_TxOk.mono : ∀ a0 a1 a2 a3 a4 k, LeO (impl_TxOk.f k a0 a1 a2 a3 a4) (impl_TxOk.f (k + 1) a0 a1 a2 a3 a4) := by
  intro a0 a1 a2 a3 a4 k
  have ih0 := impl_TxOk.mono_l k
  unfold impl_TxOk.f
  repeat' first
      | (with_reducible exact ih0 _ _ _ _ _ _)
      | (with_reducible exact impl_NameOk.mono _ _)
      | (with_reducible exact LeO.refl _)
      | (with_reducible exact LeO.none _)
      | (with_reducible refine LeO.ite ?_ ?_)
      | (with_reducible refine LeO.bind ?_ (fun _ => ?_))
      | exact ih0 _ _ _ _ _ _
      | exact impl_NameOk.mono _ _
      | exact LeO.none _
      | refine LeO.ite ?_ ?_
      | refine LeO.bind ?_ (fun _ => ?_)
set_option maxHeartbeats 8000000 in
set_option maxRecDepth 100000 in
theorem impl_TxOk.calls (k : Nat) (a0_0 : Int) (a0_1 : ByteArray) (a0_2 : ByteArray) (a0_3 : Int) (a0_4 : Int) (r : Bool) (w : World) (h : impl_TxOk.f k a0_0 a0_1 a0_2 a0_3 a0_4 = some r) :
    Calls Try.prog 166 #[.agg #[.int .i64 a0_0, .string a0_1, .string a0_2, .int .i64 a0_3, .int .i64 a0_4]] w fun e w' => e = .returned (.bool r) ∧ Below w.heap.size w w' := by
  have hu120 := Try.underlying120
  have HB := Aside0.mk (Below.refl w.heap.size w)
  have H : ((impl_inRange.f a0_0 1 3).bind fun t373 => (if t373 = true then ((impl_NameOk.f k a0_1).bind fun t374 => (if t374 = true then ((impl_inRange.f a0_3 1 1000000).bind fun t375 => (if t375 = true then ((impl_inRange.f a0_4 0 10000).bind fun t376 => (impl_TxOk.j0 k (!t376) a0_0 a0_1 a0_2 a0_3 a0_4)) else (impl_TxOk.j0 k true a0_0 a0_1 a0_2 a0_3 a0_4))) else (impl_TxOk.j0 k true a0_0 a0_1 a0_2 a0_3 a0_4))) else (impl_TxOk.j0 k true a0_0 a0_1 a0_2 a0_3 a0_4))) = some r := h
  clear h
  have HC2 := Aside0.mk H
  clear H
  go_enter Try.func166, Try.ntmps166
  go_upto_region 1 with (first | ((with_reducible refine gate_dst (N := 1) rfl ?_); refine box_event ?hg (N := 1) ?hd (cs := #[.int .i64 a0_0, .string a0_1, .string a0_2, .int .i64 a0_3, .int .i64 a0_4]) (t := 120) ?hr ?_; (case hd => rfl); (case hg => rfl); (case hr => first | (go_simp; done) | (go_simp; rfl)); intro gb372 hg w3 hbox hb; have n0_ := Aside0.mk (below_step (by repeat (first | (with_reducible first | exact HB.out | apply below_alloc | apply pw_below_drewN | apply below_drew1) | exact HB.out)) hb); have n1_ := Aside0.mk (hbox); have n2_ := Aside0.mk ((by rw [hg]; exact (below_size (by repeat (first | (with_reducible first | exact HB.out | apply below_alloc | apply pw_below_drewN | apply below_drew1) | exact HB.out))) : w.heap.size ≤ gb372)); have n3_ := n2_; clear HB; have HB := n0_; have BK372 := n1_; have GW372 := n2_; have GE372 := n3_; clear n0_ n1_ n2_ n3_; clear hb hbox hg))
  (try simp only [Act.put, List.setIfInBounds_toArray, List.set_cons_zero, List.set_cons_succ])
  go_cut [24] (fun v24 wc => ∃ (kq : Nat) (x24_1 : Bool), v24 = .bool x24_1 ∧ Aside0 (impl_TxOk.j0 kq x24_1 a0_0 a0_1 a0_2 a0_3 a0_4 = some r) ∧ Aside0 (kq ≤ k) ∧ Aside0 (wc.heap[gb372]? = some (.cells #[.int .i64 a0_0, .string a0_1, .string a0_2, .int .i64 a0_3, .int .i64 a0_4] 120 (0, 0))) ∧ Aside0 (Below w.heap.size w wc))
  case first =>
    have H := HC2.out
    clear HC2
    replace H := Option.bind_eq_some_iff.mp H
    obtain ⟨t373, A40, H⟩ := H
    replace H : (if t373 = true then ((impl_NameOk.f k a0_1).bind fun t374 => (if t374 = true then ((impl_inRange.f a0_3 1 1000000).bind fun t375 => (if t375 = true then ((impl_inRange.f a0_4 0 10000).bind fun t376 => (impl_TxOk.j0 k (!t376) a0_0 a0_1 a0_2 a0_3 a0_4)) else (impl_TxOk.j0 k true a0_0 a0_1 a0_2 a0_3 a0_4))) else (impl_TxOk.j0 k true a0_0 a0_1 a0_2 a0_3 a0_4))) else (impl_TxOk.j0 k true a0_0 a0_1 a0_2 a0_3 a0_4)) = some r := H
    have A4 := Aside0.mk A40
    clear A40
    by_cases c5 : t373 = true
    · subst c5
      have H1 : ((impl_NameOk.f k a0_1).bind fun t374 => (if t374 = true then ((impl_inRange.f a0_3 1 1000000).bind fun t375 => (if t375 = true then ((impl_inRange.f a0_4 0 10000).bind fun t376 => (impl_TxOk.j0 k (!t376) a0_0 a0_1 a0_2 a0_3 a0_4)) else (impl_TxOk.j0 k true a0_0 a0_1 a0_2 a0_3 a0_4))) else (impl_TxOk.j0 k true a0_0 a0_1 a0_2 a0_3 a0_4))) = some r := by rw [if_pos rfl] at H; exact H
      clear H
      have H := H1
      clear H1
      replace H := Option.bind_eq_some_iff.mp H
      obtain ⟨t374, A60, H⟩ := H
      replace H : (if t374 = true then ((impl_inRange.f a0_3 1 1000000).bind fun t375 => (if t375 = true then ((impl_inRange.f a0_4 0 10000).bind fun t376 => (impl_TxOk.j0 k (!t376) a0_0 a0_1 a0_2 a0_3 a0_4)) else (impl_TxOk.j0 k true a0_0 a0_1 a0_2 a0_3 a0_4))) else (impl_TxOk.j0 k true a0_0 a0_1 a0_2 a0_3 a0_4)) = some r := H
      have A6 := Aside0.mk A60
      clear A60
      by_cases c7 : t374 = true
      · subst c7
        have H1 : ((impl_inRange.f a0_3 1 1000000).bind fun t375 => (if t375 = true then ((impl_inRange.f a0_4 0 10000).bind fun t376 => (impl_TxOk.j0 k (!t376) a0_0 a0_1 a0_2 a0_3 a0_4)) else (impl_TxOk.j0 k true a0_0 a0_1 a0_2 a0_3 a0_4))) = some r := by rw [if_pos rfl] at H; exact H
        clear H
        have H := H1
        clear H1
        replace H := Option.bind_eq_some_iff.mp H
        obtain ⟨t375, A80, H⟩ := H
        replace H : (if t375 = true then ((impl_inRange.f a0_4 0 10000).bind fun t376 => (impl_TxOk.j0 k (!t376) a0_0 a0_1 a0_2 a0_3 a0_4)) else (impl_TxOk.j0 k true a0_0 a0_1 a0_2 a0_3 a0_4)) = some r := H
        have A8 := Aside0.mk A80
        clear A80
        by_cases c9 : t375 = true
        · subst c9
          have H1 : ((impl_inRange.f a0_4 0 10000).bind fun t376 => (impl_TxOk.j0 k (!t376) a0_0 a0_1 a0_2 a0_3 a0_4)) = some r := by rw [if_pos rfl] at H; exact H
          clear H
          have H := H1
          clear H1
          replace H := Option.bind_eq_some_iff.mp H
          obtain ⟨t376, A100, H⟩ := H
          replace H : (impl_TxOk.j0 k (!t376) a0_0 a0_1 a0_2 a0_3 a0_4) = some r := H
          have A10 := Aside0.mk A100
          clear A100
          have H' := Aside0.mk H
          clear H
          obtain ⟨hcz11_0, hcz11_1, hcz11_2, hcz11_3, hcz11_4⟩ := cells5 BK372.out
          obtain ⟨hfz11_0, hfz11_1, hfz11_2, hfz11_3, hfz11_4⟩ := frozens5 BK372.out
          go_wp2_with (first | ((with_reducible refine gate_callee (f := 125) rfl ?_); refine goesL_ (some 5) rfl rfl Try.func125 (by kernel_rfl) rfl #[.int .i64 a0_0, .int .i64 1, .int .i64 3] rfl (by (try simp only [List.map_toArray, List.map_cons, List.map_nil]); first | done | rfl | (simp only [List.length_drop, List.length_take]; rfl)) ?_; (with_reducible refine (impl_inRange.calls a0_0 1 3 true _ A4.out).mono ?_); rintro e w' ⟨rfl, ⟨nd, rfl⟩⟩; refine ⟨_, rfl, ?_⟩) | (go_at_call 126; (with_reducible refine (impl_NameOk.calls k a0_1 true _ A6.out).mono ?_); rintro e w' ⟨rfl, ⟨nd, rfl⟩⟩) | (go_at_call 125; (with_reducible refine (impl_inRange.calls a0_3 1 1000000 true _ A8.out).mono ?_); rintro e w' ⟨rfl, ⟨nd, rfl⟩⟩) | (go_at_call 125; (with_reducible refine (impl_inRange.calls a0_4 0 10000 t376 _ A10.out).mono ?_); rintro e w' ⟨rfl, ⟨nd, rfl⟩⟩))
          go_meet
          case rel => exact ⟨_, (!t376), (by first | rfl | (simp; done) | (simp [*]; done)), H', ⟨by first | omega | exact Nat.le_refl _⟩, ⟨by (with_reducible repeat (first | refine blk_drewN ?_ _ | refine blk_drew ?_ | refine blk_alloc ?_ _)); exact BK372.out⟩, ⟨by repeat (first | (with_reducible first | exact HB.out | apply below_alloc | apply pw_below_drewN | apply below_drew1 | refine below_set ?_ GE372.out) | exact HB.out)⟩⟩
        · replace c9 := Bool.eq_false_iff.mpr c9
          subst c9
          have H1 : (impl_TxOk.j0 k true a0_0 a0_1 a0_2 a0_3 a0_4) = some r := by rw [if_neg (show ¬ (false = true) by decide)] at H; exact H
          clear H
          have H := H1
          clear H1
          have H' := Aside0.mk H
          clear H
          obtain ⟨hcz12_0, hcz12_1, hcz12_2, hcz12_3, hcz12_4⟩ := cells5 BK372.out
          obtain ⟨hfz12_0, hfz12_1, hfz12_2, hfz12_3, hfz12_4⟩ := frozens5 BK372.out
          go_wp2_with (first | ((with_reducible refine gate_callee (f := 125) rfl ?_); refine goesL_ (some 5) rfl rfl Try.func125 (by kernel_rfl) rfl #[.int .i64 a0_0, .int .i64 1, .int .i64 3] rfl (by (try simp only [List.map_toArray, List.map_cons, List.map_nil]); first | done | rfl | (simp only [List.length_drop, List.length_take]; rfl)) ?_; (with_reducible refine (impl_inRange.calls a0_0 1 3 true _ A4.out).mono ?_); rintro e w' ⟨rfl, ⟨nd, rfl⟩⟩; refine ⟨_, rfl, ?_⟩) | (go_at_call 126; (with_reducible refine (impl_NameOk.calls k a0_1 true _ A6.out).mono ?_); rintro e w' ⟨rfl, ⟨nd, rfl⟩⟩) | (go_at_call 125; (with_reducible refine (impl_inRange.calls a0_3 1 1000000 false _ A8.out).mono ?_); rintro e w' ⟨rfl, ⟨nd, rfl⟩⟩))
          go_meet
          case rel => exact ⟨_, (true), (by first | rfl | (simp; done) | (simp [*]; done)), H', ⟨by first | omega | exact Nat.le_refl _⟩, ⟨by (with_reducible repeat (first | refine blk_drewN ?_ _ | refine blk_drew ?_ | refine blk_alloc ?_ _)); exact BK372.out⟩, ⟨by repeat (first | (with_reducible first | exact HB.out | apply below_alloc | apply pw_below_drewN | apply below_drew1 | refine below_set ?_ GE372.out) | exact HB.out)⟩⟩
      · replace c7 := Bool.eq_false_iff.mpr c7
        subst c7
        have H1 : (impl_TxOk.j0 k true a0_0 a0_1 a0_2 a0_3 a0_4) = some r := by rw [if_neg (show ¬ (false = true) by decide)] at H; exact H
        clear H
        have H := H1
        clear H1
        have H' := Aside0.mk H
        clear H
        obtain ⟨hcz13_0, hcz13_1, hcz13_2, hcz13_3, hcz13_4⟩ := cells5 BK372.out
        obtain ⟨hfz13_0, hfz13_1, hfz13_2, hfz13_3, hfz13_4⟩ := frozens5 BK372.out
        go_wp2_with (first | ((with_reducible refine gate_callee (f := 125) rfl ?_); refine goesL_ (some 5) rfl rfl Try.func125 (by kernel_rfl) rfl #[.int .i64 a0_0, .int .i64 1, .int .i64 3] rfl (by (try simp only [List.map_toArray, List.map_cons, List.map_nil]); first | done | rfl | (simp only [List.length_drop, List.length_take]; rfl)) ?_; (with_reducible refine (impl_inRange.calls a0_0 1 3 true _ A4.out).mono ?_); rintro e w' ⟨rfl, ⟨nd, rfl⟩⟩; refine ⟨_, rfl, ?_⟩) | (go_at_call 126; (with_reducible refine (impl_NameOk.calls k a0_1 false _ A6.out).mono ?_); rintro e w' ⟨rfl, ⟨nd, rfl⟩⟩))
        go_meet
        case rel => exact ⟨_, (true), (by first | rfl | (simp; done) | (simp [*]; done)), H', ⟨by first | omega | exact Nat.le_refl _⟩, ⟨by (with_reducible repeat (first | refine blk_drewN ?_ _ | refine blk_drew ?_ | refine blk_alloc ?_ _)); exact BK372.out⟩, ⟨by repeat (first | (with_reducible first | exact HB.out | apply below_alloc | apply pw_below_drewN | apply below_drew1 | refine below_set ?_ GE372.out) | exact HB.out)⟩⟩
    · replace c5 := Bool.eq_false_iff.mpr c5
      subst c5
      have H1 : (impl_TxOk.j0 k true a0_0 a0_1 a0_2 a0_3 a0_4) = some r := by rw [if_neg (show ¬ (false = true) by decide)] at H; exact H
      clear H
      have H := H1
      clear H1
      have H' := Aside0.mk H
      clear H
      obtain ⟨hcz14_0, hcz14_1, hcz14_2, hcz14_3, hcz14_4⟩ := cells5 BK372.out
      obtain ⟨hfz14_0, hfz14_1, hfz14_2, hfz14_3, hfz14_4⟩ := frozens5 BK372.out
      go_wp2_with (first | ((with_reducible refine gate_callee (f := 125) rfl ?_); refine goesL_ (some 5) rfl rfl Try.func125 (by kernel_rfl) rfl #[.int .i64 a0_0, .int .i64 1, .int .i64 3] rfl (by (try simp only [List.map_toArray, List.map_cons, List.map_nil]); first | done | rfl | (simp only [List.length_drop, List.length_take]; rfl)) ?_; (with_reducible refine (impl_inRange.calls a0_0 1 3 false _ A4.out).mono ?_); rintro e w' ⟨rfl, ⟨nd, rfl⟩⟩; refine ⟨_, rfl, ?_⟩))
      go_meet
      case rel => exact ⟨_, (true), (by first | rfl | (simp; done) | (simp [*]; done)), H', ⟨by first | omega | exact Nat.le_refl _⟩, ⟨by (with_reducible repeat (first | refine blk_drewN ?_ _ | refine blk_drew ?_ | refine blk_alloc ?_ _)); exact BK372.out⟩, ⟨by repeat (first | (with_reducible first | exact HB.out | apply below_alloc | apply pw_below_drewN | apply below_drew1 | refine below_set ?_ GE372.out) | exact HB.out)⟩⟩
  case rest =>
    clear HC2
    try clear c1
    try clear p2
    try clear c5
    try clear c7
    try clear c9
    try clear c12
    try clear hcz11_0
    try clear hcz11_1
    try clear hcz11_2
    try clear hcz11_3
    try clear hcz11_4
    try clear hcz12_0
    try clear hcz12_1
    try clear hcz12_2
    try clear hcz12_3
    try clear hcz12_4
    try clear hcz13_0
    try clear hcz13_1
    try clear hcz13_2
    try clear hcz13_3
    try clear hcz13_4
    try clear hcz14_0
    try clear hcz14_1
    try clear hcz14_2
    try clear hcz14_3
    try clear hcz14_4
    try clear hfz11_0
    try clear hfz11_1
    try clear hfz11_2
    try clear hfz11_3
    try clear hfz11_4
    try clear hfz12_0
    try clear hfz12_1
    try clear hfz12_2
    try clear hfz12_3
    try clear hfz12_4
    try clear hfz13_0
    try clear hfz13_1
    try clear hfz13_2
    try clear hfz13_3
    try clear hfz13_4
    try clear hfz14_0
    try clear hfz14_1
    try clear hfz14_2
    try clear hfz14_3
    try clear hfz14_4
    obtain ⟨kq, x24_1, rfl, HA, HJ1, BK372, HB⟩ := hcut
    cases kq with
    | zero => exact absurd HA.out (by simp [impl_TxOk.j0])
    | succ kj1 =>
      have H := HA.out
      clear HA
      simp only [impl_TxOk.j0] at H
      by_cases c15 : x24_1 = true
      · subst c15
        have H1 : (some false) = some r := by rw [if_pos rfl] at H; exact H
        clear H
        have H := H1
        clear H1
        obtain rfl := Option.some.inj H
        go_wp2
        go_ret
        exact ⟨by first | rfl | (simp [errW_none, errW_some] <;> rfl) | (simp [*, errW_none, errW_some] <;> rfl), by repeat (first | (with_reducible first | exact HB.out | apply below_alloc | apply pw_below_drewN | apply below_drew1 | refine below_set ?_ GE372.out) | exact HB.out)⟩
      · replace c15 := Bool.eq_false_iff.mpr c15
        subst c15
        have H1 : (if a0_0 = 1 then ((impl_NameOk.f kj1 a0_2).bind fun t377 => (some t377)) else (some (a0_2.toList == ([] : List UInt8)))) = some r := by rw [if_neg (show ¬ (false = true) by decide)] at H; exact H
        clear H
        have H := H1
        clear H1
        by_cases c16 : a0_0 = 1
        · rw [if_pos c16] at H
          have c16b0 : (a0_0 == 1) = true := beq_iff_eq.mpr c16
          have c16b1 : (a0_0 != 1) = false := bne_eq_false_iff_eq.mpr c16
          clear c16
          replace H := Option.bind_eq_some_iff.mp H
          obtain ⟨t377, A170, H⟩ := H
          replace H : (some t377) = some r := H
          have A17 := Aside0.mk A170
          clear A170
          obtain rfl := Option.some.inj H
          obtain ⟨hcz18_0, hcz18_1, hcz18_2, hcz18_3, hcz18_4⟩ := cells5 BK372.out
          obtain ⟨hfz18_0, hfz18_1, hfz18_2, hfz18_3, hfz18_4⟩ := frozens5 BK372.out
          go_wp2_with (first | ((with_reducible refine gate_callee (f := 126) rfl ?_); refine goesL_ (some 30) rfl rfl Try.func126 (by kernel_rfl) rfl #[.string a0_2] rfl (by (try simp only [List.map_toArray, List.map_cons, List.map_nil]); first | done | rfl | (simp only [List.length_drop, List.length_take]; rfl)) ?_; (with_reducible refine (impl_NameOk.calls kj1 a0_2 t377 _ A17.out).mono ?_); rintro e w' ⟨rfl, ⟨nd, rfl⟩⟩; refine ⟨_, rfl, ?_⟩))
          go_ret
          exact ⟨by first | rfl | (simp [errW_none, errW_some] <;> rfl) | (simp [*, errW_none, errW_some] <;> rfl), by repeat (first | (with_reducible first | exact HB.out | apply below_alloc | apply pw_below_drewN | apply below_drew1 | refine below_set ?_ GE372.out) | exact HB.out)⟩
        · rw [if_neg c16] at H
          have c16b0 : (a0_0 == 1) = false := beq_eq_false_iff_ne.mpr c16
          have c16b1 : (a0_0 != 1) = true := bne_iff_ne.mpr c16
          obtain rfl := Option.some.inj H
          obtain ⟨hcz19_0, hcz19_1, hcz19_2, hcz19_3, hcz19_4⟩ := cells5 BK372.out
          obtain ⟨hfz19_0, hfz19_1, hfz19_2, hfz19_3, hfz19_4⟩ := frozens5 BK372.out
          go_wp2
          go_ret
          exact ⟨by first | rfl | (simp [errW_none, errW_some] <;> rfl) | (simp [*, errW_none, errW_some] <;> rfl), by repeat (first | (with_reducible first | exact HB.out | apply below_alloc | apply pw_below_drewN | apply below_drew1 | refine below_set ?_ GE372.out) | exact HB.out)⟩

theorem impl_TxOk.is {t : S120} (h1 : t.f1.size ≤ maxLen) (h2 : t.f2.size ≤ maxLen) : Ev (fun k => impl_TxOk.f k t.f0 t.f1 t.f2 t.f3 t.f4) (txOk t) := by
  have no : Ev (fun k => impl_TxOk.j0 k true t.f0 t.f1 t.f2 t.f3 t.f4) false := Ev.up (by simp only [impl_TxOk.j0]; exact Ev.yes (by first | trivial | rfl) (Ev.now _))
  unfold impl_TxOk.f txOk
  simp only [impl_inRange.is, Option.bind_some]
  cases inR t.f0 1 3
  · exact Ev.no (by simp) (Ev.to no (by simp))
  · refine Ev.yes rfl (Ev.bind (impl_NameOk.is h1) ?_)
    cases nameOk t.f1
    · exact Ev.no (by simp) (Ev.to no (by simp))
    · refine Ev.yes rfl ?_
      cases inR t.f3 1 1000000
      · exact Ev.no (by simp) (Ev.to no (by simp))
      · refine Ev.yes rfl ?_
        cases inR t.f4 0 10000
        · exact Ev.to no (by simp)
        · refine Ev.up ?_
          simp only [impl_TxOk.j0, Bool.not_true]
          refine Ev.no (by simp) (Ev.cond (fun hk => ?_) (fun hk => ?_))
          · refine Ev.bind (impl_NameOk.is h2) (Ev.is ?_)
            rw [if_pos hk]
            simp
          · rw [if_neg hk]
            exact Ev.is (by simp)
theorem impl_TxOk.does {t : S120} (h1 : t.f1.size ≤ maxLen) (h2 : t.f2.size ≤ maxLen) (w : World) : Calls Try.prog 166 #[.agg #[.int .i64 t.f0, .string t.f1, .string t.f2, .int .i64 t.f3, .int .i64 t.f4]] w fun e w' => e = .returned (.bool (txOk t)) ∧ Below w.heap.size w w' := by
  obtain ⟨k, h⟩ := (impl_TxOk.is h1 h2).rounds
  exact impl_TxOk.calls k _ _ _ _ _ _ w h

/-! ### impl_txsOk: function 129 -/
def impl_txsOk.l0 : Nat → List (S120) → Int → Int → Option (Bool)
  | 0, _, _, _ => none
  | k + 1, x5, x6, x7 => if x7 < x6 then (if 0 ≤ x7 then (if x7 < (x5.length : Int) then ((impl_TxOk.f k ((rd_T120 x5 x7).f0) ((rd_T120 x5 x7).f1) ((rd_T120 x5 x7).f2) ((rd_T120 x5 x7).f3) ((rd_T120 x5 x7).f4)).bind fun t380 => (if t380 = true then (impl_txsOk.l0 k x5 x6 (wrap64 (x7 + 1))) else (some false))) else (none)) else (none)) else (some true)
def impl_txsOk.f (k : Nat) (l0 : List (S120)) : Option (Bool) := impl_txsOk.l0 k l0 (l0.length : Int) 0
theorem impl_txsOk.mono_l : ∀ k, (∀ y0 y1 y2, LeO (impl_txsOk.l0 k y0 y1 y2) (impl_txsOk.l0 (k + 1) y0 y1 y2))
  | 0 => fun _ _ _ r h => by simp [impl_txsOk.l0] at h
  | k + 1 => by
    have ih0 := impl_txsOk.mono_l k
    · intro y0 y1 y2
      unfold impl_txsOk.l0
      repeat' first
      | (with_reducible exact ih0 _ _ _)
      | (with_reducible exact impl_TxOk.mono _ _ _ _ _ _)
      | (with_reducible exact LeO.refl _)
      | (with_reducible exact LeO.none _)
      | (with_reducible refine LeO.ite ?_ ?_)
      | (with_reducible refine LeO.bind ?_ (fun _ => ?_))
      | exact ih0 _ _ _
      | exact impl_TxOk.mono _ _ _ _ _ _
      | exact LeO.none _
      | refine LeO.ite ?_ ?_
      | refine LeO.bind ?_ (fun _ => ?_)
theorem impl_txsOk.mono : ∀ a0 k, LeO (impl_txsOk.f k a0) (impl_txsOk.f (k + 1) a0) := by
  intro a0 k
  have ih0 := impl_txsOk.mono_l k
  unfold impl_txsOk.f
  repeat' first
      | (with_reducible exact ih0 _ _ _)
      | (with_reducible exact impl_TxOk.mono _ _ _ _ _ _)
      | (with_reducible exact LeO.refl _)
      | (with_reducible exact LeO.none _)
      | (with_reducible refine LeO.ite ?_ ?_)
      | (with_reducible refine LeO.bind ?_ (fun _ => ?_))
      | exact ih0 _ _ _
      | exact impl_TxOk.mono _ _ _ _ _ _
      | exact LeO.none _
      | refine LeO.ite ?_ ?_
      | refine LeO.bind ?_ (fun _ => ?_)
set_option maxHeartbeats 8000000 in
set_option maxRecDepth 100000 in
theorem impl_txsOk.calls (k : Nat) (A0 : Option Addr) (c0 : Nat) (l0 : List (S120)) (r : Bool) (w : World) (hr0 : Kd.C k120 w A0 l0.length l0) (hc0 : l0.length ≤ c0) (h : impl_txsOk.f k l0 = some r) :
    Calls Try.prog 129 #[.slice A0 l0.length c0] w fun e w' => e = .returned (.bool r) ∧ Below w.heap.size w w' := by
  have hu120 := Try.underlying120
  have HR0 := Aside0.mk hr0
  have HC0 := Aside0.mk hc0
  clear hr0 hc0
  have HB := Aside0.mk (Below.refl w.heap.size w)
  have H : (impl_txsOk.l0 k l0 (l0.length : Int) 0) = some r := h
  clear h
  have H' := Aside0.mk H
  clear H
  go_enter Try.func129, Try.ntmps129
  go_wp2
  go_loopg [7] k (fun kq v7 w' => ∃ (x7_1 : Int), v7 = .int .i64 x7_1 ∧ Aside0 (impl_txsOk.l0 kq l0 (l0.length : Int) x7_1 = some r) ∧ Aside0 (kq ≤ k) ∧ Aside0 (Below w.heap.size w w'))
  case atStart => exact ⟨(0), (by first | rfl | (simp; done) | (simp [*]; done)), H', ⟨Nat.le_refl _⟩, ⟨by repeat (first | (with_reducible first | exact HB.out | apply below_alloc | apply pw_below_drewN | apply below_drew1) | exact HB.out)⟩⟩
  case round =>
    clear H'
    try clear c1
    obtain ⟨x7_1, rfl, HA, HK1, HB⟩ := hrel
    cases gk with
    | zero => exact absurd HA.out (by simp [impl_txsOk.l0])
    | succ k1 =>
      have H := HA.out
      clear HA
      simp only [impl_txsOk.l0] at H
      by_cases c2 : x7_1 < (l0.length : Int)
      · rw [if_pos c2] at H
        have c2b0 : decide (x7_1 < (l0.length : Int)) = true := decide_eq_true c2
        clear c2
        by_cases c3 : 0 ≤ x7_1
        · rw [if_pos c3] at H
          have c3b0 : decide (0 ≤ x7_1) = true := decide_eq_true c3
          clear c3
          by_cases c4 : x7_1 < (l0.length : Int)
          · rw [if_pos c4] at H
            have c4b0 : decide (x7_1 < (l0.length : Int)) = true := decide_eq_true c4
            clear c4
            replace H := Option.bind_eq_some_iff.mp H
            obtain ⟨t380, A50, H⟩ := H
            replace H : (if t380 = true then (impl_txsOk.l0 k1 l0 (l0.length : Int) (wrap64 (x7_1 + 1))) else (some false)) = some r := H
            have A5 := Aside0.mk A50
            clear A50
            by_cases c6 : t380 = true
            · subst c6
              have H1 : (impl_txsOk.l0 k1 l0 (l0.length : Int) (wrap64 (x7_1 + 1))) = some r := by rw [if_pos rfl] at H; exact H
              clear H
              have H := H1
              clear H1
              have H' := Aside0.mk H
              clear H
              have p378 : 0 ≤ (x7_1 : Int) := of_decide_eq_true (by first | (with_reducible assumption) | assumption)
              have q378 : x7_1 < (l0.length : Int) := of_decide_eq_true (by first | (with_reducible assumption) | assumption)
              obtain ⟨ad378, e378, hx378_0, hx378_1, hx378_2, hx378_3, hx378_4⟩ := at_T120 HR0.out x7_1 p378 q378
              cases e378
              replace hx378_0 := (HB.out.cell (World.block_lt_of_cell? w _ hx378_0)).trans hx378_0
              replace hx378_1 := (HB.out.cell (World.block_lt_of_cell? w _ hx378_1)).trans hx378_1
              replace hx378_2 := (HB.out.cell (World.block_lt_of_cell? w _ hx378_2)).trans hx378_2
              replace hx378_3 := (HB.out.cell (World.block_lt_of_cell? w _ hx378_3)).trans hx378_3
              replace hx378_4 := (HB.out.cell (World.block_lt_of_cell? w _ hx378_4)).trans hx378_4
              replace p378 := eq_true p378
              replace q378 := eq_true q378
              go_wp2_with (first | ((with_reducible refine gate_dst (N := 4) rfl ?_); refine box_event ?hg (N := 4) ?hd (cs := #[.int .i64 0, .string (⟨#[]⟩ : ByteArray), .string (⟨#[]⟩ : ByteArray), .int .i64 0, .int .i64 0]) (t := 120) ?hr ?_; (case hd => rfl); (case hg => rfl); (case hr => first | (go_simp; done) | (go_simp; rfl)); intro gb379 hg w7 hbox hb; have n0_ := Aside0.mk (below_step (by repeat (first | (with_reducible first | exact HB.out | apply below_alloc | apply pw_below_drewN | apply below_drew1) | exact HB.out)) hb); have n1_ := Aside0.mk (hbox); have n2_ := Aside0.mk ((by rw [hg]; exact (below_size (by repeat (first | (with_reducible first | exact HB.out | apply below_alloc | apply pw_below_drewN | apply below_drew1) | exact HB.out))) : w.heap.size ≤ gb379)); have n3_ := n2_; clear HB; have HB := n0_; have BK379 := n1_; have GW379 := n2_; have GE379 := n3_; clear n0_ n1_ n2_ n3_; clear hb hbox hg; obtain ⟨hcz8_0, hcz8_1, hcz8_2, hcz8_3, hcz8_4⟩ := cells5 BK379.out; obtain ⟨hfz8_0, hfz8_1, hfz8_2, hfz8_3, hfz8_4⟩ := frozens5 BK379.out) | ((with_reducible refine gate_callee (f := 166) rfl ?_); refine goesL_ (some 12) rfl rfl Try.func166 (by kernel_rfl) rfl #[.agg #[.int .i64 ((rd_T120 l0 x7_1).f0), .string ((rd_T120 l0 x7_1).f1), .string ((rd_T120 l0 x7_1).f2), .int .i64 ((rd_T120 l0 x7_1).f3), .int .i64 ((rd_T120 l0 x7_1).f4)]] rfl (by (try simp only [List.map_toArray, List.map_cons, List.map_nil]); first | done | rfl | (simp only [List.length_drop, List.length_take]; rfl)) ?_; (with_reducible refine (impl_TxOk.calls k1 ((rd_T120 l0 x7_1).f0) ((rd_T120 l0 x7_1).f1) ((rd_T120 l0 x7_1).f2) ((rd_T120 l0 x7_1).f3) ((rd_T120 l0 x7_1).f4) true _ A5.out).mono ?_); rintro e w9 ⟨rfl, hb⟩; refine ⟨_, rfl, ?_⟩; have n0_ := Aside0.mk (blk_below (g := gb379) (o := .cells #[.int .i64 ((rd_T120 l0 x7_1).f0), .string ((rd_T120 l0 x7_1).f1), .string ((rd_T120 l0 x7_1).f2), .int .i64 ((rd_T120 l0 x7_1).f3), .int .i64 ((rd_T120 l0 x7_1).f4)] 120 (0, 0)) (by (with_reducible repeat (first | refine blk_drewN ?_ _ | refine blk_drew ?_ | refine blk_alloc ?_ _)); refine blk_put (cs := #[.int .i64 ((rd_T120 l0 x7_1).f0), .string ((rd_T120 l0 x7_1).f1), .string ((rd_T120 l0 x7_1).f2), .int .i64 ((rd_T120 l0 x7_1).f3), .int .i64 0]) ?_ 4 _ rfl; (with_reducible repeat (first | refine blk_drewN ?_ _ | refine blk_drew ?_ | refine blk_alloc ?_ _)); refine blk_put (cs := #[.int .i64 ((rd_T120 l0 x7_1).f0), .string ((rd_T120 l0 x7_1).f1), .string ((rd_T120 l0 x7_1).f2), .int .i64 0, .int .i64 0]) ?_ 3 _ rfl; (with_reducible repeat (first | refine blk_drewN ?_ _ | refine blk_drew ?_ | refine blk_alloc ?_ _)); refine blk_put (cs := #[.int .i64 ((rd_T120 l0 x7_1).f0), .string ((rd_T120 l0 x7_1).f1), .string (⟨#[]⟩ : ByteArray), .int .i64 0, .int .i64 0]) ?_ 2 _ rfl; (with_reducible repeat (first | refine blk_drewN ?_ _ | refine blk_drew ?_ | refine blk_alloc ?_ _)); refine blk_put (cs := #[.int .i64 ((rd_T120 l0 x7_1).f0), .string (⟨#[]⟩ : ByteArray), .string (⟨#[]⟩ : ByteArray), .int .i64 0, .int .i64 0]) ?_ 1 _ rfl; (with_reducible repeat (first | refine blk_drewN ?_ _ | refine blk_drew ?_ | refine blk_alloc ?_ _)); refine blk_put (cs := #[.int .i64 0, .string (⟨#[]⟩ : ByteArray), .string (⟨#[]⟩ : ByteArray), .int .i64 0, .int .i64 0]) ?_ 0 _ rfl; (with_reducible repeat (first | refine blk_drewN ?_ _ | refine blk_drew ?_ | refine blk_alloc ?_ _)); exact BK379.out) hb); have n1_ := Aside0.mk (below_step (by repeat (first | (with_reducible first | exact HB.out | apply below_alloc | apply pw_below_drewN | apply below_drew1 | refine below_set ?_ GE379.out) | exact HB.out)) hb); clear BK379; clear HB; have BK379 := n0_; have HB := n1_; clear n0_ n1_; (try clear hb); (try clear hb2); (try clear hk); (try clear hi)))
              go_roundg k1
              case measure => have := HK1.out; omega
              case rel => exact ⟨(wrap64 (x7_1 + 1)), (by first | rfl | (simp; done) | (simp [*]; done)), H', ⟨by have := HK1.out; omega⟩, ⟨by repeat (first | (with_reducible first | exact HB.out | apply below_alloc | apply pw_below_drewN | apply below_drew1 | refine below_set ?_ GE379.out) | exact HB.out)⟩⟩
            · replace c6 := Bool.eq_false_iff.mpr c6
              subst c6
              have H1 : (some false) = some r := by rw [if_neg (show ¬ (false = true) by decide)] at H; exact H
              clear H
              have H := H1
              clear H1
              obtain rfl := Option.some.inj H
              have p378 : 0 ≤ (x7_1 : Int) := of_decide_eq_true (by first | (with_reducible assumption) | assumption)
              have q378 : x7_1 < (l0.length : Int) := of_decide_eq_true (by first | (with_reducible assumption) | assumption)
              obtain ⟨ad378, e378, hx378_0, hx378_1, hx378_2, hx378_3, hx378_4⟩ := at_T120 HR0.out x7_1 p378 q378
              cases e378
              replace hx378_0 := (HB.out.cell (World.block_lt_of_cell? w _ hx378_0)).trans hx378_0
              replace hx378_1 := (HB.out.cell (World.block_lt_of_cell? w _ hx378_1)).trans hx378_1
              replace hx378_2 := (HB.out.cell (World.block_lt_of_cell? w _ hx378_2)).trans hx378_2
              replace hx378_3 := (HB.out.cell (World.block_lt_of_cell? w _ hx378_3)).trans hx378_3
              replace hx378_4 := (HB.out.cell (World.block_lt_of_cell? w _ hx378_4)).trans hx378_4
              replace p378 := eq_true p378
              replace q378 := eq_true q378
              go_wp2_with (first | ((with_reducible refine gate_dst (N := 4) rfl ?_); refine box_event ?hg (N := 4) ?hd (cs := #[.int .i64 0, .string (⟨#[]⟩ : ByteArray), .string (⟨#[]⟩ : ByteArray), .int .i64 0, .int .i64 0]) (t := 120) ?hr ?_; (case hd => rfl); (case hg => rfl); (case hr => first | (go_simp; done) | (go_simp; rfl)); intro gb379 hg w10 hbox hb; have n0_ := Aside0.mk (below_step (by repeat (first | (with_reducible first | exact HB.out | apply below_alloc | apply pw_below_drewN | apply below_drew1) | exact HB.out)) hb); have n1_ := Aside0.mk (hbox); have n2_ := Aside0.mk ((by rw [hg]; exact (below_size (by repeat (first | (with_reducible first | exact HB.out | apply below_alloc | apply pw_below_drewN | apply below_drew1) | exact HB.out))) : w.heap.size ≤ gb379)); have n3_ := n2_; clear HB; have HB := n0_; have BK379 := n1_; have GW379 := n2_; have GE379 := n3_; clear n0_ n1_ n2_ n3_; clear hb hbox hg; obtain ⟨hcz11_0, hcz11_1, hcz11_2, hcz11_3, hcz11_4⟩ := cells5 BK379.out; obtain ⟨hfz11_0, hfz11_1, hfz11_2, hfz11_3, hfz11_4⟩ := frozens5 BK379.out) | ((with_reducible refine gate_callee (f := 166) rfl ?_); refine goesL_ (some 12) rfl rfl Try.func166 (by kernel_rfl) rfl #[.agg #[.int .i64 ((rd_T120 l0 x7_1).f0), .string ((rd_T120 l0 x7_1).f1), .string ((rd_T120 l0 x7_1).f2), .int .i64 ((rd_T120 l0 x7_1).f3), .int .i64 ((rd_T120 l0 x7_1).f4)]] rfl (by (try simp only [List.map_toArray, List.map_cons, List.map_nil]); first | done | rfl | (simp only [List.length_drop, List.length_take]; rfl)) ?_; (with_reducible refine (impl_TxOk.calls k1 ((rd_T120 l0 x7_1).f0) ((rd_T120 l0 x7_1).f1) ((rd_T120 l0 x7_1).f2) ((rd_T120 l0 x7_1).f3) ((rd_T120 l0 x7_1).f4) false _ A5.out).mono ?_); rintro e w12 ⟨rfl, hb⟩; refine ⟨_, rfl, ?_⟩; have n0_ := Aside0.mk (blk_below (g := gb379) (o := .cells #[.int .i64 ((rd_T120 l0 x7_1).f0), .string ((rd_T120 l0 x7_1).f1), .string ((rd_T120 l0 x7_1).f2), .int .i64 ((rd_T120 l0 x7_1).f3), .int .i64 ((rd_T120 l0 x7_1).f4)] 120 (0, 0)) (by (with_reducible repeat (first | refine blk_drewN ?_ _ | refine blk_drew ?_ | refine blk_alloc ?_ _)); refine blk_put (cs := #[.int .i64 ((rd_T120 l0 x7_1).f0), .string ((rd_T120 l0 x7_1).f1), .string ((rd_T120 l0 x7_1).f2), .int .i64 ((rd_T120 l0 x7_1).f3), .int .i64 0]) ?_ 4 _ rfl; (with_reducible repeat (first | refine blk_drewN ?_ _ | refine blk_drew ?_ | refine blk_alloc ?_ _)); refine blk_put (cs := #[.int .i64 ((rd_T120 l0 x7_1).f0), .string ((rd_T120 l0 x7_1).f1), .string ((rd_T120 l0 x7_1).f2), .int .i64 0, .int .i64 0]) ?_ 3 _ rfl; (with_reducible repeat (first | refine blk_drewN ?_ _ | refine blk_drew ?_ | refine blk_alloc ?_ _)); refine blk_put (cs := #[.int .i64 ((rd_T120 l0 x7_1).f0), .string ((rd_T120 l0 x7_1).f1), .string (⟨#[]⟩ : ByteArray), .int .i64 0, .int .i64 0]) ?_ 2 _ rfl; (with_reducible repeat (first | refine blk_drewN ?_ _ | refine blk_drew ?_ | refine blk_alloc ?_ _)); refine blk_put (cs := #[.int .i64 ((rd_T120 l0 x7_1).f0), .string (⟨#[]⟩ : ByteArray), .string (⟨#[]⟩ : ByteArray), .int .i64 0, .int .i64 0]) ?_ 1 _ rfl; (with_reducible repeat (first | refine blk_drewN ?_ _ | refine blk_drew ?_ | refine blk_alloc ?_ _)); refine blk_put (cs := #[.int .i64 0, .string (⟨#[]⟩ : ByteArray), .string (⟨#[]⟩ : ByteArray), .int .i64 0, .int .i64 0]) ?_ 0 _ rfl; (with_reducible repeat (first | refine blk_drewN ?_ _ | refine blk_drew ?_ | refine blk_alloc ?_ _)); exact BK379.out) hb); have n1_ := Aside0.mk (below_step (by repeat (first | (with_reducible first | exact HB.out | apply below_alloc | apply pw_below_drewN | apply below_drew1 | refine below_set ?_ GE379.out) | exact HB.out)) hb); clear BK379; clear HB; have BK379 := n0_; have HB := n1_; clear n0_ n1_; (try clear hb); (try clear hb2); (try clear hk); (try clear hi)))
              go_ret
              exact ⟨by first | rfl | (simp [errW_none, errW_some] <;> rfl) | (simp [*, errW_none, errW_some] <;> rfl), by repeat (first | (with_reducible first | exact HB.out | apply below_alloc | apply pw_below_drewN | apply below_drew1 | refine below_set ?_ GE379.out) | exact HB.out)⟩
          · rw [if_neg c4] at H
            exact absurd H (by simp)
        · rw [if_neg c3] at H
          exact absurd H (by simp)
      · rw [if_neg c2] at H
        have c2b0 : decide (x7_1 < (l0.length : Int)) = false := decide_eq_false c2
        clear c2
        obtain rfl := Option.some.inj H
        go_wp2
        go_ret
        exact ⟨by first | rfl | (simp [errW_none, errW_some] <;> rfl) | (simp [*, errW_none, errW_some] <;> rfl), by repeat (first | (with_reducible first | exact HB.out | apply below_alloc | apply pw_below_drewN | apply below_drew1) | exact HB.out)⟩

theorem impl_txsOk.is {l : List S120} (hx : l.length ≤ maxLen) (hxs : ∀ t ∈ l, t.f1.size ≤ maxLen ∧ t.f2.size ≤ maxLen) : Ev (fun k => impl_txsOk.f k l) (allUpto l.length (fun i => txOk (rd_T120 l (i : Int)))) := by
  have hm : maxLen = 9223372036854775807 := rfl
  unfold impl_txsOk.f
  refine Ev.to (ev_all (tail := true) (fun k i => impl_txsOk.l0 k l l.length i) ?_ (fun i hi r' ih => ?_)) (Bool.and_true _)
  · simp only [impl_txsOk.l0]
    exact Ev.no (by omega) (Ev.now _)
  · simp only [impl_txsOk.l0]
    refine Ev.yes (by omega) (Ev.yes (by omega) (Ev.yes (by omega) ?_))
    rw [unw (x := (i : Int) + 1) (by omega) (by omega)]
    have hmem := hxs (rd_T120 l (i : Int)) (getD_mem (by omega) _)
    refine Ev.bind (impl_TxOk.is hmem.1 hmem.2) (Ev.cond (fun hc => Ev.to ih (by rw [hc]; simp)) (fun hc => Ev.is (by rw [Bool.eq_false_iff.2 hc]; simp)))
theorem impl_txsOk.does {l : List S120} (hx : l.length ≤ maxLen) (hxs : ∀ t ∈ l, t.f1.size ≤ maxLen ∧ t.f2.size ≤ maxLen) {B : Option Addr} {c : Nat} {w : World} (hr : Kd.C k120 w B l.length l) (hc : l.length ≤ c) : Calls Try.prog 129 #[.slice B l.length c] w fun e w' => e = .returned (.bool (allUpto l.length (fun i => txOk (rd_T120 l (i : Int))))) ∧ Below w.heap.size w w' := by
  obtain ⟨k, h⟩ := (impl_txsOk.is hx hxs).rounds
  exact (impl_txsOk.calls (hr0 := hr) (hc0 := hc) (h := h)).mono fun _ _ ⟨a, b⟩ => ⟨a, b⟩

/-! ### impl_SetOk: walked in this session -/
set_option maxHeartbeats 1000000 in
set_option maxRecDepth 100000 in
theorem impl_SetOk.does {l : List S122} (hl : l.length ≤ maxLen) (hw : ∀ v ∈ l, v.f0.size ≤ maxLen) {B : Option Addr} {c : Nat} {w : World} (hr : Kd.C k122 w B l.length l) (hc : l.length ≤ c) :
    Calls Try.prog 130 #[.slice B l.length c] w fun e w' => e = .returned (.bool (setOk l)) ∧ Below w.heap.size w w' := by
  have hn : (l.length : Int) ≤ 9223372036854775807 := by have : maxLen = 9223372036854775807 := rfl; omega
  have HR := Aside0.mk hr
  have HW := Aside0.mk hw
  clear hr hw hl
  go_enter Try.func130, Try.ntmps130
  go_wp2
  go_loopg [7] l.length (fun g v7 w' => ∃ (i : Int) (e : On w), v7 = .int .i64 i ∧ w' = e.now ∧ 0 ≤ i ∧ i ≤ l.length ∧ Aside0 ((l.length : Int) - i ≤ g) ∧ Aside0 (∀ j, j < i.toNat → setAt l j = true))
  case atStart => exact ⟨0, On.here w, rfl, rfl, Int.le_refl _, by omega, ⟨by omega⟩, ⟨fun j hj => absurd hj (by simp)⟩⟩
  case round =>
    obtain ⟨i, e, rfl, rfl, hi0, hi1, HG, HA⟩ := hrel
    by_cases c1 : i < (l.length : Int)
    · obtain ⟨ad, e1, h0, h1⟩ := at_T122 HR.out i hi0 c1
      cases e1
      have R0 := On.cell h0
      have R1 := On.cell h1
      have N0 := On.new (e := e) (cs := #[.string (rd_T122 l i).f0, .int .i64 (rd_T122 l i).f1]) (t := 122) (i := 0) rfl
      have N1 := On.new (e := e) (cs := #[.string (rd_T122 l i).f0, .int .i64 (rd_T122 l i).f1]) (t := 122) (i := 1) rfl
      clear h0 h1
      have hsz := HW.out (rd_T122 l i) (getD_mem (by omega) _)
      have E1 := Aside0.mk (fun W => impl_NameOk.does (s := (rd_T122 l i).f0) hsz W)
      have E2 := Aside0.mk (fun W => impl_inRange.does (rd_T122 l i).f1 1 1000000 W)
      have hat : setAt l i.toNat = ((nameOk (rd_T122 l i).f0 && inR (rd_T122 l i).f1 1 1000000) && (decide (i.toNat = 0) || bless (l.getD (i.toNat - 1) z122).f0 (rd_T122 l i).f0)) := rfl
      clear hsz
      cases hb1 : nameOk (rd_T122 l i).f0
      · rw [hb1] at E1
        rw [hb1, Bool.false_and, Bool.false_and] at hat
        have HF := Aside0.mk (setOk_no (by omega) hat)
        clear hat hb1
        go_wp2
        refine BW.regionAt (by kernel_rfl) (by kernel_rfl) ?_
        repeat (go_big_quiet_step (first | exact BW.quietD (E1.out _)))
        refine wpQuiet_nil ?_
        rintro _ ⟨e2, rfl⟩
        go_wp2
        go_ret
        exact ⟨by rw [HF.out]; rfl, (e.up e2).ok⟩
      · rw [hb1] at E1
        rw [hb1, Bool.true_and] at hat
        clear hb1
        cases hb2 : inR (rd_T122 l i).f1 1 1000000
        · rw [hb2] at E2
          rw [hb2, Bool.false_and] at hat
          have HF := Aside0.mk (setOk_no (by omega) hat)
          clear hat hb2
          go_wp2
          refine BW.regionAt (by kernel_rfl) (by kernel_rfl) ?_
          repeat (go_big_quiet_step (first | exact BW.quietD (E1.out _) | exact BW.quietD (E2.out _)))
          refine wpQuiet_nil ?_
          rintro _ ⟨e2, rfl⟩
          go_wp2
          go_ret
          exact ⟨by rw [HF.out]; rfl, (e.up e2).ok⟩
        · rw [hb2] at E2
          rw [hb2, Bool.true_and] at hat
          clear hb2
          by_cases c3 : 0 < i
          · rw [decide_eq_false (by omega : ¬ i.toNat = 0), Bool.false_or] at hat
            have hp := at_T122 HR.out (i - 1) (by omega) (by omega)
            obtain ⟨y, hy⟩ : ∃ y, rd_T122 l (i - 1) = y := ⟨_, rfl⟩
            rw [hy, show (i - 1).toNat = i.toNat - 1 by omega] at hp
            rw [show l.getD (i.toNat - 1) z122 = y by rw [← hy]; unfold rd_T122; rw [show (i - 1).toNat = i.toNat - 1 by omega]] at hat
            clear hy
            obtain ⟨ad', e1', h0', h1'⟩ := hp
            cases e1'
            have R2 := On.old (e := e) (o := .cells #[.string (rd_T122 l i).f0, .int .i64 (rd_T122 l i).f1] 122) (On.cell h0')
            clear h0' h1'
            have c3' : decide (0 < i) = true := decide_eq_true c3
            cases hb3 : bless y.f0 (rd_T122 l i).f0
            · rw [hb3] at hat
              have HF := Aside0.mk (setOk_no (by omega) hat)
              have c4 : Op.bytesLess y.f0.toList (rd_T122 l i).f0.toList = false := hb3
              clear hat hb3
              go_wp2
              refine BW.regionAt (by kernel_rfl) (by kernel_rfl) ?_
              repeat (go_big_quiet_step (first | exact BW.quietD (E1.out _) | exact BW.quietD (E2.out _)))
              refine wpQuiet_nil ?_
              rintro _ ⟨e2, rfl⟩
              go_wp2
              go_ret
              exact ⟨by rw [HF.out]; rfl, (e.up e2).ok⟩
            · rw [hb3] at hat
              have HT := Aside0.mk hat
              have c4 : Op.bytesLess y.f0.toList (rd_T122 l i).f0.toList = true := hb3
              clear hat hb3
              go_wp2
              refine BW.regionAt (by kernel_rfl) (by kernel_rfl) ?_
              repeat (go_big_quiet_step (first | exact BW.quietD (E1.out _) | exact BW.quietD (E2.out _)))
              refine wpQuiet_nil ?_
              rintro _ ⟨e2, rfl⟩
              go_wp2
              go_roundg (l.length - i.toNat - 1)
              case measure => have := HG.out; omega
              case rel => exact ⟨i + 1, e.up e2, rfl, rfl, by omega, by omega, ⟨by omega⟩, ⟨upto_next hi0 HA.out HT.out⟩⟩
          · rw [decide_eq_true (by omega : i.toNat = 0), Bool.true_or] at hat
            have HT := Aside0.mk hat
            have c3' : decide (0 < i) = false := decide_eq_false c3
            clear hat c3
            go_wp2
            refine BW.regionAt (by kernel_rfl) (by kernel_rfl) ?_
            repeat (go_big_quiet_step (first | exact BW.quietD (E1.out _) | exact BW.quietD (E2.out _)))
            refine wpQuiet_nil ?_
            rintro _ ⟨e2, rfl⟩
            go_wp2
            go_roundg (l.length - i.toNat - 1)
            case measure => have := HG.out; omega
            case rel => exact ⟨i + 1, e.up e2, rfl, rfl, by omega, by omega, ⟨by omega⟩, ⟨upto_next hi0 HA.out HT.out⟩⟩
    · have HF := Aside0.mk (setOk_end (l := l) (fun j hj => HA.out j (by omega)))
      go_wp2_with (go_at_call 125; refine BW.callD (impl_inRange.does _ _ _ _) (fun e2 => ?_))
      go_ret
      exact ⟨by rw [HF.out]; rfl, e2.ok⟩

/-- What it comes to, told as the printer tells it (the function is walked by hand above). -/
def impl_SetOk.f (_k : Nat) (l0 : List S122) : Option Bool := if l0.length ≤ maxLen ∧ ∀ v ∈ l0, v.f0.size ≤ maxLen then some (setOk l0) else none
theorem impl_SetOk.mono : ∀ a0 k, LeO (impl_SetOk.f k a0) (impl_SetOk.f (k + 1) a0) := fun _ _ => LeO.refl _
theorem impl_SetOk.calls (k : Nat) (A0 : Option Addr) (c0 : Nat) (l0 : List S122) (r : Bool) (w : World) (hr0 : Kd.C k122 w A0 l0.length l0) (hc0 : l0.length ≤ c0) (h : impl_SetOk.f k l0 = some r) :
    Calls Try.prog 130 #[.slice A0 l0.length c0] w fun e w' => e = .returned (.bool r) ∧ Below w.heap.size w w' := by
  unfold impl_SetOk.f at h
  split at h
  · next hf =>
    cases h
    exact impl_SetOk.does hf.1 hf.2 hr0 hc0
  · cases h
theorem impl_SetOk.is {l : List S122} (hl : l.length ≤ maxLen) (hw : ∀ v ∈ l, v.f0.size ≤ maxLen) : Ev (fun k => impl_SetOk.f k l) (setOk l) := by
  unfold impl_SetOk.f
  rw [if_pos ⟨hl, hw⟩]
  exact Ev.now _

/-! ### impl_BlockOk: walked in this session -/
set_option maxHeartbeats 2000000 in
set_option maxRecDepth 100000 in
theorem impl_BlockOk.does {b : S59} (hf : blockFit b) {cs : List Value} {w : World} (hK : k59.K w b cs) : Calls Try.prog 60 #[.agg cs.toArray] w fun e w' => e = .returned (.bool (blockOk b)) ∧ Below w.heap.size w w' := by
  obtain ⟨hby, ⟨hq, hqs⟩, ⟨ht, hts⟩, hh, ⟨hx, hxs⟩, hv, hvs⟩ := hf
  have hK' := hK
  obtain ⟨A6, u6, A8, u8, A9, u9, A10, u10, A12, u12, rfl, l6, g6, l8, g8, l9, g9, l10, g10, l12, g12⟩ := k59_open hK
  have NB := fun e : On (w.alloc (.cells #[.int .i64 b.f0, .int .i64 b.f1, .int .i64 b.f2, .string b.f3, .int .i64 b.f4.f0, .int .i64 b.f4.f1, .slice A6 b.f4.f2.length u6, .int .i64 b.f5.f0, .slice A8 b.f5.f1.length u8, .slice A9 b.f5.f2.length u9, .slice A10 b.f6.length u10, .bool b.f7, .slice A12 b.f8.length u12, .string b.f9] 59)) => cells14 (On.blk e)
  have N0 := fun e => (NB e).1
  have N1 := fun e => (NB e).2.1
  have N2 := fun e => (NB e).2.2.1
  have N3 := fun e => (NB e).2.2.2.1
  have N4 := fun e => (NB e).2.2.2.2.1
  have N5 := fun e => (NB e).2.2.2.2.2.1
  have N6 := fun e => (NB e).2.2.2.2.2.2.1
  have N7 := fun e => (NB e).2.2.2.2.2.2.2.1
  have N8 := fun e => (NB e).2.2.2.2.2.2.2.2.1
  have N9 := fun e => (NB e).2.2.2.2.2.2.2.2.2.1
  have N10 := fun e => (NB e).2.2.2.2.2.2.2.2.2.2.1
  have N11 := fun e => (NB e).2.2.2.2.2.2.2.2.2.2.2.1
  have N12 := fun e => (NB e).2.2.2.2.2.2.2.2.2.2.2.2.1
  have N13 := fun e => (NB e).2.2.2.2.2.2.2.2.2.2.2.2.2
  clear NB
  have E1 := Aside0.mk (fun W => impl_inRange.does b.f0 0 100000 W)
  have E2 := Aside0.mk (fun W => impl_inRange.does b.f1 0 900 W)
  have E3 := Aside0.mk (fun W => impl_inRange.does b.f2 1 10000 W)
  have E4 := Aside0.mk (fun W => impl_NameOk.does hby W)
  have E5 := Aside0.mk (fun e : On (w.alloc (.cells #[.int .i64 b.f0, .int .i64 b.f1, .int .i64 b.f2, .string b.f3, .int .i64 b.f4.f0, .int .i64 b.f4.f1, .slice A6 b.f4.f2.length u6, .int .i64 b.f5.f0, .slice A8 b.f5.f1.length u8, .slice A9 b.f5.f2.length u9, .slice A10 b.f6.length u10, .bool b.f7, .slice A12 b.f8.length u12, .string b.f9] 59)) => impl_qcForm.does (q := b.f4) (wrap64 (b.f2 - 1)) (wrap64 (b.f0 - 1)) hq hqs (On.val (k31_mk w b.f4 l6 g6) e.boxed))
  have E6 := Aside0.mk (fun e : On (w.alloc (.cells #[.int .i64 b.f0, .int .i64 b.f1, .int .i64 b.f2, .string b.f3, .int .i64 b.f4.f0, .int .i64 b.f4.f1, .slice A6 b.f4.f2.length u6, .int .i64 b.f5.f0, .slice A8 b.f5.f1.length u8, .slice A9 b.f5.f2.length u9, .slice A10 b.f6.length u10, .bool b.f7, .slice A12 b.f8.length u12, .string b.f9] 59)) => impl_tcForm.does (t := b.f5) (wrap64 (b.f2 - 1)) ht hts hh (On.val (k55_mk w b.f5 l8 g8 l9 g9) e.boxed))
  have E7 := Aside0.mk (fun e : On (w.alloc (.cells #[.int .i64 b.f0, .int .i64 b.f1, .int .i64 b.f2, .string b.f3, .int .i64 b.f4.f0, .int .i64 b.f4.f1, .slice A6 b.f4.f2.length u6, .int .i64 b.f5.f0, .slice A8 b.f5.f1.length u8, .slice A9 b.f5.f2.length u9, .slice A10 b.f6.length u10, .bool b.f7, .slice A12 b.f8.length u12, .string b.f9] 59)) => impl_txsOk.does hx hxs (On.row g10 e.boxed) l10)
  have E9 := Aside0.mk (fun e : On (w.alloc (.cells #[.int .i64 b.f0, .int .i64 b.f1, .int .i64 b.f2, .string b.f3, .int .i64 b.f4.f0, .int .i64 b.f4.f1, .slice A6 b.f4.f2.length u6, .int .i64 b.f5.f0, .slice A8 b.f5.f1.length u8, .slice A9 b.f5.f2.length u9, .slice A10 b.f6.length u10, .bool b.f7, .slice A12 b.f8.length u12, .string b.f9] 59)) => impl_SetOk.does hv hvs (On.row g12 e.boxed) l12)
  simp only [On.boxed_now] at E5 E6 E7 E9
  have hat : blockOk b = (inR b.f0 0 100000 && (inR b.f1 0 900 && (inR b.f2 1 10000 && (nameOk b.f3 && (qcForm b.f4.f0 b.f4.f1 b.f4.f2 (wrap64 (b.f2 - 1)) (wrap64 (b.f0 - 1)) && (tcForm b.f5.f0 b.f5.f1 b.f5.f2 (wrap64 (b.f2 - 1)) && (!decide ((b.f6.length : Int) > 4) && (allUpto b.f6.length (fun i => txOk (rd_T120 b.f6 (i : Int))) && (if b.f7 = true then (setOk b.f8 && ((b.f9.size : Int) == 32)) else (decide ((b.f8.length : Int) = 0) && (b.f9.toList == ([] : List UInt8)))))))))))) := rfl
  clear hby hq hqs ht hts hh hx hxs hv hvs hK hK' l6 g6 l8 g8 l9 g9 l10 g10 l12 g12
  generalize inR b.f0 0 100000 = b1 at *
  generalize inR b.f1 0 900 = b2 at *
  generalize inR b.f2 1 10000 = b3 at *
  generalize nameOk b.f3 = b4 at *
  generalize qcForm b.f4.f0 b.f4.f1 b.f4.f2 (wrap64 (b.f2 - 1)) (wrap64 (b.f0 - 1)) = b5 at *
  generalize tcForm b.f5.f0 b.f5.f1 b.f5.f2 (wrap64 (b.f2 - 1)) = b6 at *
  generalize allUpto b.f6.length (fun i => txOk (rd_T120 b.f6 (i : Int))) = b7 at *
  generalize b.f7 = vE at *
  generalize b.f8 = s8 at *
  cases b1
  · skip
    go_enter Try.func60, Try.ntmps60
    go_wp2_with fail
    refine BW.callD (e := On.hereOf N0) (E1.out _) (fun e1 => ?_)
    go_wp2
    go_ret
    exact ⟨by first | (rw [hat]; rfl) | rfl, e1.boxed.ok⟩
  · skip
    cases b2
    · skip
      go_enter Try.func60, Try.ntmps60
      go_wp2_with fail
      refine BW.callD (e := On.hereOf N0) (E1.out _) (fun e1 => ?_)
      go_wp2_with fail
      refine BW.callD (E2.out _) (fun e2 => ?_)
      go_wp2
      go_ret
      exact ⟨by first | (rw [hat]; rfl) | rfl, e2.boxed.ok⟩
    · skip
      cases b3
      · skip
        go_enter Try.func60, Try.ntmps60
        go_wp2_with fail
        refine BW.callD (e := On.hereOf N0) (E1.out _) (fun e1 => ?_)
        go_wp2_with fail
        refine BW.callD (E2.out _) (fun e2 => ?_)
        go_wp2_with fail
        refine BW.callD (E3.out _) (fun e3 => ?_)
        go_wp2
        go_ret
        exact ⟨by first | (rw [hat]; rfl) | rfl, e3.boxed.ok⟩
      · skip
        cases b4
        · skip
          go_enter Try.func60, Try.ntmps60
          go_wp2_with fail
          refine BW.callD (e := On.hereOf N0) (E1.out _) (fun e1 => ?_)
          go_wp2_with fail
          refine BW.callD (E2.out _) (fun e2 => ?_)
          go_wp2_with fail
          refine BW.callD (E3.out _) (fun e3 => ?_)
          go_wp2_with fail
          refine BW.callD (E4.out _) (fun e4 => ?_)
          go_wp2
          go_ret
          exact ⟨by first | (rw [hat]; rfl) | rfl, e4.boxed.ok⟩
        · skip
          cases b5
          · skip
            go_enter Try.func60, Try.ntmps60
            go_wp2_with fail
            refine BW.callD (e := On.hereOf N0) (E1.out _) (fun e1 => ?_)
            go_wp2_with fail
            refine BW.callD (E2.out _) (fun e2 => ?_)
            go_wp2_with fail
            refine BW.callD (E3.out _) (fun e3 => ?_)
            go_wp2_with fail
            refine BW.callD (E4.out _) (fun e4 => ?_)
            go_wp2_with fail
            refine BW.call (E5.out _) (fun e5 => ?_)
            go_wp2
            go_ret
            exact ⟨by first | (rw [hat]; rfl) | rfl, e5.boxed.ok⟩
          · skip
            cases b6
            · skip
              go_enter Try.func60, Try.ntmps60
              go_wp2_with fail
              refine BW.callD (e := On.hereOf N0) (E1.out _) (fun e1 => ?_)
              go_wp2_with fail
              refine BW.callD (E2.out _) (fun e2 => ?_)
              go_wp2_with fail
              refine BW.callD (E3.out _) (fun e3 => ?_)
              go_wp2_with fail
              refine BW.callD (E4.out _) (fun e4 => ?_)
              go_wp2_with fail
              refine BW.call (E5.out _) (fun e5 => ?_)
              go_wp2_with fail
              refine BW.call (E6.out _) (fun e6 => ?_)
              go_wp2
              go_ret
              exact ⟨by first | (rw [hat]; rfl) | rfl, e6.boxed.ok⟩
            · skip
              by_cases c7 : (b.f6.length : Int) > 4
              · skip
                have c7' : decide ((b.f6.length : Int) > 4) = true := decide_eq_true c7
                rw [c7'] at hat
                go_enter Try.func60, Try.ntmps60
                go_wp2_with fail
                refine BW.callD (e := On.hereOf N0) (E1.out _) (fun e1 => ?_)
                go_wp2_with fail
                refine BW.callD (E2.out _) (fun e2 => ?_)
                go_wp2_with fail
                refine BW.callD (E3.out _) (fun e3 => ?_)
                go_wp2_with fail
                refine BW.callD (E4.out _) (fun e4 => ?_)
                go_wp2_with fail
                refine BW.call (E5.out _) (fun e5 => ?_)
                go_wp2_with fail
                refine BW.call (E6.out _) (fun e6 => ?_)
                go_wp2
                go_ret
                exact ⟨by first | (rw [hat]; rfl) | rfl, e6.boxed.ok⟩
              · skip
                have c7' : decide ((b.f6.length : Int) > 4) = false := decide_eq_false c7
                rw [c7'] at hat
                cases b7
                · skip
                  go_enter Try.func60, Try.ntmps60
                  go_wp2_with fail
                  refine BW.callD (e := On.hereOf N0) (E1.out _) (fun e1 => ?_)
                  go_wp2_with fail
                  refine BW.callD (E2.out _) (fun e2 => ?_)
                  go_wp2_with fail
                  refine BW.callD (E3.out _) (fun e3 => ?_)
                  go_wp2_with fail
                  refine BW.callD (E4.out _) (fun e4 => ?_)
                  go_wp2_with fail
                  refine BW.call (E5.out _) (fun e5 => ?_)
                  go_wp2_with fail
                  refine BW.call (E6.out _) (fun e6 => ?_)
                  go_wp2_with fail
                  refine BW.call (E7.out _) (fun e7 => ?_)
                  go_wp2
                  go_ret
                  exact ⟨by first | (rw [hat]; rfl) | rfl, e7.boxed.ok⟩
                · skip
                  cases vE
                  case true =>
                    rw [if_pos rfl] at hat
                    generalize setOk s8 = b9 at *
                    cases b9
                    · skip
                      go_enter Try.func60, Try.ntmps60
                      go_wp2_with fail
                      refine BW.callD (e := On.hereOf N0) (E1.out _) (fun e1 => ?_)
                      go_wp2_with fail
                      refine BW.callD (E2.out _) (fun e2 => ?_)
                      go_wp2_with fail
                      refine BW.callD (E3.out _) (fun e3 => ?_)
                      go_wp2_with fail
                      refine BW.callD (E4.out _) (fun e4 => ?_)
                      go_wp2_with fail
                      refine BW.call (E5.out _) (fun e5 => ?_)
                      go_wp2_with fail
                      refine BW.call (E6.out _) (fun e6 => ?_)
                      go_wp2_with fail
                      refine BW.call (E7.out _) (fun e7 => ?_)
                      go_wp2_with fail
                      refine BW.call (E9.out _) (fun e9 => ?_)
                      go_wp2
                      go_ret
                      exact ⟨by first | (rw [hat]; rfl) | rfl, e9.boxed.ok⟩
                    · by_cases c9 : (b.f9.size : Int) = 32
                      · skip
                        have c9' : decide ((b.f9.size : Int) = 32) = true := decide_eq_true c9
                        have c9'' : ((b.f9.size : Int) == 32) = true := c9'
                        rw [c9''] at hat
                        clear c9
                        go_enter Try.func60, Try.ntmps60
                        go_wp2_with fail
                        refine BW.callD (e := On.hereOf N0) (E1.out _) (fun e1 => ?_)
                        go_wp2_with fail
                        refine BW.callD (E2.out _) (fun e2 => ?_)
                        go_wp2_with fail
                        refine BW.callD (E3.out _) (fun e3 => ?_)
                        go_wp2_with fail
                        refine BW.callD (E4.out _) (fun e4 => ?_)
                        go_wp2_with fail
                        refine BW.call (E5.out _) (fun e5 => ?_)
                        go_wp2_with fail
                        refine BW.call (E6.out _) (fun e6 => ?_)
                        go_wp2_with fail
                        refine BW.call (E7.out _) (fun e7 => ?_)
                        go_wp2_with fail
                        refine BW.call (E9.out _) (fun e9 => ?_)
                        go_wp2
                        go_ret
                        exact ⟨by first | (rw [hat]; rfl) | rfl, e9.boxed.ok⟩
                      · skip
                        have c9' : decide ((b.f9.size : Int) = 32) = false := decide_eq_false c9
                        have c9'' : ((b.f9.size : Int) == 32) = false := c9'
                        rw [c9''] at hat
                        clear c9
                        go_enter Try.func60, Try.ntmps60
                        go_wp2_with fail
                        refine BW.callD (e := On.hereOf N0) (E1.out _) (fun e1 => ?_)
                        go_wp2_with fail
                        refine BW.callD (E2.out _) (fun e2 => ?_)
                        go_wp2_with fail
                        refine BW.callD (E3.out _) (fun e3 => ?_)
                        go_wp2_with fail
                        refine BW.callD (E4.out _) (fun e4 => ?_)
                        go_wp2_with fail
                        refine BW.call (E5.out _) (fun e5 => ?_)
                        go_wp2_with fail
                        refine BW.call (E6.out _) (fun e6 => ?_)
                        go_wp2_with fail
                        refine BW.call (E7.out _) (fun e7 => ?_)
                        go_wp2_with fail
                        refine BW.call (E9.out _) (fun e9 => ?_)
                        go_wp2
                        go_ret
                        exact ⟨by first | (rw [hat]; rfl) | rfl, e9.boxed.ok⟩
                  case false =>
                    rw [if_neg (by decide)] at hat
                    by_cases c9 : (s8.length : Int) = 0
                    · skip
                      have c9' : decide ((s8.length : Int) = 0) = true := decide_eq_true c9
                      rw [c9'] at hat
                      obtain rfl : s8 = [] := List.length_eq_zero_iff.1 (by omega)
                      by_cases c8 : b.f9.toList = []
                      · skip
                        have c8' : (b.f9.toList == ([] : List UInt8)) = true := by rw [c8]; rfl
                        rw [c8'] at hat
                        clear c9
                        go_enter Try.func60, Try.ntmps60
                        go_wp2_with fail
                        refine BW.callD (e := On.hereOf N0) (E1.out _) (fun e1 => ?_)
                        go_wp2_with fail
                        refine BW.callD (E2.out _) (fun e2 => ?_)
                        go_wp2_with fail
                        refine BW.callD (E3.out _) (fun e3 => ?_)
                        go_wp2_with fail
                        refine BW.callD (E4.out _) (fun e4 => ?_)
                        go_wp2_with fail
                        refine BW.call (E5.out _) (fun e5 => ?_)
                        go_wp2_with fail
                        refine BW.call (E6.out _) (fun e6 => ?_)
                        go_wp2_with fail
                        refine BW.call (E7.out _) (fun e7 => ?_)
                        go_wp2
                        go_ret
                        exact ⟨by first | (rw [hat]; rfl) | rfl, e7.boxed.ok⟩
                      · skip
                        have c8' : (b.f9.toList == ([] : List UInt8)) = false := by simp [c8]
                        rw [c8'] at hat
                        clear c9
                        go_enter Try.func60, Try.ntmps60
                        go_wp2_with fail
                        refine BW.callD (e := On.hereOf N0) (E1.out _) (fun e1 => ?_)
                        go_wp2_with fail
                        refine BW.callD (E2.out _) (fun e2 => ?_)
                        go_wp2_with fail
                        refine BW.callD (E3.out _) (fun e3 => ?_)
                        go_wp2_with fail
                        refine BW.callD (E4.out _) (fun e4 => ?_)
                        go_wp2_with fail
                        refine BW.call (E5.out _) (fun e5 => ?_)
                        go_wp2_with fail
                        refine BW.call (E6.out _) (fun e6 => ?_)
                        go_wp2_with fail
                        refine BW.call (E7.out _) (fun e7 => ?_)
                        go_wp2
                        go_ret
                        exact ⟨by first | (rw [hat]; rfl) | rfl, e7.boxed.ok⟩
                    · skip
                      have c9' : decide ((s8.length : Int) = 0) = false := decide_eq_false c9
                      rw [c9'] at hat
                      have c9e : ¬ s8 = [] := fun h => c9 (by rw [h]; rfl)
                      clear c9
                      go_enter Try.func60, Try.ntmps60
                      go_wp2_with fail
                      refine BW.callD (e := On.hereOf N0) (E1.out _) (fun e1 => ?_)
                      go_wp2_with fail
                      refine BW.callD (E2.out _) (fun e2 => ?_)
                      go_wp2_with fail
                      refine BW.callD (E3.out _) (fun e3 => ?_)
                      go_wp2_with fail
                      refine BW.callD (E4.out _) (fun e4 => ?_)
                      go_wp2_with fail
                      refine BW.call (E5.out _) (fun e5 => ?_)
                      go_wp2_with fail
                      refine BW.call (E6.out _) (fun e6 => ?_)
                      go_wp2_with fail
                      refine BW.call (E7.out _) (fun e7 => ?_)
                      go_wp2
                      go_ret
                      exact ⟨by first | (rw [hat]; rfl) | rfl, e7.boxed.ok⟩

/-- What it comes to, told as the printer tells it (the function is walked by hand above). -/
def impl_BlockOk.f (_k : Nat) (a0_0 : Int) (a0_1 : Int) (a0_2 : Int) (a0_3 : ByteArray) (a0_4 : Int) (a0_5 : Int) (l0_6 : List ByteArray) (a0_7 : Int) (l0_8 : List ByteArray) (l0_9 : List Int) (l0_10 : List (S120)) (a0_11 : Bool) (l0_12 : List (S122)) (a0_13 : ByteArray) : Option Bool := if blockFit (⟨a0_0, a0_1, a0_2, a0_3, ⟨a0_4, a0_5, l0_6⟩, ⟨a0_7, l0_8, l0_9⟩, l0_10, a0_11, l0_12, a0_13⟩ : S59) then some (blockOk (⟨a0_0, a0_1, a0_2, a0_3, ⟨a0_4, a0_5, l0_6⟩, ⟨a0_7, l0_8, l0_9⟩, l0_10, a0_11, l0_12, a0_13⟩ : S59)) else none
theorem impl_BlockOk.mono : ∀ a0 a1 a2 a3 a4 a5 a6 a7 a8 a9 a10 a11 a12 a13 k, LeO (impl_BlockOk.f k a0 a1 a2 a3 a4 a5 a6 a7 a8 a9 a10 a11 a12 a13) (impl_BlockOk.f (k + 1) a0 a1 a2 a3 a4 a5 a6 a7 a8 a9 a10 a11 a12 a13) := fun _ _ _ _ _ _ _ _ _ _ _ _ _ _ _ => LeO.refl _
theorem impl_BlockOk.calls (k : Nat) (a0_0 : Int) (a0_1 : Int) (a0_2 : Int) (a0_3 : ByteArray) (a0_4 : Int) (a0_5 : Int) (A0_6 : Option Addr) (c0_6 : Nat) (l0_6 : List ByteArray) (a0_7 : Int) (A0_8 : Option Addr) (c0_8 : Nat) (l0_8 : List ByteArray) (A0_9 : Option Addr) (c0_9 : Nat) (l0_9 : List Int) (A0_10 : Option Addr) (c0_10 : Nat) (l0_10 : List (S120)) (a0_11 : Bool) (A0_12 : Option Addr) (c0_12 : Nat) (l0_12 : List (S122)) (a0_13 : ByteArray) (r : Bool) (w : World) (hr0_6 : Kd.C Kd.string w A0_6 l0_6.length l0_6) (hc0_6 : l0_6.length ≤ c0_6) (hr0_8 : Kd.C Kd.string w A0_8 l0_8.length l0_8) (hc0_8 : l0_8.length ≤ c0_8) (hr0_9 : Kd.C (Kd.int .i64) w A0_9 l0_9.length l0_9) (hc0_9 : l0_9.length ≤ c0_9) (hr0_10 : Kd.C k120 w A0_10 l0_10.length l0_10) (hc0_10 : l0_10.length ≤ c0_10) (hr0_12 : Kd.C k122 w A0_12 l0_12.length l0_12) (hc0_12 : l0_12.length ≤ c0_12) (h : impl_BlockOk.f k a0_0 a0_1 a0_2 a0_3 a0_4 a0_5 l0_6 a0_7 l0_8 l0_9 l0_10 a0_11 l0_12 a0_13 = some r) :
    Calls Try.prog 60 #[.agg #[.int .i64 a0_0, .int .i64 a0_1, .int .i64 a0_2, .string a0_3, .int .i64 a0_4, .int .i64 a0_5, .slice A0_6 l0_6.length c0_6, .int .i64 a0_7, .slice A0_8 l0_8.length c0_8, .slice A0_9 l0_9.length c0_9, .slice A0_10 l0_10.length c0_10, .bool a0_11, .slice A0_12 l0_12.length c0_12, .string a0_13]] w fun e w' => e = .returned (.bool r) ∧ Below w.heap.size w w' := by
  unfold impl_BlockOk.f at h
  split at h
  · next hf =>
    cases h
    exact impl_BlockOk.does hf (k59_mk w (⟨a0_0, a0_1, a0_2, a0_3, ⟨a0_4, a0_5, l0_6⟩, ⟨a0_7, l0_8, l0_9⟩, l0_10, a0_11, l0_12, a0_13⟩ : S59) hc0_6 hr0_6 hc0_8 hr0_8 hc0_9 hr0_9 hc0_10 hr0_10 hc0_12 hr0_12)
  · cases h
theorem impl_BlockOk.is {b : S59} (hf : blockFit b) : Ev (fun k => impl_BlockOk.f k b.f0 b.f1 b.f2 b.f3 b.f4.f0 b.f4.f1 b.f4.f2 b.f5.f0 b.f5.f1 b.f5.f2 b.f6 b.f7 b.f8 b.f9) (blockOk b) := by
  unfold impl_BlockOk.f
  rw [if_pos (show blockFit b from hf)]
  exact Ev.now _

/-! ### impl_TreeOk: printed by treewalk.py -/
theorem impl_TreeOk_at0 {w : World} {A : Option Addr} {n : Nat} {xs : List S59} (h : Kd.C k59 w A n xs) (i : Int) (h0 : 0 ≤ i) (h1 : i < n) : ∃ ad, A = some ad ∧ w.cell? (ad.add (i.toNat * 14)) = some (.int .i64 (rd_T59 xs i).f0) := by
  obtain ⟨ad, A6, u6, A8, u8, A9, u9, A10, u10, A12, u12, e, h0_, h1_, h2_, h3_, h4_, h5_, h6_, h7_, h8_, h9_, h10_, h11_, h12_, h13_, l6, g6, l8, g8, l9, g9, l10, g10, l12, g12⟩ := at_T59 h i h0 h1
  exact ⟨ad, e, h0_⟩
theorem impl_TreeOk_at1 {w : World} {A : Option Addr} {n : Nat} {xs : List S59} (h : Kd.C k59 w A n xs) (i : Int) (h0 : 0 ≤ i) (h1 : i < n) : ∃ ad, A = some ad ∧ w.cell? ⟨(ad.add (i.toNat * 14)).block, (ad.add (i.toNat * 14)).off + 1, none⟩ = some (.int .i64 (rd_T59 xs i).f1) := by
  obtain ⟨ad, A6, u6, A8, u8, A9, u9, A10, u10, A12, u12, e, h0_, h1_, h2_, h3_, h4_, h5_, h6_, h7_, h8_, h9_, h10_, h11_, h12_, h13_, l6, g6, l8, g8, l9, g9, l10, g10, l12, g12⟩ := at_T59 h i h0 h1
  exact ⟨ad, e, h1_⟩
theorem impl_TreeOk_at2 {w : World} {A : Option Addr} {n : Nat} {xs : List S59} (h : Kd.C k59 w A n xs) (i : Int) (h0 : 0 ≤ i) (h1 : i < n) : ∃ ad, A = some ad ∧ w.cell? ⟨(ad.add (i.toNat * 14)).block, (ad.add (i.toNat * 14)).off + 2, none⟩ = some (.int .i64 (rd_T59 xs i).f2) := by
  obtain ⟨ad, A6, u6, A8, u8, A9, u9, A10, u10, A12, u12, e, h0_, h1_, h2_, h3_, h4_, h5_, h6_, h7_, h8_, h9_, h10_, h11_, h12_, h13_, l6, g6, l8, g8, l9, g9, l10, g10, l12, g12⟩ := at_T59 h i h0 h1
  exact ⟨ad, e, h2_⟩
theorem impl_TreeOk_no {l : List S59} {i : Nat} (hi : i < l.length) (h : treeAtW l i = false) : treeOk l = false := by
  unfold treeOk
  rw [← treeAtW_eq]
  rw [allUpto_no hi h, Bool.false_and]
set_option maxHeartbeats 4000000 in
set_option maxRecDepth 100000 in
theorem impl_TreeOk.does {l : List S59} (hl : l.length ≤ maxLen) (hw : ∀ b ∈ l, blockFit b) {B : Option Addr} {c : Nat} {w : World} (hr : Kd.C k59 w B l.length l) (hc : l.length ≤ c) :
    Calls Try.prog 22 #[.slice B l.length c] w fun e w' => e = .returned (.bool (treeOk l)) ∧ Below w.heap.size w w' := by
  have hn : (l.length : Int) ≤ 9223372036854775807 := by have : maxLen = 9223372036854775807 := rfl; omega
  have HR := Aside0.mk hr
  have HW := Aside0.mk hw
  have HL := Aside0.mk hl
  clear hr hw hl
  go_enter Try.func22, Try.ntmps22
  go_wp2
  go_loopg [8] l.length (fun g v8 w' => ∃ (i : Int) (e : On w), v8 = .int .i64 i ∧ w' = e.now ∧ 0 ≤ i ∧ i ≤ l.length ∧ Aside0 ((l.length : Int) - i ≤ g) ∧ Aside0 (∀ j, j < i.toNat → treeAtW l j = true))
  case atStart => exact ⟨0, On.here w, rfl, rfl, Int.le_refl _, by omega, ⟨by omega⟩, ⟨fun j hj => absurd hj (by simp)⟩⟩
  case round =>
    obtain ⟨i, e, rfl, rfl, hi0, hi1, HG, HA⟩ := hrel
    by_cases c1 : i < (l.length : Int)
    · have hz := impl_TreeOk_at1 HR.out 0 (by omega) (by omega)
      obtain ⟨ad, A6, u6, A8, u8, A9, u9, A10, u10, A12, u12, e1, h0_, h1_, h2_, h3_, h4_, h5_, h6_, h7_, h8_, h9_, h10_, h11_, h12_, h13_, l6, g6, l8, g8, l9, g9, l10, g10, l12, g12⟩ := at_T59 HR.out i hi0 c1
      cases e1
      obtain ⟨ad', ha', hz⟩ := hz
      injection ha' with ha'
      subst ha'
      replace hz : w.cell? ⟨ad.block, ad.off + 1, none⟩ = some (.int .i64 (rd_T59 l 0).f1) := hz
      have Q0 := On.old (e := e) (o := (.cells #[.int .i64 (rd_T59 l i).f0, .int .i64 (rd_T59 l i).f1, .int .i64 (rd_T59 l i).f2, .string (rd_T59 l i).f3, .int .i64 (rd_T59 l i).f4.f0, .int .i64 (rd_T59 l i).f4.f1, .slice A6 (rd_T59 l i).f4.f2.length u6, .int .i64 (rd_T59 l i).f5.f0, .slice A8 (rd_T59 l i).f5.f1.length u8, .slice A9 (rd_T59 l i).f5.f2.length u9, .slice A10 (rd_T59 l i).f6.length u10, .bool (rd_T59 l i).f7, .slice A12 (rd_T59 l i).f8.length u12, .string (rd_T59 l i).f9] 59)) (On.cell hz)
      have R0 := On.cell h0_
      have R1 := On.cell h1_
      have R2 := On.cell h2_
      have R3 := On.cell h3_
      have R4 := On.cell h4_
      have R5 := On.cell h5_
      have R6 := On.cell h6_
      have R7 := On.cell h7_
      have R8 := On.cell h8_
      have R9 := On.cell h9_
      have R10 := On.cell h10_
      have R11 := On.cell h11_
      have R12 := On.cell h12_
      have R13 := On.cell h13_
      have NB := fun e1 : On (e.now.alloc (.cells #[.int .i64 (rd_T59 l i).f0, .int .i64 (rd_T59 l i).f1, .int .i64 (rd_T59 l i).f2, .string (rd_T59 l i).f3, .int .i64 (rd_T59 l i).f4.f0, .int .i64 (rd_T59 l i).f4.f1, .slice A6 (rd_T59 l i).f4.f2.length u6, .int .i64 (rd_T59 l i).f5.f0, .slice A8 (rd_T59 l i).f5.f1.length u8, .slice A9 (rd_T59 l i).f5.f2.length u9, .slice A10 (rd_T59 l i).f6.length u10, .bool (rd_T59 l i).f7, .slice A12 (rd_T59 l i).f8.length u12, .string (rd_T59 l i).f9] 59)) => cells14 (On.blk e1)
      have N0 := fun e1 => (NB e1).1
      have N1 := fun e1 => (NB e1).2.1
      have N2 := fun e1 => (NB e1).2.2.1
      have N3 := fun e1 => (NB e1).2.2.2.1
      have N4 := fun e1 => (NB e1).2.2.2.2.1
      have N5 := fun e1 => (NB e1).2.2.2.2.2.1
      have N6 := fun e1 => (NB e1).2.2.2.2.2.2.1
      have N7 := fun e1 => (NB e1).2.2.2.2.2.2.2.1
      have N8 := fun e1 => (NB e1).2.2.2.2.2.2.2.2.1
      have N9 := fun e1 => (NB e1).2.2.2.2.2.2.2.2.2.1
      have N10 := fun e1 => (NB e1).2.2.2.2.2.2.2.2.2.2.1
      have N11 := fun e1 => (NB e1).2.2.2.2.2.2.2.2.2.2.2.1
      have N12 := fun e1 => (NB e1).2.2.2.2.2.2.2.2.2.2.2.2.1
      have N13 := fun e1 => (NB e1).2.2.2.2.2.2.2.2.2.2.2.2.2
      have hfit := HW.out (rd_T59 l i) (getD_mem (by omega) _)
      have E1 := Aside0.mk (fun e1 : On (e.now.alloc (.cells #[.int .i64 (rd_T59 l i).f0, .int .i64 (rd_T59 l i).f1, .int .i64 (rd_T59 l i).f2, .string (rd_T59 l i).f3, .int .i64 (rd_T59 l i).f4.f0, .int .i64 (rd_T59 l i).f4.f1, .slice A6 (rd_T59 l i).f4.f2.length u6, .int .i64 (rd_T59 l i).f5.f0, .slice A8 (rd_T59 l i).f5.f1.length u8, .slice A9 (rd_T59 l i).f5.f2.length u9, .slice A10 (rd_T59 l i).f6.length u10, .bool (rd_T59 l i).f7, .slice A12 (rd_T59 l i).f8.length u12, .string (rd_T59 l i).f9] 59)) => impl_BlockOk.does (b := (rd_T59 l i)) hfit (On.val (k59_mk w (rd_T59 l i) l6 g6 l8 g8 l9 g9 l10 g10 l12 g12) (e.up e1)))
      have E2 := Aside0.mk (fun e1 : On (e.now.alloc (.cells #[.int .i64 (rd_T59 l i).f0, .int .i64 (rd_T59 l i).f1, .int .i64 (rd_T59 l i).f2, .string (rd_T59 l i).f3, .int .i64 (rd_T59 l i).f4.f0, .int .i64 (rd_T59 l i).f4.f1, .slice A6 (rd_T59 l i).f4.f2.length u6, .int .i64 (rd_T59 l i).f5.f0, .slice A8 (rd_T59 l i).f5.f1.length u8, .slice A9 (rd_T59 l i).f5.f2.length u9, .slice A10 (rd_T59 l i).f6.length u10, .bool (rd_T59 l i).f7, .slice A12 (rd_T59 l i).f8.length u12, .string (rd_T59 l i).f9] 59)) => impl_isRoot.does (q := (rd_T59 l i).f4) (On.val (k31_mk w (rd_T59 l i).f4 l6 g6) (e.up e1)))
      have E3 := Aside0.mk (fun e1 : On (e.now.alloc (.cells #[.int .i64 (rd_T59 l i).f0, .int .i64 (rd_T59 l i).f1, .int .i64 (rd_T59 l i).f2, .string (rd_T59 l i).f3, .int .i64 (rd_T59 l i).f4.f0, .int .i64 (rd_T59 l i).f4.f1, .slice A6 (rd_T59 l i).f4.f2.length u6, .int .i64 (rd_T59 l i).f5.f0, .slice A8 (rd_T59 l i).f5.f1.length u8, .slice A9 (rd_T59 l i).f5.f2.length u9, .slice A10 (rd_T59 l i).f6.length u10, .bool (rd_T59 l i).f7, .slice A12 (rd_T59 l i).f8.length u12, .string (rd_T59 l i).f9] 59)) => impl_blockAt.does (id := (rd_T59 l i).f4.f1) HL.out (On.row HR.out (e.up e1)) hc)
      have hk0 := idAt_lo l (rd_T59 l i).f4.f1
      have hk1 := idAt_hi l (rd_T59 l i).f4.f1
      simp only [On.up_now] at E1 E2 E3
      clear hfit hz NB h0_ h1_ h2_ h3_ h4_ h5_ h6_ h7_ h8_ h9_ h10_ h11_ h12_ h13_ l6 g6 l8 g8 l9 g9 l10 g10 l12 g12
      have hat : treeAtW l i.toNat = ((blockOk (rd_T59 l i) && (decide ((rd_T59 l i).f1 = (rd_T59 l 0).f1) && (decide (i.toNat = 0) || decide ((rd_T59 l (i - 1)).f0 < (rd_T59 l i).f0)))) && (rootQ (rd_T59 l i).f4.f0 (rd_T59 l i).f4.f1 (rd_T59 l i).f4.f2 || (decide (0 ≤ idAt l (rd_T59 l i).f4.f1) && decide ((rd_T59 l (idAt l (rd_T59 l i).f4.f1)).f2 = (rd_T59 l i).f4.f0)))) := by
        unfold treeAtW fitAt behind
        rw [show rd_T59 l (i - 1) = l.getD (i.toNat - 1) z59 by unfold rd_T59; rw [show (i - 1).toNat = i.toNat - 1 by omega]]
        rfl
      generalize hK : idAt l (rd_T59 l i).f4.f1 = k at *
      clear hK
      cases hb : blockOk (rd_T59 l i)
      · rw [hb] at E1
        have HF := Aside0.mk (impl_TreeOk_no (i := i.toNat) (by omega) (hat.trans (by simp [hb])))
        clear hb hat E2 E3 hk0 hk1 Q0
        go_wp2
        try simp only [List.setIfInBounds_toArray, List.set_cons_zero, List.set_cons_succ]
        refine BW.regionAt (by kernel_rfl) (by kernel_rfl) ?_
        repeat (go_big_quiet_step (first | exact BW.quiet (E1.out _)))
        refine wpQuiet_nil ?_
        rintro _ ⟨e2, rfl⟩
        go_wp2
        go_ret
        exact ⟨by rw [HF.out]; rfl, (e.up e2).ok⟩
      · rw [hb] at E1
        by_cases he : (rd_T59 l i).f1 = (rd_T59 l 0).f1
        · skip
          have he1 : ((rd_T59 l i).f1 != (rd_T59 l 0).f1) = false := bne_eq_false_iff_eq.2 he
          by_cases c3 : 0 < i
          · have c3' : decide (0 < i) = true := decide_eq_true c3
            have hi2 : ¬ i.toNat = 0 := by omega
            obtain ⟨ad1, ha1, hz1⟩ := impl_TreeOk_at0 HR.out (i - 1) (by omega) (by omega)
            injection ha1 with ha1
            subst ha1
            obtain ⟨y, hy⟩ : ∃ y, (rd_T59 l (i - 1)).f0 = y := ⟨_, rfl⟩
            rw [hy, show (i - 1).toNat = i.toNat - 1 by omega] at hz1
            rw [hy] at hat
            clear hy
            have Q1 := On.old (e := e) (o := (.cells #[.int .i64 (rd_T59 l i).f0, .int .i64 (rd_T59 l i).f1, .int .i64 (rd_T59 l i).f2, .string (rd_T59 l i).f3, .int .i64 (rd_T59 l i).f4.f0, .int .i64 (rd_T59 l i).f4.f1, .slice A6 (rd_T59 l i).f4.f2.length u6, .int .i64 (rd_T59 l i).f5.f0, .slice A8 (rd_T59 l i).f5.f1.length u8, .slice A9 (rd_T59 l i).f5.f2.length u9, .slice A10 (rd_T59 l i).f6.length u10, .bool (rd_T59 l i).f7, .slice A12 (rd_T59 l i).f8.length u12, .string (rd_T59 l i).f9] 59)) (On.cell hz1)
            clear hz1
            by_cases hs : y < (rd_T59 l i).f0
            · have hs1 : decide ((rd_T59 l i).f0 ≤ y) = false := decide_eq_false (by omega)
              cases hro : rootQ (rd_T59 l i).f4.f0 (rd_T59 l i).f4.f1 (rd_T59 l i).f4.f2
              · rw [hro] at E2
                by_cases hk : k < 0
                · have HF := Aside0.mk (impl_TreeOk_no (i := i.toNat) (by omega) (hat.trans (by simp [hb, he, hi2, hs, hro] <;> omega)))
                  have hk2 : decide (k < 0) = true := decide_eq_true hk
                  clear hat he hb hro hk hk0 hk1 hi2
                  go_wp2
                  try simp only [List.setIfInBounds_toArray, List.set_cons_zero, List.set_cons_succ]
                  refine BW.regionAt (by kernel_rfl) (by kernel_rfl) ?_
                  repeat (go_big_quiet_step (first | exact BW.quiet (E1.out _)))
                  refine wpQuiet_nil ?_
                  rintro _ ⟨e2, rfl⟩
                  go_wp2_with fail
                  refine BW.call (e := e2) (E2.out _) (fun e3 => ?_)
                  go_wp2_with fail
                  refine BW.call (e := e3) (E3.out _) (fun e4 => ?_)
                  go_wp2
                  refine BW.region (e := e4) (by kernel_rfl) (by kernel_rfl) ?_
                  repeat (go_big_quiet_step (fail))
                  refine wpQuiet_nil ?_
                  rintro _ ⟨e5, rfl⟩
                  go_wp2
                  go_ret
                  exact ⟨by rw [HF.out]; rfl, (e.up e5).ok⟩
                · obtain ⟨ad2, ha2, hz2⟩ := impl_TreeOk_at2 HR.out k (by omega) (by omega)
                  injection ha2 with ha2
                  subst ha2
                  have Q2 := On.old (e := e) (o := (.cells #[.int .i64 (rd_T59 l i).f0, .int .i64 (rd_T59 l i).f1, .int .i64 (rd_T59 l i).f2, .string (rd_T59 l i).f3, .int .i64 (rd_T59 l i).f4.f0, .int .i64 (rd_T59 l i).f4.f1, .slice A6 (rd_T59 l i).f4.f2.length u6, .int .i64 (rd_T59 l i).f5.f0, .slice A8 (rd_T59 l i).f5.f1.length u8, .slice A9 (rd_T59 l i).f5.f2.length u9, .slice A10 (rd_T59 l i).f6.length u10, .bool (rd_T59 l i).f7, .slice A12 (rd_T59 l i).f8.length u12, .string (rd_T59 l i).f9] 59)) (On.cell hz2)
                  clear hz2
                  have hk2 : decide (k < 0) = false := decide_eq_false hk
                  have hk5 : 0 ≤ k := by omega
                  by_cases hq : (rd_T59 l k).f2 = (rd_T59 l i).f4.f0
                  · have HT := Aside0.mk (show treeAtW l i.toNat = true from hat.trans (by simp [hb, he, hi2, hs, hro, hq] <;> omega))
                    have hq1 : ((rd_T59 l k).f2 != (rd_T59 l i).f4.f0) = false := bne_eq_false_iff_eq.2 hq
                    clear hat he hb hro hk hk0 hq hi2
                    go_wp2
                    try simp only [List.setIfInBounds_toArray, List.set_cons_zero, List.set_cons_succ]
                    refine BW.regionAt (by kernel_rfl) (by kernel_rfl) ?_
                    repeat (go_big_quiet_step (first | exact BW.quiet (E1.out _)))
                    refine wpQuiet_nil ?_
                    rintro _ ⟨e2, rfl⟩
                    go_wp2_with fail
                    refine BW.call (e := e2) (E2.out _) (fun e3 => ?_)
                    go_wp2_with fail
                    refine BW.call (e := e3) (E3.out _) (fun e4 => ?_)
                    go_wp2
                    refine BW.region (e := e4) (by kernel_rfl) (by kernel_rfl) ?_
                    repeat (go_big_quiet_step (fail))
                    refine wpQuiet_nil ?_
                    rintro _ ⟨e5, rfl⟩
                    go_wp2
                    go_roundg (l.length - i.toNat - 1)
                    case measure => have := HG.out; omega
                    case rel => exact ⟨i + 1, e.up e5, rfl, rfl, by omega, by omega, ⟨by omega⟩, ⟨upto_next hi0 HA.out HT.out⟩⟩
                  · have HF := Aside0.mk (impl_TreeOk_no (i := i.toNat) (by omega) (hat.trans (by simp [hb, he, hi2, hs, hro, hq])))
                    have hq1 : ((rd_T59 l k).f2 != (rd_T59 l i).f4.f0) = true := bne_iff_ne.2 hq
                    clear hat he hb hro hk hk0 hq hi2
                    go_wp2
                    try simp only [List.setIfInBounds_toArray, List.set_cons_zero, List.set_cons_succ]
                    refine BW.regionAt (by kernel_rfl) (by kernel_rfl) ?_
                    repeat (go_big_quiet_step (first | exact BW.quiet (E1.out _)))
                    refine wpQuiet_nil ?_
                    rintro _ ⟨e2, rfl⟩
                    go_wp2_with fail
                    refine BW.call (e := e2) (E2.out _) (fun e3 => ?_)
                    go_wp2_with fail
                    refine BW.call (e := e3) (E3.out _) (fun e4 => ?_)
                    go_wp2
                    refine BW.region (e := e4) (by kernel_rfl) (by kernel_rfl) ?_
                    repeat (go_big_quiet_step (fail))
                    refine wpQuiet_nil ?_
                    rintro _ ⟨e5, rfl⟩
                    go_wp2
                    go_ret
                    exact ⟨by rw [HF.out]; rfl, (e.up e5).ok⟩
              · rw [hro] at E2
                have HT := Aside0.mk (show treeAtW l i.toNat = true from hat.trans (by simp [hb, he, hi2, hs, hro]))
                clear hat he hb hro hk0 hk1 E3 hi2
                go_wp2
                try simp only [List.setIfInBounds_toArray, List.set_cons_zero, List.set_cons_succ]
                refine BW.regionAt (by kernel_rfl) (by kernel_rfl) ?_
                repeat (go_big_quiet_step (first | exact BW.quiet (E1.out _)))
                refine wpQuiet_nil ?_
                rintro _ ⟨e2, rfl⟩
                go_wp2_with fail
                refine BW.call (e := e2) (E2.out _) (fun e3 => ?_)
                go_wp2
                go_roundg (l.length - i.toNat - 1)
                case measure => have := HG.out; omega
                case rel => exact ⟨i + 1, e.up e3, rfl, rfl, by omega, by omega, ⟨by omega⟩, ⟨upto_next hi0 HA.out HT.out⟩⟩
            · have hs1 : decide ((rd_T59 l i).f0 ≤ y) = true := decide_eq_true (by omega)
              have HF := Aside0.mk (impl_TreeOk_no (i := i.toNat) (by omega) (hat.trans (by simp [hb, he, hi2, hs])))
              clear hat he hb E2 E3 hk0 hk1 hi2 hs
              go_wp2
              try simp only [List.setIfInBounds_toArray, List.set_cons_zero, List.set_cons_succ]
              refine BW.regionAt (by kernel_rfl) (by kernel_rfl) ?_
              repeat (go_big_quiet_step (first | exact BW.quiet (E1.out _)))
              refine wpQuiet_nil ?_
              rintro _ ⟨e2, rfl⟩
              go_wp2
              go_ret
              exact ⟨by rw [HF.out]; rfl, (e.up e2).ok⟩
          · have c3' : decide (0 < i) = false := decide_eq_false c3
            have hi2 : i.toNat = 0 := by omega
            cases hro : rootQ (rd_T59 l i).f4.f0 (rd_T59 l i).f4.f1 (rd_T59 l i).f4.f2
            · rw [hro] at E2
              by_cases hk : k < 0
              · have HF := Aside0.mk (impl_TreeOk_no (i := i.toNat) (by omega) (hat.trans (by simp [hb, he, hi2, hro] <;> omega)))
                have hk2 : decide (k < 0) = true := decide_eq_true hk
                clear hat he hb hro hk hk0 hk1 hi2
                go_wp2
                try simp only [List.setIfInBounds_toArray, List.set_cons_zero, List.set_cons_succ]
                refine BW.regionAt (by kernel_rfl) (by kernel_rfl) ?_
                repeat (go_big_quiet_step (first | exact BW.quiet (E1.out _)))
                refine wpQuiet_nil ?_
                rintro _ ⟨e2, rfl⟩
                go_wp2_with fail
                refine BW.call (e := e2) (E2.out _) (fun e3 => ?_)
                go_wp2_with fail
                refine BW.call (e := e3) (E3.out _) (fun e4 => ?_)
                go_wp2
                refine BW.region (e := e4) (by kernel_rfl) (by kernel_rfl) ?_
                repeat (go_big_quiet_step (fail))
                refine wpQuiet_nil ?_
                rintro _ ⟨e5, rfl⟩
                go_wp2
                go_ret
                exact ⟨by rw [HF.out]; rfl, (e.up e5).ok⟩
              · obtain ⟨ad2, ha2, hz2⟩ := impl_TreeOk_at2 HR.out k (by omega) (by omega)
                injection ha2 with ha2
                subst ha2
                have Q2 := On.old (e := e) (o := (.cells #[.int .i64 (rd_T59 l i).f0, .int .i64 (rd_T59 l i).f1, .int .i64 (rd_T59 l i).f2, .string (rd_T59 l i).f3, .int .i64 (rd_T59 l i).f4.f0, .int .i64 (rd_T59 l i).f4.f1, .slice A6 (rd_T59 l i).f4.f2.length u6, .int .i64 (rd_T59 l i).f5.f0, .slice A8 (rd_T59 l i).f5.f1.length u8, .slice A9 (rd_T59 l i).f5.f2.length u9, .slice A10 (rd_T59 l i).f6.length u10, .bool (rd_T59 l i).f7, .slice A12 (rd_T59 l i).f8.length u12, .string (rd_T59 l i).f9] 59)) (On.cell hz2)
                clear hz2
                have hk2 : decide (k < 0) = false := decide_eq_false hk
                have hk5 : 0 ≤ k := by omega
                by_cases hq : (rd_T59 l k).f2 = (rd_T59 l i).f4.f0
                · have HT := Aside0.mk (show treeAtW l i.toNat = true from hat.trans (by simp [hb, he, hi2, hro, hq] <;> omega))
                  have hq1 : ((rd_T59 l k).f2 != (rd_T59 l i).f4.f0) = false := bne_eq_false_iff_eq.2 hq
                  clear hat he hb hro hk hk0 hq hi2
                  go_wp2
                  try simp only [List.setIfInBounds_toArray, List.set_cons_zero, List.set_cons_succ]
                  refine BW.regionAt (by kernel_rfl) (by kernel_rfl) ?_
                  repeat (go_big_quiet_step (first | exact BW.quiet (E1.out _)))
                  refine wpQuiet_nil ?_
                  rintro _ ⟨e2, rfl⟩
                  go_wp2_with fail
                  refine BW.call (e := e2) (E2.out _) (fun e3 => ?_)
                  go_wp2_with fail
                  refine BW.call (e := e3) (E3.out _) (fun e4 => ?_)
                  go_wp2
                  refine BW.region (e := e4) (by kernel_rfl) (by kernel_rfl) ?_
                  repeat (go_big_quiet_step (fail))
                  refine wpQuiet_nil ?_
                  rintro _ ⟨e5, rfl⟩
                  go_wp2
                  go_roundg (l.length - i.toNat - 1)
                  case measure => have := HG.out; omega
                  case rel => exact ⟨i + 1, e.up e5, rfl, rfl, by omega, by omega, ⟨by omega⟩, ⟨upto_next hi0 HA.out HT.out⟩⟩
                · have HF := Aside0.mk (impl_TreeOk_no (i := i.toNat) (by omega) (hat.trans (by simp [hb, he, hi2, hro, hq])))
                  have hq1 : ((rd_T59 l k).f2 != (rd_T59 l i).f4.f0) = true := bne_iff_ne.2 hq
                  clear hat he hb hro hk hk0 hq hi2
                  go_wp2
                  try simp only [List.setIfInBounds_toArray, List.set_cons_zero, List.set_cons_succ]
                  refine BW.regionAt (by kernel_rfl) (by kernel_rfl) ?_
                  repeat (go_big_quiet_step (first | exact BW.quiet (E1.out _)))
                  refine wpQuiet_nil ?_
                  rintro _ ⟨e2, rfl⟩
                  go_wp2_with fail
                  refine BW.call (e := e2) (E2.out _) (fun e3 => ?_)
                  go_wp2_with fail
                  refine BW.call (e := e3) (E3.out _) (fun e4 => ?_)
                  go_wp2
                  refine BW.region (e := e4) (by kernel_rfl) (by kernel_rfl) ?_
                  repeat (go_big_quiet_step (fail))
                  refine wpQuiet_nil ?_
                  rintro _ ⟨e5, rfl⟩
                  go_wp2
                  go_ret
                  exact ⟨by rw [HF.out]; rfl, (e.up e5).ok⟩
            · rw [hro] at E2
              have HT := Aside0.mk (show treeAtW l i.toNat = true from hat.trans (by simp [hb, he, hi2, hro]))
              clear hat he hb hro hk0 hk1 E3 hi2
              go_wp2
              try simp only [List.setIfInBounds_toArray, List.set_cons_zero, List.set_cons_succ]
              refine BW.regionAt (by kernel_rfl) (by kernel_rfl) ?_
              repeat (go_big_quiet_step (first | exact BW.quiet (E1.out _)))
              refine wpQuiet_nil ?_
              rintro _ ⟨e2, rfl⟩
              go_wp2_with fail
              refine BW.call (e := e2) (E2.out _) (fun e3 => ?_)
              go_wp2
              go_roundg (l.length - i.toNat - 1)
              case measure => have := HG.out; omega
              case rel => exact ⟨i + 1, e.up e3, rfl, rfl, by omega, by omega, ⟨by omega⟩, ⟨upto_next hi0 HA.out HT.out⟩⟩
        · skip
          have he1 : ((rd_T59 l i).f1 != (rd_T59 l 0).f1) = true := bne_iff_ne.2 he
          have HF := Aside0.mk (impl_TreeOk_no (i := i.toNat) (by omega) (hat.trans (by simp [hb, he])))
          clear hat he hb E2 E3 hk0 hk1
          go_wp2
          try simp only [List.setIfInBounds_toArray, List.set_cons_zero, List.set_cons_succ]
          refine BW.regionAt (by kernel_rfl) (by kernel_rfl) ?_
          repeat (go_big_quiet_step (first | exact BW.quiet (E1.out _)))
          refine wpQuiet_nil ?_
          rintro _ ⟨e2, rfl⟩
          go_wp2
          go_ret
          exact ⟨by rw [HF.out]; rfl, (e.up e2).ok⟩
    · have hend : i = l.length := by omega
      have HF : Aside0 (treeOk l = decide ((l.length : Int) ≤ 400)) := ⟨by
        have : allUpto l.length (treeAtW l) = true := allUpto_yes (fun j hj => HA.out j (by omega))
        unfold treeOk
        rw [← treeAtW_eq, this, Bool.true_and]⟩
      go_wp2
      go_ret
      exact ⟨by rw [HF.out]; rfl, e.ok⟩

/-- What it comes to, told as the printer tells it (the function is walked by hand above). -/
def impl_TreeOk.f (_k : Nat) (l0 : List S59) : Option Bool := if l0.length ≤ maxLen ∧ ∀ b ∈ l0, blockFit b then some (treeOk l0) else none
theorem impl_TreeOk.mono : ∀ a0 k, LeO (impl_TreeOk.f k a0) (impl_TreeOk.f (k + 1) a0) := fun _ _ => LeO.refl _
theorem impl_TreeOk.calls (k : Nat) (A0 : Option Addr) (c0 : Nat) (l0 : List S59) (r : Bool) (w : World) (hr0 : Kd.C k59 w A0 l0.length l0) (hc0 : l0.length ≤ c0) (h : impl_TreeOk.f k l0 = some r) :
    Calls Try.prog 22 #[.slice A0 l0.length c0] w fun e w' => e = .returned (.bool r) ∧ Below w.heap.size w w' := by
  unfold impl_TreeOk.f at h
  split at h
  · next hf =>
    cases h
    exact impl_TreeOk.does hf.1 hf.2 hr0 hc0
  · cases h
theorem impl_TreeOk.is {l : List S59} (hl : l.length ≤ maxLen) (hw : ∀ b ∈ l, blockFit b) : Ev (fun k => impl_TreeOk.f k l) (treeOk l) := by
  unfold impl_TreeOk.f
  rw [if_pos ⟨hl, hw⟩]
  exact Ev.now _

end Go.Proofs.Ytnldeeefiidcaaa.F
