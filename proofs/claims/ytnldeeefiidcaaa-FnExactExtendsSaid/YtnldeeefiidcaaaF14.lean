/-
Functions of the program, what they come to, and that Go comes to just that: spec_Extends.
Conditions: those that each theorem names.
-/
import Derived.Test.YtnldeeefiidcaaaFAbs
import Derived.Test.YtnldeeefiidcaaaF2
import Derived.Test.YtnldeeefiidcaaaF10
import Derived.Test.YtnldeeefiidcaaaF13
import Derived.Test.YtnldeeefiidcaaaWMore
set_option linter.unusedVariables false
set_option linter.unusedSimpArgs false
namespace Go.Proofs.Ytnldeeefiidcaaa.F
open Go.RowKit Go.Proofs.YtnldeeefiidcaaaW.PrintWords Go.Proofs.YtnldeeefiidcaaaW.PrintLast Go.Proofs.Ytnldeeefiidcaaa.Base Go.Proofs.Ytnldeeefiidcaaa.BW
open Go.Proofs.YtnldeeefiidcaaaW.PrintMore
attribute [local go_sem] max2_int min2_int max_two min_two max_three min_three max_four min_four   -- for this text's walks alone

/-! ### spec_Extends: function 23 -/
def spec_Extends.l0 : Nat → List (S59) → Int → List Int → Int → Option (Bool)
  | 0, _, _, _, _ => none
  | k + 1, x0, x1, x7, x8 => if x8 < (x7.length : Int) then (if 0 ≤ x8 then (if 0 ≤ (rd x7 x8) then (if (rd x7 x8) < (x0.length : Int) then (if ((rd_T59 x0 (rd x7 x8)).f0) = x1 then (some true) else (spec_Extends.l0 k x0 x1 x7 (wrap64 (x8 + 1)))) else (none)) else (none)) else (none)) else (some false)
def spec_Extends.f (k : Nat) (l0 : List (S59)) (a1 : Int) (a2 : Int) : Option (Bool) := (spec_TreeOk.f k l0).bind fun t431 => (if t431 = true then (if a1 = (-1) then (if a2 = (-1) then (some true) else ((spec_l10At.f k l0 a2).bind fun t432 => (some (decide (t432 ≥ 0))))) else ((spec_l10Chain.f k l0 a2).bind fun t433 => (spec_Extends.l0 k l0 a1 t433 0))) else (some false))
theorem spec_Extends.mono_l : ∀ k, (∀ y0 y1 y2 y3, LeO (spec_Extends.l0 k y0 y1 y2 y3) (spec_Extends.l0 (k + 1) y0 y1 y2 y3))
  | 0 => fun _ _ _ _ r h => by simp [spec_Extends.l0] at h
  | k + 1 => by
    have ih0 := spec_Extends.mono_l k
    · intro y0 y1 y2 y3
      unfold spec_Extends.l0
      repeat' first
      | (with_reducible exact ih0 _ _ _ _)
      | (with_reducible exact spec_TreeOk.mono _ _)
      | (with_reducible exact spec_l10At.mono _ _ _)
      | (with_reducible exact spec_l10Chain.mono _ _ _)
      | (with_reducible exact LeO.refl _)
      | (with_reducible exact LeO.none _)
      | (with_reducible refine LeO.ite ?_ ?_)
      | (with_reducible refine LeO.bind ?_ (fun _ => ?_))
      | exact ih0 _ _ _ _
      | exact spec_TreeOk.mono _ _
      | exact spec_l10At.mono _ _ _
      | exact spec_l10Chain.mono _ _ _
      | exact LeO.none _
      | refine LeO.ite ?_ ?_
      | refine LeO.bind ?_ (fun _ => ?_)
theorem spec_Extends.mono : ∀ a0 a1 a2 k, LeO (spec_Extends.f k a0 a1 a2) (spec_Extends.f (k + 1) a0 a1 a2) := by
  intro a0 a1 a2 k
  have ih0 := spec_Extends.mono_l k
  unfold spec_Extends.f
  repeat' first
      | (with_reducible exact ih0 _ _ _ _)
      | (with_reducible exact spec_TreeOk.mono _ _)
      | (with_reducible exact spec_l10At.mono _ _ _)
      | (with_reducible exact spec_l10Chain.mono _ _ _)
      | (with_reducible exact LeO.refl _)
      | (with_reducible exact LeO.none _)
      | (with_reducible refine LeO.ite ?_ ?_)
      | (with_reducible refine LeO.bind ?_ (fun _ => ?_))
      | exact ih0 _ _ _ _
      | exact spec_TreeOk.mono _ _
      | exact spec_l10At.mono _ _ _
      | exact spec_l10Chain.mono _ _ _
      | exact LeO.none _
      | refine LeO.ite ?_ ?_
      | refine LeO.bind ?_ (fun _ => ?_)
set_option maxHeartbeats 8000000 in
set_option maxRecDepth 100000 in
theorem spec_Extends.calls (k : Nat) (A0 : Option Addr) (c0 : Nat) (l0 : List (S59)) (a1 : Int) (a2 : Int) (r : Bool) (w : World) (hr0 : Kd.C k59 w A0 l0.length l0) (hc0 : l0.length ≤ c0) (h : spec_Extends.f k l0 a1 a2 = some r) :
    Calls Try.prog 23 #[.slice A0 l0.length c0, .int .i64 a1, .int .i64 a2] w fun e w' => e = .returned (.bool r) ∧ Below w.heap.size w w' := by
  have HR0 := Aside0.mk hr0
  have HC0 := Aside0.mk hc0
  clear hr0 hc0
  have HB := Aside0.mk (Below.refl w.heap.size w)
  have H : ((spec_TreeOk.f k l0).bind fun t431 => (if t431 = true then (if a1 = (-1) then (if a2 = (-1) then (some true) else ((spec_l10At.f k l0 a2).bind fun t432 => (some (decide (t432 ≥ 0))))) else ((spec_l10Chain.f k l0 a2).bind fun t433 => (spec_Extends.l0 k l0 a1 t433 0))) else (some false))) = some r := h
  clear h
  replace H := Option.bind_eq_some_iff.mp H
  obtain ⟨t431, A40, H⟩ := H
  replace H : (if t431 = true then (if a1 = (-1) then (if a2 = (-1) then (some true) else ((spec_l10At.f k l0 a2).bind fun t432 => (some (decide (t432 ≥ 0))))) else ((spec_l10Chain.f k l0 a2).bind fun t433 => (spec_Extends.l0 k l0 a1 t433 0))) else (some false)) = some r := H
  have A4 := Aside0.mk A40
  clear A40
  by_cases c5 : t431 = true
  · subst c5
    have H1 : (if a1 = (-1) then (if a2 = (-1) then (some true) else ((spec_l10At.f k l0 a2).bind fun t432 => (some (decide (t432 ≥ 0))))) else ((spec_l10Chain.f k l0 a2).bind fun t433 => (spec_Extends.l0 k l0 a1 t433 0))) = some r := by rw [if_pos rfl] at H; exact H
    clear H
    have H := H1
    clear H1
    by_cases c6 : a1 = (-1)
    · rw [if_pos c6] at H
      have c6b0 : (a1 == (-1)) = true := beq_iff_eq.mpr c6
      have c6b1 : (a1 != (-1)) = false := bne_eq_false_iff_eq.mpr c6
      clear c6
      by_cases c7 : a2 = (-1)
      · rw [if_pos c7] at H
        have c7b0 : (a2 == (-1)) = true := beq_iff_eq.mpr c7
        have c7b1 : (a2 != (-1)) = false := bne_eq_false_iff_eq.mpr c7
        clear c7
        obtain rfl := Option.some.inj H
        go_enter Try.func23, Try.ntmps23
        go_wp2_with (first | ((with_reducible refine gate_callee (f := 21) rfl ?_); refine goesL_ (some 10) rfl rfl Try.func21 (by kernel_rfl) rfl #[.slice A0 l0.length c0] rfl (by (try simp only [List.map_toArray, List.map_cons, List.map_nil]); first | done | rfl | (simp only [List.length_drop, List.length_take]; rfl)) ?_; (with_reducible refine (spec_TreeOk.calls k _ _ l0 true _ ?side1 ?side2 A4.out).mono ?_); (case side1 => repeat (first | exact HR0.out | (with_reducible refine Kd.C_alloc ?_ _) | (with_reducible refine Kd.C_drewN ?_ _) | (with_reducible refine Kd.C_drew ?_))); (case side2 => exact HC0.out); rintro e w8 ⟨rfl, hb⟩; refine ⟨_, rfl, ?_⟩; have n0_ := Aside0.mk (below_step (by repeat (first | (with_reducible first | exact HB.out | apply below_alloc | apply pw_below_drewN | apply below_drew1) | exact HB.out)) hb); clear HB; have HB := n0_; clear n0_; (try clear hb); (try clear hb2); (try clear hk); (try clear hi)))
        go_ret
        exact ⟨by first | rfl | (simp [errW_none, errW_some] <;> rfl) | (simp [*, errW_none, errW_some] <;> rfl), by repeat (first | (with_reducible first | exact HB.out | apply below_alloc | apply pw_below_drewN | apply below_drew1) | exact HB.out)⟩
      · rw [if_neg c7] at H
        have c7b0 : (a2 == (-1)) = false := beq_eq_false_iff_ne.mpr c7
        have c7b1 : (a2 != (-1)) = true := bne_iff_ne.mpr c7
        replace H := Option.bind_eq_some_iff.mp H
        obtain ⟨t432, A90, H⟩ := H
        replace H : (some (decide (t432 ≥ 0))) = some r := H
        have A9 := Aside0.mk A90
        clear A90
        obtain rfl := Option.some.inj H
        go_enter Try.func23, Try.ntmps23
        go_wp2_with (first | ((with_reducible refine gate_callee (f := 21) rfl ?_); refine goesL_ (some 10) rfl rfl Try.func21 (by kernel_rfl) rfl #[.slice A0 l0.length c0] rfl (by (try simp only [List.map_toArray, List.map_cons, List.map_nil]); first | done | rfl | (simp only [List.length_drop, List.length_take]; rfl)) ?_; (with_reducible refine (spec_TreeOk.calls k _ _ l0 true _ ?side1 ?side2 A4.out).mono ?_); (case side1 => repeat (first | exact HR0.out | (with_reducible refine Kd.C_alloc ?_ _) | (with_reducible refine Kd.C_drewN ?_ _) | (with_reducible refine Kd.C_drew ?_))); (case side2 => exact HC0.out); rintro e w10 ⟨rfl, hb⟩; refine ⟨_, rfl, ?_⟩; have n0_ := Aside0.mk (below_step (by repeat (first | (with_reducible first | exact HB.out | apply below_alloc | apply pw_below_drewN | apply below_drew1) | exact HB.out)) hb); clear HB; have HB := n0_; clear n0_; (try clear hb); (try clear hb2); (try clear hk); (try clear hi)) | (go_at_call 54; (with_reducible refine (spec_l10At.calls k _ _ l0 a2 t432 _ ?side1 ?side2 A9.out).mono ?_); (case side1 => repeat (first | exact (Kd.C_below HR0.out HB.out) | (with_reducible refine Kd.C_alloc ?_ _) | (with_reducible refine Kd.C_drewN ?_ _) | (with_reducible refine Kd.C_drew ?_))); (case side2 => exact HC0.out); rintro e w' ⟨rfl, ⟨nd, rfl⟩⟩))
        go_ret
        exact ⟨by first | rfl | (simp [errW_none, errW_some] <;> rfl) | (simp [*, errW_none, errW_some] <;> rfl), by repeat (first | (with_reducible first | exact HB.out | apply below_alloc | apply pw_below_drewN | apply below_drew1) | exact HB.out)⟩
    · rw [if_neg c6] at H
      have c6b0 : (a1 == (-1)) = false := beq_eq_false_iff_ne.mpr c6
      have c6b1 : (a1 != (-1)) = true := bne_iff_ne.mpr c6
      replace H := Option.bind_eq_some_iff.mp H
      obtain ⟨t433, A110, H⟩ := H
      replace H : (spec_Extends.l0 k l0 a1 t433 0) = some r := H
      have A11 := Aside0.mk A110
      clear A110
      have H' := Aside0.mk H
      clear H
      go_enter Try.func23, Try.ntmps23
      go_wp2_with (first | ((with_reducible refine gate_callee (f := 21) rfl ?_); refine goesL_ (some 10) rfl rfl Try.func21 (by kernel_rfl) rfl #[.slice A0 l0.length c0] rfl (by (try simp only [List.map_toArray, List.map_cons, List.map_nil]); first | done | rfl | (simp only [List.length_drop, List.length_take]; rfl)) ?_; (with_reducible refine (spec_TreeOk.calls k _ _ l0 true _ ?side1 ?side2 A4.out).mono ?_); (case side1 => repeat (first | exact HR0.out | (with_reducible refine Kd.C_alloc ?_ _) | (with_reducible refine Kd.C_drewN ?_ _) | (with_reducible refine Kd.C_drew ?_))); (case side2 => exact HC0.out); rintro e w12 ⟨rfl, hb⟩; refine ⟨_, rfl, ?_⟩; have n0_ := Aside0.mk (below_step (by repeat (first | (with_reducible first | exact HB.out | apply below_alloc | apply pw_below_drewN | apply below_drew1) | exact HB.out)) hb); clear HB; have HB := n0_; clear n0_; (try clear hb); (try clear hb2); (try clear hk); (try clear hi)) | ((with_reducible refine gate_callee (f := 62) rfl ?_); refine goesL_ (some 24) rfl rfl Try.func62 (by kernel_rfl) rfl #[.slice A0 l0.length c0, .int .i64 a2] rfl (by (try simp only [List.map_toArray, List.map_cons, List.map_nil]); first | done | rfl | (simp only [List.length_drop, List.length_take]; rfl)) ?_; (with_reducible refine (spec_l10Chain.calls k _ _ l0 a2 t433 _ ?side1 ?side2 A11.out).mono ?_); (case side1 => repeat (first | exact (Kd.C_below HR0.out HB.out) | (with_reducible refine Kd.C_alloc ?_ _) | (with_reducible refine Kd.C_drewN ?_ _) | (with_reducible refine Kd.C_drew ?_))); (case side2 => exact HC0.out); rintro e w13 ⟨v434, rfl, ho0, hb⟩; refine ⟨_, rfl, ?_⟩; have n0_ := Aside0.mk (Kd.R_lower ho0 (below_size (by repeat (first | (with_reducible first | exact HB.out | apply below_alloc | apply pw_below_drewN | apply below_drew1) | exact HB.out)))); have n1_ := Aside0.mk (below_step (by repeat (first | (with_reducible first | exact HB.out | apply below_alloc | apply pw_below_drewN | apply below_drew1) | exact HB.out)) hb); clear HB; have HO435 := n0_; have HB := n1_; clear n0_ n1_; (try clear hb); (try clear hb2); (try clear hk); (try clear hi); (try clear ho0)))
      go_loopg [8] k (fun kq v8 w' => ∃ (x8_1 : Int), v8 = .int .i64 x8_1 ∧ Aside0 (spec_Extends.l0 kq l0 a1 t433 x8_1 = some r) ∧ Aside0 (kq ≤ k) ∧ Aside0 (Kd.R (Kd.int .i64) 3 w' w.heap.size (fun _ => True) v434 t433) ∧ Aside0 (Below w.heap.size w w'))
      case atStart => exact ⟨(0), (by first | rfl | (simp; done) | (simp [*]; done)), H', ⟨Nat.le_refl _⟩, ⟨by (with_reducible repeat (first | apply Kd.R_alloc | apply Kd.R_drewN | apply Kd.R_drew)); exact HO435.out⟩, ⟨by repeat (first | (with_reducible first | exact HB.out | apply below_alloc | apply pw_below_drewN | apply below_drew1) | exact HB.out)⟩⟩
      case round =>
        clear H'
        try clear c2
        try clear p2
        try clear c5
        try clear c6
        try clear c6b0
        try clear c6b1
        try clear c7
        try clear c7b0
        try clear c7b1
        obtain ⟨x8_1, rfl, HA, HK1, HO_7, HB⟩ := hrel
        cases gk with
        | zero => exact absurd HA.out (by simp [spec_Extends.l0])
        | succ k1 =>
          have H := HA.out
          clear HA
          simp only [spec_Extends.l0] at H
          by_cases c14 : x8_1 < (t433.length : Int)
          · rw [if_pos c14] at H
            have c14b0 : decide (x8_1 < (t433.length : Int)) = true := decide_eq_true c14
            clear c14
            by_cases c15 : 0 ≤ x8_1
            · rw [if_pos c15] at H
              have c15b0 : decide (0 ≤ x8_1) = true := decide_eq_true c15
              clear c15
              by_cases c16 : 0 ≤ (rd t433 x8_1)
              · rw [if_pos c16] at H
                have c16b0 : decide (0 ≤ (rd t433 x8_1)) = true := decide_eq_true c16
                clear c16
                by_cases c17 : (rd t433 x8_1) < (l0.length : Int)
                · rw [if_pos c17] at H
                  have c17b0 : decide ((rd t433 x8_1) < (l0.length : Int)) = true := decide_eq_true c17
                  clear c17
                  by_cases c18 : ((rd_T59 l0 (rd t433 x8_1)).f0) = a1
                  · rw [if_pos c18] at H
                    have c18b0 : (((rd_T59 l0 (rd t433 x8_1)).f0) == a1) = true := beq_iff_eq.mpr c18
                    have c18b1 : (((rd_T59 l0 (rd t433 x8_1)).f0) != a1) = false := bne_eq_false_iff_eq.mpr c18
                    clear c18
                    obtain rfl := Option.some.inj H
                    obtain ⟨Ao19, co19, eo19⟩ := Kd.R_slice HO_7.out
                    subst eo19
                    have p436 : 0 ≤ (x8_1 : Int) := of_decide_eq_true (by first | (with_reducible assumption) | assumption)
                    have q436 : x8_1 < (t433.length : Int) := of_decide_eq_true (by first | (with_reducible assumption) | assumption)
                    obtain ⟨ad436, e436, hx436_0⟩ := Kd.at_int (Kd.R_reads' HO_7.out).2.2 x8_1 p436 q436
                    cases e436
                    replace p436 := eq_true p436
                    replace q436 := eq_true q436
                    have p437 : 0 ≤ ((rd t433 x8_1) : Int) := of_decide_eq_true (by first | (with_reducible assumption) | assumption)
                    have q437 : (rd t433 x8_1) < (l0.length : Int) := of_decide_eq_true (by first | (with_reducible assumption) | assumption)
                    obtain ⟨ad437, A437_6, c437_6, A437_8, c437_8, A437_9, c437_9, A437_10, c437_10, A437_12, c437_12, e437, hx437_0, hx437_1, hx437_2, hx437_3, hx437_4, hx437_5, hx437_6, hx437_7, hx437_8, hx437_9, hx437_10, hx437_11, hx437_12, hx437_13, hl437_6, hi437_6, hl437_8, hi437_8, hl437_9, hi437_9, hl437_10, hi437_10, hl437_12, hi437_12⟩ := at_T59 HR0.out (rd t433 x8_1) p437 q437
                    cases e437
                    replace hx437_0 := (HB.out.cell (World.block_lt_of_cell? w _ hx437_0)).trans hx437_0
                    replace hx437_1 := (HB.out.cell (World.block_lt_of_cell? w _ hx437_1)).trans hx437_1
                    replace hx437_2 := (HB.out.cell (World.block_lt_of_cell? w _ hx437_2)).trans hx437_2
                    replace hx437_3 := (HB.out.cell (World.block_lt_of_cell? w _ hx437_3)).trans hx437_3
                    replace hx437_4 := (HB.out.cell (World.block_lt_of_cell? w _ hx437_4)).trans hx437_4
                    replace hx437_5 := (HB.out.cell (World.block_lt_of_cell? w _ hx437_5)).trans hx437_5
                    replace hx437_6 := (HB.out.cell (World.block_lt_of_cell? w _ hx437_6)).trans hx437_6
                    replace hx437_7 := (HB.out.cell (World.block_lt_of_cell? w _ hx437_7)).trans hx437_7
                    replace hx437_8 := (HB.out.cell (World.block_lt_of_cell? w _ hx437_8)).trans hx437_8
                    replace hx437_9 := (HB.out.cell (World.block_lt_of_cell? w _ hx437_9)).trans hx437_9
                    replace hx437_10 := (HB.out.cell (World.block_lt_of_cell? w _ hx437_10)).trans hx437_10
                    replace hx437_11 := (HB.out.cell (World.block_lt_of_cell? w _ hx437_11)).trans hx437_11
                    replace hx437_12 := (HB.out.cell (World.block_lt_of_cell? w _ hx437_12)).trans hx437_12
                    replace hx437_13 := (HB.out.cell (World.block_lt_of_cell? w _ hx437_13)).trans hx437_13
                    have HR437_6 := Aside0.mk hi437_6
                    have HC437_6 := Aside0.mk hl437_6
                    clear hi437_6 hl437_6
                    have HR437_8 := Aside0.mk hi437_8
                    have HC437_8 := Aside0.mk hl437_8
                    clear hi437_8 hl437_8
                    have HR437_9 := Aside0.mk hi437_9
                    have HC437_9 := Aside0.mk hl437_9
                    clear hi437_9 hl437_9
                    have HR437_10 := Aside0.mk hi437_10
                    have HC437_10 := Aside0.mk hl437_10
                    clear hi437_10 hl437_10
                    have HR437_12 := Aside0.mk hi437_12
                    have HC437_12 := Aside0.mk hl437_12
                    clear hi437_12 hl437_12
                    replace p437 := eq_true p437
                    replace q437 := eq_true q437
                    go_wp2
                    go_ret
                    exact ⟨by first | rfl | (simp [errW_none, errW_some] <;> rfl) | (simp [*, errW_none, errW_some] <;> rfl), by repeat (first | (with_reducible first | exact HB.out | apply below_alloc | apply pw_below_drewN | apply below_drew1) | exact HB.out)⟩
                  · rw [if_neg c18] at H
                    have c18b0 : (((rd_T59 l0 (rd t433 x8_1)).f0) == a1) = false := beq_eq_false_iff_ne.mpr c18
                    have c18b1 : (((rd_T59 l0 (rd t433 x8_1)).f0) != a1) = true := bne_iff_ne.mpr c18
                    have H' := Aside0.mk H
                    clear H
                    obtain ⟨Ao20, co20, eo20⟩ := Kd.R_slice HO_7.out
                    subst eo20
                    have p436 : 0 ≤ (x8_1 : Int) := of_decide_eq_true (by first | (with_reducible assumption) | assumption)
                    have q436 : x8_1 < (t433.length : Int) := of_decide_eq_true (by first | (with_reducible assumption) | assumption)
                    obtain ⟨ad436, e436, hx436_0⟩ := Kd.at_int (Kd.R_reads' HO_7.out).2.2 x8_1 p436 q436
                    cases e436
                    replace p436 := eq_true p436
                    replace q436 := eq_true q436
                    have p437 : 0 ≤ ((rd t433 x8_1) : Int) := of_decide_eq_true (by first | (with_reducible assumption) | assumption)
                    have q437 : (rd t433 x8_1) < (l0.length : Int) := of_decide_eq_true (by first | (with_reducible assumption) | assumption)
                    obtain ⟨ad437, A437_6, c437_6, A437_8, c437_8, A437_9, c437_9, A437_10, c437_10, A437_12, c437_12, e437, hx437_0, hx437_1, hx437_2, hx437_3, hx437_4, hx437_5, hx437_6, hx437_7, hx437_8, hx437_9, hx437_10, hx437_11, hx437_12, hx437_13, hl437_6, hi437_6, hl437_8, hi437_8, hl437_9, hi437_9, hl437_10, hi437_10, hl437_12, hi437_12⟩ := at_T59 HR0.out (rd t433 x8_1) p437 q437
                    cases e437
                    replace hx437_0 := (HB.out.cell (World.block_lt_of_cell? w _ hx437_0)).trans hx437_0
                    replace hx437_1 := (HB.out.cell (World.block_lt_of_cell? w _ hx437_1)).trans hx437_1
                    replace hx437_2 := (HB.out.cell (World.block_lt_of_cell? w _ hx437_2)).trans hx437_2
                    replace hx437_3 := (HB.out.cell (World.block_lt_of_cell? w _ hx437_3)).trans hx437_3
                    replace hx437_4 := (HB.out.cell (World.block_lt_of_cell? w _ hx437_4)).trans hx437_4
                    replace hx437_5 := (HB.out.cell (World.block_lt_of_cell? w _ hx437_5)).trans hx437_5
                    replace hx437_6 := (HB.out.cell (World.block_lt_of_cell? w _ hx437_6)).trans hx437_6
                    replace hx437_7 := (HB.out.cell (World.block_lt_of_cell? w _ hx437_7)).trans hx437_7
                    replace hx437_8 := (HB.out.cell (World.block_lt_of_cell? w _ hx437_8)).trans hx437_8
                    replace hx437_9 := (HB.out.cell (World.block_lt_of_cell? w _ hx437_9)).trans hx437_9
                    replace hx437_10 := (HB.out.cell (World.block_lt_of_cell? w _ hx437_10)).trans hx437_10
                    replace hx437_11 := (HB.out.cell (World.block_lt_of_cell? w _ hx437_11)).trans hx437_11
                    replace hx437_12 := (HB.out.cell (World.block_lt_of_cell? w _ hx437_12)).trans hx437_12
                    replace hx437_13 := (HB.out.cell (World.block_lt_of_cell? w _ hx437_13)).trans hx437_13
                    have HR437_6 := Aside0.mk hi437_6
                    have HC437_6 := Aside0.mk hl437_6
                    clear hi437_6 hl437_6
                    have HR437_8 := Aside0.mk hi437_8
                    have HC437_8 := Aside0.mk hl437_8
                    clear hi437_8 hl437_8
                    have HR437_9 := Aside0.mk hi437_9
                    have HC437_9 := Aside0.mk hl437_9
                    clear hi437_9 hl437_9
                    have HR437_10 := Aside0.mk hi437_10
                    have HC437_10 := Aside0.mk hl437_10
                    clear hi437_10 hl437_10
                    have HR437_12 := Aside0.mk hi437_12
                    have HC437_12 := Aside0.mk hl437_12
                    clear hi437_12 hl437_12
                    replace p437 := eq_true p437
                    replace q437 := eq_true q437
                    go_wp2
                    go_roundg k1
                    case measure => have := HK1.out; omega
                    case rel => exact ⟨(wrap64 (x8_1 + 1)), (by first | rfl | (simp; done) | (simp [*]; done)), H', ⟨by have := HK1.out; omega⟩, ⟨by (with_reducible repeat (first | apply Kd.R_alloc | apply Kd.R_drewN | apply Kd.R_drew)); exact HO_7.out⟩, ⟨by repeat (first | (with_reducible first | exact HB.out | apply below_alloc | apply pw_below_drewN | apply below_drew1) | exact HB.out)⟩⟩
                · rw [if_neg c17] at H
                  exact absurd H (by simp)
              · rw [if_neg c16] at H
                exact absurd H (by simp)
            · rw [if_neg c15] at H
              exact absurd H (by simp)
          · rw [if_neg c14] at H
            have c14b0 : decide (x8_1 < (t433.length : Int)) = false := decide_eq_false c14
            clear c14
            obtain rfl := Option.some.inj H
            obtain ⟨Ao21, co21, eo21⟩ := Kd.R_slice HO_7.out
            subst eo21
            go_wp2
            go_ret
            exact ⟨by first | rfl | (simp [errW_none, errW_some] <;> rfl) | (simp [*, errW_none, errW_some] <;> rfl), by repeat (first | (with_reducible first | exact HB.out | apply below_alloc | apply pw_below_drewN | apply below_drew1) | exact HB.out)⟩
  · replace c5 := Bool.eq_false_iff.mpr c5
    subst c5
    have H1 : (some false) = some r := by rw [if_neg (show ¬ (false = true) by decide)] at H; exact H
    clear H
    have H := H1
    clear H1
    obtain rfl := Option.some.inj H
    go_enter Try.func23, Try.ntmps23
    go_wp2_with (first | ((with_reducible refine gate_callee (f := 21) rfl ?_); refine goesL_ (some 10) rfl rfl Try.func21 (by kernel_rfl) rfl #[.slice A0 l0.length c0] rfl (by (try simp only [List.map_toArray, List.map_cons, List.map_nil]); first | done | rfl | (simp only [List.length_drop, List.length_take]; rfl)) ?_; (with_reducible refine (spec_TreeOk.calls k _ _ l0 false _ ?side1 ?side2 A4.out).mono ?_); (case side1 => repeat (first | exact HR0.out | (with_reducible refine Kd.C_alloc ?_ _) | (with_reducible refine Kd.C_drewN ?_ _) | (with_reducible refine Kd.C_drew ?_))); (case side2 => exact HC0.out); rintro e w22 ⟨rfl, hb⟩; refine ⟨_, rfl, ?_⟩; have n0_ := Aside0.mk (below_step (by repeat (first | (with_reducible first | exact HB.out | apply below_alloc | apply pw_below_drewN | apply below_drew1) | exact HB.out)) hb); clear HB; have HB := n0_; clear n0_; (try clear hb); (try clear hb2); (try clear hk); (try clear hi)))
    go_ret
    exact ⟨by first | rfl | (simp [errW_none, errW_some] <;> rfl) | (simp [*, errW_none, errW_some] <;> rfl), by repeat (first | (with_reducible first | exact HB.out | apply below_alloc | apply pw_below_drewN | apply below_drew1) | exact HB.out)⟩

theorem spec_Extends.is {l : List S59} (hl : l.length ≤ maxLen) (hw : ∀ b ∈ l, blockFit b) (a b : Int) : Ev (fun k => spec_Extends.f k l a b) (extendsB l a b) := by
  have hm : maxLen = 9223372036854775807 := rfl
  unfold spec_Extends.f extendsB
  refine Ev.bind (spec_TreeOk.is hl hw) (Ev.cond (fun h => ?_) (fun h => Ev.is (by rw [Bool.eq_false_iff.2 h]; rfl)))
  have ⟨T, h4⟩ := treeOk_is h
  rw [h, Bool.true_and]
  refine Ev.cond (fun ha => ?_) (fun ha => ?_)
  · rw [if_pos ha]
    refine Ev.cond (fun hb => Ev.is (by rw [decide_eq_true hb]; rfl)) (fun hb => Ev.bind (spec_l10At.is hl) (Ev.is ?_))
    rw [decide_eq_false hb, Bool.false_or]
  · rw [if_neg ha]
    refine Ev.bind (spec_l10Chain.is T h4 b) ?_
    have hin := chainAt_in T b
    have hlen := chainAt_len T b
    generalize chainAt l b = ch at *
    refine ev_loop (xs := ch) (fun k (_ : Unit) i => spec_Extends.l0 k l a ch i) (fun ys _ => ys.any (fun k => decide (idOf l k = a))) (fun _ => ?_) (fun pre y ys _ hx ih => ?_) ()
    · simp only [spec_Extends.l0]
      exact Ev.no (by omega) (Ev.now _)
    · have hp := len_app hx
      have hrd : rd ch pre.length = y := by rw [hx]; exact at_app pre y ys _
      have hy := hin y (by rw [hx]; simp)
      simp only [spec_Extends.l0, hrd]
      refine Ev.yes (by omega) (Ev.yes (by omega) (Ev.yes hy.1 (Ev.yes hy.2 ?_)))
      rw [unw (x := (pre.length : Int) + 1) (by omega) (by omega)]
      refine Ev.cond (fun hc => Ev.is ?_) (fun hc => Ev.to (ih ()) ?_)
      · rw [List.any_cons, decide_eq_true (show idOf l y = a from hc)]
        rfl
      · rw [List.any_cons, decide_eq_false (show ¬ idOf l y = a from hc), Bool.false_or]

end Go.Proofs.Ytnldeeefiidcaaa.F
