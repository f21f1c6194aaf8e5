/-
Functions of the program, what they come to, and that Go comes to just that: spec_l11Ended, spec_Ended, slices_IndexFunc_int_int, impl_endOf_1, impl_endOf, impl_Ended, laws_FnExactEnded.
Conditions: those that each theorem names.
-/
import Derived.Test.YtnldeeefiidcaaaFAbs
import Derived.Test.YtnldeeefiidcaaaF1
import Derived.Test.YtnldeeefiidcaaaF4
import Derived.Test.YtnldeeefiidcaaaF5
import Derived.Test.YtnldeeefiidcaaaF7
import Derived.Test.YtnldeeefiidcaaaF10
import Derived.Test.YtnldeeefiidcaaaF13
import Derived.Test.YtnldeeefiidcaaaF20
import Derived.Test.YtnldeeefiidcaaaWApart
import Derived.Test.YtnldeeefiidcaaaWMore
set_option linter.unusedVariables false
set_option linter.unusedSimpArgs false
namespace Go.Proofs.Ytnldeeefiidcaaa.F
open Go.RowKit Go.Proofs.YtnldeeefiidcaaaW.PrintWords Go.Proofs.YtnldeeefiidcaaaW.PrintLast Go.Proofs.Ytnldeeefiidcaaa.Base Go.Proofs.Ytnldeeefiidcaaa.BW
open Go.Proofs.YtnldeeefiidcaaaW.PrintMore
attribute [local go_sem] max2_int min2_int max_two min_two max_three min_three max_four min_four   -- for this text's walks alone

/-! ### spec_l11Ended: function 89 -/
def spec_l11Ended.l0 : Nat → List (S59) → List Int → Int → Option (Bool)
  | 0, _, _, _ => none
  | k + 1, x0, x5, x6 => if x6 < (x5.length : Int) then (if 0 ≤ x6 then (if 0 ≤ (rd x5 x6) then (if (rd x5 x6) < (x0.length : Int) then (if (rd_T59 x0 (rd x5 x6)).f7 = true then (some true) else (spec_l11Ended.l0 k x0 x5 (wrap64 (x6 + 1)))) else (none)) else (none)) else (none)) else (some false)
def spec_l11Ended.f (k : Nat) (l0 : List (S59)) (a1 : Int) : Option (Bool) := (spec_l10Chain.f k l0 a1).bind fun t780 => (spec_l11Ended.l0 k l0 t780 0)
theorem spec_l11Ended.mono_l : ∀ k, (∀ y0 y1 y2, LeO (spec_l11Ended.l0 k y0 y1 y2) (spec_l11Ended.l0 (k + 1) y0 y1 y2))
  | 0 => fun _ _ _ r h => by simp [spec_l11Ended.l0] at h
  | k + 1 => by
    have ih0 := spec_l11Ended.mono_l k
    · intro y0 y1 y2
      unfold spec_l11Ended.l0
      repeat' first
      | (with_reducible exact ih0 _ _ _)
      | (with_reducible exact spec_l10Chain.mono _ _ _)
      | (with_reducible exact LeO.refl _)
      | (with_reducible exact LeO.none _)
      | (with_reducible refine LeO.ite ?_ ?_)
      | (with_reducible refine LeO.bind ?_ (fun _ => ?_))
      | exact ih0 _ _ _
      | exact spec_l10Chain.mono _ _ _
      | exact LeO.none _
      | refine LeO.ite ?_ ?_
      | refine LeO.bind ?_ (fun _ => ?_)
theorem spec_l11Ended.mono : ∀ a0 a1 k, LeO (spec_l11Ended.f k a0 a1) (spec_l11Ended.f (k + 1) a0 a1) := by
  intro a0 a1 k
  have ih0 := spec_l11Ended.mono_l k
  unfold spec_l11Ended.f
  repeat' first
      | (with_reducible exact ih0 _ _ _)
      | (with_reducible exact spec_l10Chain.mono _ _ _)
      | (with_reducible exact LeO.refl _)
      | (with_reducible exact LeO.none _)
      | (with_reducible refine LeO.ite ?_ ?_)
      | (with_reducible refine LeO.bind ?_ (fun _ => ?_))
      | exact ih0 _ _ _
      | exact spec_l10Chain.mono _ _ _
      | exact LeO.none _
      | refine LeO.ite ?_ ?_
      | refine LeO.bind ?_ (fun _ => ?_)
set_option maxHeartbeats 8000000 in
set_option maxRecDepth 100000 in
theorem spec_l11Ended.calls (k : Nat) (A0 : Option Addr) (c0 : Nat) (l0 : List (S59)) (a1 : Int) (r : Bool) (w : World) (hr0 : Kd.C k59 w A0 l0.length l0) (hc0 : l0.length ≤ c0) (h : spec_l11Ended.f k l0 a1 = some r) :
    Calls Try.prog 89 #[.slice A0 l0.length c0, .int .i64 a1] w fun e w' => e = .returned (.bool r) ∧ Below w.heap.size w w' := by
  have HR0 := Aside0.mk hr0
  have HC0 := Aside0.mk hc0
  clear hr0 hc0
  have HB := Aside0.mk (Below.refl w.heap.size w)
  have H : ((spec_l10Chain.f k l0 a1).bind fun t780 => (spec_l11Ended.l0 k l0 t780 0)) = some r := h
  clear h
  replace H := Option.bind_eq_some_iff.mp H
  obtain ⟨t780, A30, H⟩ := H
  replace H : (spec_l11Ended.l0 k l0 t780 0) = some r := H
  have A3 := Aside0.mk A30
  clear A30
  have H' := Aside0.mk H
  clear H
  go_enter Try.func89, Try.ntmps89
  go_wp2_with (first | ((with_reducible refine gate_callee (f := 62) rfl ?_); refine goesL_ (some 9) rfl rfl Try.func62 (by kernel_rfl) rfl #[.slice A0 l0.length c0, .int .i64 a1] rfl (by (try simp only [List.map_toArray, List.map_cons, List.map_nil]); first | done | rfl | (simp only [List.length_drop, List.length_take]; rfl)) ?_; (with_reducible refine (spec_l10Chain.calls k _ _ l0 a1 t780 _ ?side1 ?side2 A3.out).mono ?_); (case side1 => repeat (first | exact HR0.out | (with_reducible refine Kd.C_alloc ?_ _) | (with_reducible refine Kd.C_drewN ?_ _) | (with_reducible refine Kd.C_drew ?_))); (case side2 => exact HC0.out); rintro e w4 ⟨v781, rfl, ho0, hb⟩; refine ⟨_, rfl, ?_⟩; have n0_ := Aside0.mk (Kd.R_lower ho0 (below_size (by repeat (first | (with_reducible first | exact HB.out | apply below_alloc | apply pw_below_drewN | apply below_drew1) | exact HB.out)))); have n1_ := Aside0.mk (below_step (by repeat (first | (with_reducible first | exact HB.out | apply below_alloc | apply pw_below_drewN | apply below_drew1) | exact HB.out)) hb); clear HB; have HO782 := n0_; have HB := n1_; clear n0_ n1_; (try clear hb); (try clear hb2); (try clear hk); (try clear hi); (try clear ho0)))
  go_loopg [6] k (fun kq v6 w' => ∃ (x6_1 : Int), v6 = .int .i64 x6_1 ∧ Aside0 (spec_l11Ended.l0 kq l0 t780 x6_1 = some r) ∧ Aside0 (kq ≤ k) ∧ Aside0 (Kd.R (Kd.int .i64) 3 w' w.heap.size (fun _ => True) v781 t780) ∧ Aside0 (Below w.heap.size w w'))
  case atStart => exact ⟨(0), (by first | rfl | (simp; done) | (simp [*]; done)), H', ⟨Nat.le_refl _⟩, ⟨by (with_reducible repeat (first | apply Kd.R_alloc | apply Kd.R_drewN | apply Kd.R_drew)); exact HO782.out⟩, ⟨by repeat (first | (with_reducible first | exact HB.out | apply below_alloc | apply pw_below_drewN | apply below_drew1) | exact HB.out)⟩⟩
  case round =>
    clear H'
    try clear p2
    obtain ⟨x6_1, rfl, HA, HK1, HO_5, HB⟩ := hrel
    cases gk with
    | zero => exact absurd HA.out (by simp [spec_l11Ended.l0])
    | succ k1 =>
      have H := HA.out
      clear HA
      simp only [spec_l11Ended.l0] at H
      by_cases c5 : x6_1 < (t780.length : Int)
      · rw [if_pos c5] at H
        have c5b0 : decide (x6_1 < (t780.length : Int)) = true := decide_eq_true c5
        clear c5
        by_cases c6 : 0 ≤ x6_1
        · rw [if_pos c6] at H
          have c6b0 : decide (0 ≤ x6_1) = true := decide_eq_true c6
          clear c6
          by_cases c7 : 0 ≤ (rd t780 x6_1)
          · rw [if_pos c7] at H
            have c7b0 : decide (0 ≤ (rd t780 x6_1)) = true := decide_eq_true c7
            clear c7
            by_cases c8 : (rd t780 x6_1) < (l0.length : Int)
            · rw [if_pos c8] at H
              have c8b0 : decide ((rd t780 x6_1) < (l0.length : Int)) = true := decide_eq_true c8
              clear c8
              obtain ⟨bq9, hbq9⟩ : ∃ b_ : Bool, b_ = ((rd_T59 l0 (rd t780 x6_1)).f7) := ⟨_, rfl⟩
              replace H : (if bq9 = true then (some true) else (spec_l11Ended.l0 k1 l0 t780 (wrap64 (x6_1 + 1)))) = some r := by rw [← hbq9] at H; exact H
              have Nbq9 := Aside0.mk hbq9
              clear hbq9
              by_cases c10 : bq9 = true
              · subst c10
                have H1 : (some true) = some r := by rw [if_pos rfl] at H; exact H
                clear H
                have H := H1
                clear H1
                obtain rfl := Option.some.inj H
                obtain ⟨Ao11, co11, eo11⟩ := Kd.R_slice HO_5.out
                subst eo11
                have p783 : 0 ≤ (x6_1 : Int) := of_decide_eq_true (by first | (with_reducible assumption) | assumption)
                have q783 : x6_1 < (t780.length : Int) := of_decide_eq_true (by first | (with_reducible assumption) | assumption)
                obtain ⟨ad783, e783, hx783_0⟩ := Kd.at_int (Kd.R_reads' HO_5.out).2.2 x6_1 p783 q783
                cases e783
                replace p783 := eq_true p783
                replace q783 := eq_true q783
                have p784 : 0 ≤ ((rd t780 x6_1) : Int) := of_decide_eq_true (by first | (with_reducible assumption) | assumption)
                have q784 : (rd t780 x6_1) < (l0.length : Int) := of_decide_eq_true (by first | (with_reducible assumption) | assumption)
                obtain ⟨ad784, A784_6, c784_6, A784_8, c784_8, A784_9, c784_9, A784_10, c784_10, A784_12, c784_12, e784, hx784_0, hx784_1, hx784_2, hx784_3, hx784_4, hx784_5, hx784_6, hx784_7, hx784_8, hx784_9, hx784_10, hx784_11, hx784_12, hx784_13, hl784_6, hi784_6, hl784_8, hi784_8, hl784_9, hi784_9, hl784_10, hi784_10, hl784_12, hi784_12⟩ := at_T59 HR0.out (rd t780 x6_1) p784 q784
                (try rw [← Nbq9.out] at hx784_11)
                cases e784
                replace hx784_0 := (HB.out.cell (World.block_lt_of_cell? w _ hx784_0)).trans hx784_0
                replace hx784_1 := (HB.out.cell (World.block_lt_of_cell? w _ hx784_1)).trans hx784_1
                replace hx784_2 := (HB.out.cell (World.block_lt_of_cell? w _ hx784_2)).trans hx784_2
                replace hx784_3 := (HB.out.cell (World.block_lt_of_cell? w _ hx784_3)).trans hx784_3
                replace hx784_4 := (HB.out.cell (World.block_lt_of_cell? w _ hx784_4)).trans hx784_4
                replace hx784_5 := (HB.out.cell (World.block_lt_of_cell? w _ hx784_5)).trans hx784_5
                replace hx784_6 := (HB.out.cell (World.block_lt_of_cell? w _ hx784_6)).trans hx784_6
                replace hx784_7 := (HB.out.cell (World.block_lt_of_cell? w _ hx784_7)).trans hx784_7
                replace hx784_8 := (HB.out.cell (World.block_lt_of_cell? w _ hx784_8)).trans hx784_8
                replace hx784_9 := (HB.out.cell (World.block_lt_of_cell? w _ hx784_9)).trans hx784_9
                replace hx784_10 := (HB.out.cell (World.block_lt_of_cell? w _ hx784_10)).trans hx784_10
                replace hx784_11 := (HB.out.cell (World.block_lt_of_cell? w _ hx784_11)).trans hx784_11
                replace hx784_12 := (HB.out.cell (World.block_lt_of_cell? w _ hx784_12)).trans hx784_12
                replace hx784_13 := (HB.out.cell (World.block_lt_of_cell? w _ hx784_13)).trans hx784_13
                have HR784_6 := Aside0.mk hi784_6
                have HC784_6 := Aside0.mk hl784_6
                clear hi784_6 hl784_6
                have HR784_8 := Aside0.mk hi784_8
                have HC784_8 := Aside0.mk hl784_8
                clear hi784_8 hl784_8
                have HR784_9 := Aside0.mk hi784_9
                have HC784_9 := Aside0.mk hl784_9
                clear hi784_9 hl784_9
                have HR784_10 := Aside0.mk hi784_10
                have HC784_10 := Aside0.mk hl784_10
                clear hi784_10 hl784_10
                have HR784_12 := Aside0.mk hi784_12
                have HC784_12 := Aside0.mk hl784_12
                clear hi784_12 hl784_12
                replace p784 := eq_true p784
                replace q784 := eq_true q784
                go_wp2
                go_ret
                exact ⟨by first | rfl | (simp [errW_none, errW_some] <;> rfl) | (simp [*, errW_none, errW_some] <;> rfl), by repeat (first | (with_reducible first | exact HB.out | apply below_alloc | apply pw_below_drewN | apply below_drew1) | exact HB.out)⟩
              · replace c10 := Bool.eq_false_iff.mpr c10
                subst c10
                have H1 : (spec_l11Ended.l0 k1 l0 t780 (wrap64 (x6_1 + 1))) = some r := by rw [if_neg (show ¬ (false = true) by decide)] at H; exact H
                clear H
                have H := H1
                clear H1
                have H' := Aside0.mk H
                clear H
                obtain ⟨Ao12, co12, eo12⟩ := Kd.R_slice HO_5.out
                subst eo12
                have p783 : 0 ≤ (x6_1 : Int) := of_decide_eq_true (by first | (with_reducible assumption) | assumption)
                have q783 : x6_1 < (t780.length : Int) := of_decide_eq_true (by first | (with_reducible assumption) | assumption)
                obtain ⟨ad783, e783, hx783_0⟩ := Kd.at_int (Kd.R_reads' HO_5.out).2.2 x6_1 p783 q783
                cases e783
                replace p783 := eq_true p783
                replace q783 := eq_true q783
                have p784 : 0 ≤ ((rd t780 x6_1) : Int) := of_decide_eq_true (by first | (with_reducible assumption) | assumption)
                have q784 : (rd t780 x6_1) < (l0.length : Int) := of_decide_eq_true (by first | (with_reducible assumption) | assumption)
                obtain ⟨ad784, A784_6, c784_6, A784_8, c784_8, A784_9, c784_9, A784_10, c784_10, A784_12, c784_12, e784, hx784_0, hx784_1, hx784_2, hx784_3, hx784_4, hx784_5, hx784_6, hx784_7, hx784_8, hx784_9, hx784_10, hx784_11, hx784_12, hx784_13, hl784_6, hi784_6, hl784_8, hi784_8, hl784_9, hi784_9, hl784_10, hi784_10, hl784_12, hi784_12⟩ := at_T59 HR0.out (rd t780 x6_1) p784 q784
                (try rw [← Nbq9.out] at hx784_11)
                cases e784
                replace hx784_0 := (HB.out.cell (World.block_lt_of_cell? w _ hx784_0)).trans hx784_0
                replace hx784_1 := (HB.out.cell (World.block_lt_of_cell? w _ hx784_1)).trans hx784_1
                replace hx784_2 := (HB.out.cell (World.block_lt_of_cell? w _ hx784_2)).trans hx784_2
                replace hx784_3 := (HB.out.cell (World.block_lt_of_cell? w _ hx784_3)).trans hx784_3
                replace hx784_4 := (HB.out.cell (World.block_lt_of_cell? w _ hx784_4)).trans hx784_4
                replace hx784_5 := (HB.out.cell (World.block_lt_of_cell? w _ hx784_5)).trans hx784_5
                replace hx784_6 := (HB.out.cell (World.block_lt_of_cell? w _ hx784_6)).trans hx784_6
                replace hx784_7 := (HB.out.cell (World.block_lt_of_cell? w _ hx784_7)).trans hx784_7
                replace hx784_8 := (HB.out.cell (World.block_lt_of_cell? w _ hx784_8)).trans hx784_8
                replace hx784_9 := (HB.out.cell (World.block_lt_of_cell? w _ hx784_9)).trans hx784_9
                replace hx784_10 := (HB.out.cell (World.block_lt_of_cell? w _ hx784_10)).trans hx784_10
                replace hx784_11 := (HB.out.cell (World.block_lt_of_cell? w _ hx784_11)).trans hx784_11
                replace hx784_12 := (HB.out.cell (World.block_lt_of_cell? w _ hx784_12)).trans hx784_12
                replace hx784_13 := (HB.out.cell (World.block_lt_of_cell? w _ hx784_13)).trans hx784_13
                have HR784_6 := Aside0.mk hi784_6
                have HC784_6 := Aside0.mk hl784_6
                clear hi784_6 hl784_6
                have HR784_8 := Aside0.mk hi784_8
                have HC784_8 := Aside0.mk hl784_8
                clear hi784_8 hl784_8
                have HR784_9 := Aside0.mk hi784_9
                have HC784_9 := Aside0.mk hl784_9
                clear hi784_9 hl784_9
                have HR784_10 := Aside0.mk hi784_10
                have HC784_10 := Aside0.mk hl784_10
                clear hi784_10 hl784_10
                have HR784_12 := Aside0.mk hi784_12
                have HC784_12 := Aside0.mk hl784_12
                clear hi784_12 hl784_12
                replace p784 := eq_true p784
                replace q784 := eq_true q784
                go_wp2
                go_roundg k1
                case measure => have := HK1.out; omega
                case rel => exact ⟨(wrap64 (x6_1 + 1)), (by first | rfl | (simp; done) | (simp [*]; done)), H', ⟨by have := HK1.out; omega⟩, ⟨by (with_reducible repeat (first | apply Kd.R_alloc | apply Kd.R_drewN | apply Kd.R_drew)); exact HO_5.out⟩, ⟨by repeat (first | (with_reducible first | exact HB.out | apply below_alloc | apply pw_below_drewN | apply below_drew1) | exact HB.out)⟩⟩
            · rw [if_neg c8] at H
              exact absurd H (by simp)
          · rw [if_neg c7] at H
            exact absurd H (by simp)
        · rw [if_neg c6] at H
          exact absurd H (by simp)
      · rw [if_neg c5] at H
        have c5b0 : decide (x6_1 < (t780.length : Int)) = false := decide_eq_false c5
        clear c5
        obtain rfl := Option.some.inj H
        obtain ⟨Ao13, co13, eo13⟩ := Kd.R_slice HO_5.out
        subst eo13
        go_wp2
        go_ret
        exact ⟨by first | rfl | (simp [errW_none, errW_some] <;> rfl) | (simp [*, errW_none, errW_some] <;> rfl), by repeat (first | (with_reducible first | exact HB.out | apply below_alloc | apply pw_below_drewN | apply below_drew1) | exact HB.out)⟩

theorem spec_l11Ended.is {l : List S59} (T : allUpto l.length (treeAt l) = true) (hl : l.length ≤ 400) (id : Int) : Ev (fun k => spec_l11Ended.f k l id) ((chainAt l id).any (fun k => (rd_T59 l k).f7)) := by
  unfold spec_l11Ended.f
  refine Ev.bind (spec_l10Chain.is T hl id) ?_
  have hin := chainAt_in T id
  have hlen := chainAt_len T id
  generalize chainAt l id = ch at *
  refine ev_loop (xs := ch) (fun k (_ : Unit) i => spec_l11Ended.l0 k l ch i) (fun ys _ => ys.any (fun k => (rd_T59 l k).f7)) (fun _ => ?_) (fun pre y ys _ hx ih => ?_) ()
  · simp only [spec_l11Ended.l0]
    exact Ev.no (by omega) (Ev.now _)
  · have hp := len_app hx
    have hrd : rd ch pre.length = y := by rw [hx]; exact at_app pre y ys _
    have hy := hin y (by rw [hx]; simp)
    simp only [spec_l11Ended.l0, hrd]
    refine Ev.yes (by omega) (Ev.yes (by omega) (Ev.yes hy.1 (Ev.yes hy.2 ?_)))
    rw [unw (x := (pre.length : Int) + 1) (by omega) (by omega)]
    refine Ev.cond (fun hc => Ev.is ?_) (fun hc => Ev.to (ih ()) ?_)
    · rw [List.any_cons, hc]
      rfl
    · rw [List.any_cons, Bool.eq_false_iff.2 hc, Bool.false_or]

/-! ### spec_Ended: function 38 -/
def spec_Ended.f (k : Nat) (l0 : List (S59)) (a1 : Int) : Option (Bool) := (spec_TreeOk.f k l0).bind fun t785 => (if t785 = true then ((spec_l11Ended.f k l0 a1).bind fun t786 => (some t786)) else (some false))
theorem spec_Ended.mono : ∀ a0 a1 k, LeO (spec_Ended.f k a0 a1) (spec_Ended.f (k + 1) a0 a1) := by
  intro a0 a1 k
  unfold spec_Ended.f
  repeat' first
      | (with_reducible exact spec_TreeOk.mono _ _)
      | (with_reducible exact spec_l11Ended.mono _ _ _)
      | (with_reducible exact LeO.refl _)
      | (with_reducible exact LeO.none _)
      | (with_reducible refine LeO.ite ?_ ?_)
      | (with_reducible refine LeO.bind ?_ (fun _ => ?_))
      | exact spec_TreeOk.mono _ _
      | exact spec_l11Ended.mono _ _ _
      | exact LeO.none _
      | refine LeO.ite ?_ ?_
      | refine LeO.bind ?_ (fun _ => ?_)
set_option maxHeartbeats 8000000 in
set_option maxRecDepth 100000 in
theorem spec_Ended.calls (k : Nat) (A0 : Option Addr) (c0 : Nat) (l0 : List (S59)) (a1 : Int) (r : Bool) (w : World) (hr0 : Kd.C k59 w A0 l0.length l0) (hc0 : l0.length ≤ c0) (h : spec_Ended.f k l0 a1 = some r) :
    Calls Try.prog 38 #[.slice A0 l0.length c0, .int .i64 a1] w fun e w' => e = .returned (.bool r) ∧ Below w.heap.size w w' := by
  have HR0 := Aside0.mk hr0
  have HC0 := Aside0.mk hc0
  clear hr0 hc0
  have HB := Aside0.mk (Below.refl w.heap.size w)
  have H : ((spec_TreeOk.f k l0).bind fun t785 => (if t785 = true then ((spec_l11Ended.f k l0 a1).bind fun t786 => (some t786)) else (some false))) = some r := h
  clear h
  replace H := Option.bind_eq_some_iff.mp H
  obtain ⟨t785, A30, H⟩ := H
  replace H : (if t785 = true then ((spec_l11Ended.f k l0 a1).bind fun t786 => (some t786)) else (some false)) = some r := H
  have A3 := Aside0.mk A30
  clear A30
  by_cases c4 : t785 = true
  · subst c4
    have H1 : ((spec_l11Ended.f k l0 a1).bind fun t786 => (some t786)) = some r := by rw [if_pos rfl] at H; exact H
    clear H
    have H := H1
    clear H1
    replace H := Option.bind_eq_some_iff.mp H
    obtain ⟨t786, A50, H⟩ := H
    replace H : (some t786) = some r := H
    have A5 := Aside0.mk A50
    clear A50
    obtain rfl := Option.some.inj H
    go_enter Try.func38, Try.ntmps38
    go_wp2_with (first | ((with_reducible refine gate_callee (f := 21) rfl ?_); refine goesL_ (some 6) rfl rfl Try.func21 (by kernel_rfl) rfl #[.slice A0 l0.length c0] rfl (by (try simp only [List.map_toArray, List.map_cons, List.map_nil]); first | done | rfl | (simp only [List.length_drop, List.length_take]; rfl)) ?_; (with_reducible refine (spec_TreeOk.calls k _ _ l0 true _ ?side1 ?side2 A3.out).mono ?_); (case side1 => repeat (first | exact HR0.out | (with_reducible refine Kd.C_alloc ?_ _) | (with_reducible refine Kd.C_drewN ?_ _) | (with_reducible refine Kd.C_drew ?_))); (case side2 => exact HC0.out); rintro e w6 ⟨rfl, hb⟩; refine ⟨_, rfl, ?_⟩; have n0_ := Aside0.mk (below_step (by repeat (first | (with_reducible first | exact HB.out | apply below_alloc | apply pw_below_drewN | apply below_drew1) | exact HB.out)) hb); clear HB; have HB := n0_; clear n0_; (try clear hb); (try clear hb2); (try clear hk); (try clear hi)) | (go_at_call 89; (with_reducible refine (spec_l11Ended.calls k _ _ l0 a1 t786 _ ?side1 ?side2 A5.out).mono ?_); (case side1 => repeat (first | exact (Kd.C_below HR0.out HB.out) | (with_reducible refine Kd.C_alloc ?_ _) | (with_reducible refine Kd.C_drewN ?_ _) | (with_reducible refine Kd.C_drew ?_))); (case side2 => exact HC0.out); rintro e w7 ⟨rfl, hb⟩; have n0_ := Aside0.mk (below_step (by repeat (first | (with_reducible first | exact HB.out | apply below_alloc | apply pw_below_drewN | apply below_drew1) | exact HB.out)) hb); clear HB; have HB := n0_; clear n0_; (try clear hb); (try clear hb2); (try clear hk); (try clear hi)))
    go_ret
    exact ⟨by first | rfl | (simp [errW_none, errW_some] <;> rfl) | (simp [*, errW_none, errW_some] <;> rfl), by repeat (first | (with_reducible first | exact HB.out | apply below_alloc | apply pw_below_drewN | apply below_drew1) | exact HB.out)⟩
  · replace c4 := Bool.eq_false_iff.mpr c4
    subst c4
    have H1 : (some false) = some r := by rw [if_neg (show ¬ (false = true) by decide)] at H; exact H
    clear H
    have H := H1
    clear H1
    obtain rfl := Option.some.inj H
    go_enter Try.func38, Try.ntmps38
    go_wp2_with (first | ((with_reducible refine gate_callee (f := 21) rfl ?_); refine goesL_ (some 6) rfl rfl Try.func21 (by kernel_rfl) rfl #[.slice A0 l0.length c0] rfl (by (try simp only [List.map_toArray, List.map_cons, List.map_nil]); first | done | rfl | (simp only [List.length_drop, List.length_take]; rfl)) ?_; (with_reducible refine (spec_TreeOk.calls k _ _ l0 false _ ?side1 ?side2 A3.out).mono ?_); (case side1 => repeat (first | exact HR0.out | (with_reducible refine Kd.C_alloc ?_ _) | (with_reducible refine Kd.C_drewN ?_ _) | (with_reducible refine Kd.C_drew ?_))); (case side2 => exact HC0.out); rintro e w8 ⟨rfl, hb⟩; refine ⟨_, rfl, ?_⟩; have n0_ := Aside0.mk (below_step (by repeat (first | (with_reducible first | exact HB.out | apply below_alloc | apply pw_below_drewN | apply below_drew1) | exact HB.out)) hb); clear HB; have HB := n0_; clear n0_; (try clear hb); (try clear hb2); (try clear hk); (try clear hi)))
    go_ret
    exact ⟨by first | rfl | (simp [errW_none, errW_some] <;> rfl) | (simp [*, errW_none, errW_some] <;> rfl), by repeat (first | (with_reducible first | exact HB.out | apply below_alloc | apply pw_below_drewN | apply below_drew1) | exact HB.out)⟩

theorem spec_Ended.is {l : List S59} (hl : l.length ≤ maxLen) (hw : ∀ b ∈ l, blockFit b) (id : Int) : Ev (fun k => spec_Ended.f k l id) (endedB l id) := by
  unfold spec_Ended.f endedB
  refine Ev.bind (spec_TreeOk.is hl hw) (Ev.cond (fun h => ?_) (fun h => Ev.is (by rw [Bool.eq_false_iff.2 h]; rfl)))
  have ⟨T, h4⟩ := treeOk_is h
  rw [h, Bool.true_and]
  exact Ev.bind (spec_l11Ended.is T h4 id) (Ev.now _)

/-! ### slices.IndexFunc of numbers: walked in this session -/
set_option maxHeartbeats 1000000 in
set_option maxRecDepth 100000 in
theorem slices_IndexFunc_int_int.does {p : Int → Bool} {f : Nat} {lb : Array Value} (eg : ∀ args w, (callFunc f args).run Try.prog w = .ok (.enter f args) w) {l : List Int} (hl : l.length ≤ maxLen) {B : Option Addr} {c : Nat} {w : World} (hr : Kd.C (Kd.int .i64) w B l.length l) (hc : l.length ≤ c)
    (hp : ∀ (e : On w) (v : Int), v ∈ l → Calls Try.prog f (#[.int .i64 v] ++ lb) e.now fun r W => r = .returned (.bool (p v)) ∧ Below e.now.heap.size e.now W) :
    Calls Try.prog 149 #[.slice B l.length c, .func (.func f) #[] lb] w fun e w' => e = .returned (.int .i64 (idxOf p l)) ∧ Below w.heap.size w w' := by
  have hn : (l.length : Int) ≤ 9223372036854775807 := by have : maxLen = 9223372036854775807 := rfl; omega
  have HR := Aside0.mk hr
  have HP := Aside0.mk hp
  clear hr hp hl
  go_enter Try.func149, Try.ntmps149
  go_wp2
  go_loopg [5, 8] l.length (fun g _ v8 w' => ∃ (i : Int) (e : On w), v8 = .int .i64 i ∧ w' = e.now ∧ 0 ≤ i ∧ i ≤ l.length ∧ Aside0 ((l.length : Int) - i ≤ g) ∧ Aside0 (∀ j, j < i.toNat → p (l.getD j (0 : Int)) = false))
  case atStart => exact ⟨0, On.here w, rfl, rfl, Int.le_refl _, by omega, ⟨by omega⟩, ⟨fun j hj => absurd hj (by simp)⟩⟩
  case round =>
    obtain ⟨i, e, rfl, rfl, hi0, hi1, HG, HA⟩ := hrel
    by_cases c1 : i < (l.length : Int)
    · obtain ⟨ad, e1, h0⟩ := Kd.at_int HR.out i hi0 c1
      cases e1
      have R0 := On.cell h0
      clear h0
      have E1 := Aside0.mk (fun e : On w => HP.out e (rd l i) (getD_mem (by omega) _))
      cases hb1 : p (rd l i)
      · rw [hb1] at E1
        have HT : Aside0 (p (l.getD i.toNat (0 : Int)) = false) := ⟨hb1⟩
        clear hb1
        go_wp2_with fail
        refine BW.call (E1.out _) (fun e2 => ?_)
        go_wp2
        go_roundg (l.length - i.toNat - 1)
        case measure => have := HG.out; omega
        case rel => exact ⟨i + 1, e2, rfl, rfl, by omega, by omega, ⟨by omega⟩, ⟨upto_next hi0 HA.out HT.out⟩⟩
      · rw [hb1] at E1
        have HF := Aside0.mk (idxOf_hit (z := (0 : Int)) (i := i.toNat) (by omega) hb1 HA.out)
        clear hb1
        go_wp2_with fail
        refine BW.call (E1.out _) (fun e2 => ?_)
        go_wp2
        go_ret
        exact ⟨by rw [HF.out, Int.toNat_of_nonneg hi0]; rfl, e2.ok⟩
    · have HF := Aside0.mk (idxOf_miss (z := (0 : Int)) (l := l) (fun j hj => HA.out j (by omega)))
      go_wp2
      go_ret
      exact ⟨by rw [HF.out]; rfl, e.ok⟩

/-! ### impl_endOf_1: walked in this session (the function value of endOf) -/
set_option maxHeartbeats 2000000 in
theorem impl_endOf_1.does {l : List S59} (hl : l.length ≤ maxLen) {B : Option Addr} {c g : Nat} {x : Int} (hx : 0 ≤ idAt l x) {w : World} (hs : w.cell? ⟨g, 0, none⟩ = some (.slice B l.length c)) (hr : Kd.C k59 w B l.length l) (hc : l.length ≤ c) :
    Calls Try.prog 150 #[.int .i64 x, .pointer (some ⟨g, 0, none⟩)] w fun e w' => e = .returned (.bool (endIs l x)) ∧ Below w.heap.size w w' := by
  have h1 := idAt_hi l x
  have HI := Aside0.mk (fun e : On w => impl_blockAt.does (id := x) hl (On.row hr e) hc)
  have HF : Aside0 ((rd_T59 l (idAt l x)).f7 = endIs l x) := ⟨rfl⟩
  obtain ⟨ad, A6, u6, A8, u8, A9, u9, A10, u10, A12, u12, e1, h0_, h1_, h2_, h3_, h4_, h5_, h6_, h7_, h8_, h9_, h10_, h11_, h12_, h13_, l6, g6, l8, g8, l9, g9, l10, g10, l12, g12⟩ := at_T59 hr (idAt l x) hx h1
  cases e1
  have N0 := On.cell hs
  have R11 := On.cell h11_
  clear h0_ h1_ h2_ h3_ h4_ h5_ h6_ h7_ h8_ h9_ h10_ h11_ h12_ h13_ l6 g6 l8 g8 l9 g9 l10 g10 l12 g12 hr hs
  generalize idAt l x = k at *
  generalize (rd_T59 l k).f7 = b at *
  have c1 : decide (0 ≤ k) = true := decide_eq_true hx
  have c2 : decide (k < (l.length : Int)) = true := decide_eq_true h1
  go_enter Try.func150, Try.ntmps150
  have N00 := N0 (On.here w)
  go_wp2
  refine BW.regionAt (by kernel_rfl) (by kernel_rfl) ?_
  repeat (go_big_quiet_step (first | exact BW.quiet (HI.out _)))
  refine wpQuiet_nil ?_
  rintro _ ⟨e1, rfl⟩
  go_wp2
  go_ret
  exact ⟨by rw [← HF.out]; rfl, e1.ok⟩

/-! ### impl_endOf: walked in this session -/
set_option maxHeartbeats 1000000 in
theorem impl_endOf.does {l : List S59} (hl : l.length ≤ maxLen) {ch : List Int} (hm : ch.length ≤ maxLen) (hin : ∀ x ∈ ch, 0 ≤ idAt l x) {B D : Option Addr} {c d : Nat} {w : World} (hr : Kd.C k59 w B l.length l) (hc : l.length ≤ c) (hs : Kd.C (Kd.int .i64) w D ch.length ch) (hd : ch.length ≤ d) :
    Calls Try.prog 90 #[.slice B l.length c, .slice D ch.length d] w fun e w' => e = .returned (.int .i64 (idxOf (endIs l) ch)) ∧ Below w.heap.size w w' := by
  have eg : ∀ args w, (callFunc 150 args).run Try.prog w = .ok (.enter 150 args) w := fun args w => enters_ Try.func150 (by kernel_rfl) rfl args w
  have N0 := On.new (e := On.here w) (cs := #[.slice B l.length c]) (t := 29) (i := 0) rfl
  have HI := Aside0.mk (slices_IndexFunc_int_int.does (p := endIs l) (lb := #[.pointer (some ⟨w.heap.size, 0, none⟩)]) eg hm (w := w.alloc (.cells #[.slice B l.length c] 29)) (Kd.C_alloc hs _) hd (fun e v hv => impl_endOf_1.does hl (hin v hv) (N0 e) (On.row (Kd.C_alloc hr _) e) hc))
  clear hr hs hl hm eg N0 hin
  generalize idxOf (endIs l) ch = b at *
  go_enter Try.func90, Try.ntmps90
  go_wp2_with (go_at_call 149; refine HI.out.mono ?_; rintro e w' ⟨rfl, hb⟩)
  go_ret
  exact ⟨rfl, below_then (below_alloc (Below.refl _ _) _) (by simp) hb⟩

/-! ### impl_Ended: walked in this session -/
theorem ended_eq {l : List S59} (id : Int) : (∀ x ∈ (if treeOk l = true then chainIds l id else []), 0 ≤ idAt l x) ∧ (if treeOk l = true then chainIds l id else []).length ≤ 400 ∧ decide (idxOf (endIs l) (if treeOk l = true then chainIds l id else []) ≥ 0) = endedB l id := by
  by_cases h : treeOk l = true
  · have ⟨T, h4⟩ := treeOk_is h
    have hin := chainAt_in T id
    have hlen := chainAt_len T id
    rw [if_pos h]
    unfold chainIds endedB
    refine ⟨fun x hx => ?_, by rw [List.length_map]; omega, ?_⟩
    · obtain ⟨k, hk, rfl⟩ := List.mem_map.1 hx
      rw [idAt_of T (hin k hk).1 (hin k hk).2]
      exact (hin k hk).1
    · rw [(idxOf_ge (endIs l) _).2, h, Bool.true_and, List.any_map]
      have : ∀ (ch : List Int), (∀ k ∈ ch, 0 ≤ k ∧ k < l.length) → ch.any (endIs l ∘ idOf l) = ch.any (fun k => (rd_T59 l k).f7) := by
        intro ch
        induction ch with
        | nil => intro _; rfl
        | cons k ch ih =>
          intro hk
          rw [List.any_cons, List.any_cons, ih (fun j hj => hk j (List.mem_cons_of_mem _ hj))]
          congr 1
          have h1 := hk k List.mem_cons_self
          show (rd_T59 l (idAt l (idOf l k))).f7 = _
          rw [idAt_of T h1.1 h1.2]
      exact this _ hin
  · rw [if_neg h]
    unfold endedB
    rw [Bool.eq_false_iff.2 h]
    exact ⟨fun x hx => (by cases hx), Nat.zero_le _, rfl⟩
set_option maxHeartbeats 1000000 in
theorem impl_Ended.does {l : List S59} (hl : l.length ≤ maxLen) (hw : ∀ b ∈ l, blockFit b) {id : Int} {B : Option Addr} {c : Nat} {w : World} (hr : Kd.C k59 w B l.length l) (hc : l.length ≤ c) :
    Calls Try.prog 39 #[.slice B l.length c, .int .i64 id] w fun e w' => e = .returned (.bool (endedB l id)) ∧ Below w.heap.size w w' := by
  have HE := ended_eq (l := l) id
  have hm : maxLen = 9223372036854775807 := rfl
  obtain ⟨k, hk⟩ := (impl_ChainOf.is hl hw id).rounds
  have HC := Aside0.mk (impl_ChainOf.calls k B c l id _ w hr hc hk)
  clear hk
  generalize (if treeOk l = true then chainIds l id else []) = ch at *
  have HI := Aside0.mk (fun (W : World) (D : Option Addr) (d : Nat) (hb : Below w.heap.size w W) (hs : Kd.C (Kd.int .i64) W D ch.length ch) (hd : ch.length ≤ d) => impl_endOf.does hl (by omega) HE.1 (Kd.C_below hr hb) hc hs hd)
  have HF := Aside0.mk HE.2.2
  clear hr hl hw HE hm
  generalize idxOf (endIs l) ch = b at *
  go_enter Try.func39, Try.ntmps39
  go_wp2_with fail
  refine HC.out.mono ?_
  rintro _ w1 ⟨v0, rfl, hR, hb⟩
  obtain ⟨D, d, rfl, hd, hs⟩ := Kd.R_reads hR
  clear hR
  go_wp2_with fail
  refine (HI.out w1 D d hb hs hd).mono ?_
  rintro _ w2 ⟨rfl, hb2⟩
  go_wp2
  go_ret
  exact ⟨by rw [← HF.out]; rfl, below_then hb hb.size hb2⟩

instance fitAll (l : List S59) : Decidable (l.length ≤ maxLen ∧ ∀ b ∈ l, blockFit b) := inferInstance
/-- What Ended comes to, told as the printer tells it (the true function is walked by hand above). -/
def impl_Ended.f (_k : Nat) (l0 : List S59) (a1 : Int) : Option Bool := if l0.length ≤ maxLen ∧ ∀ b ∈ l0, blockFit b then some (endedB l0 a1) else none
theorem impl_Ended.mono : ∀ a0 a1 k, LeO (impl_Ended.f k a0 a1) (impl_Ended.f (k + 1) a0 a1) := fun _ _ _ => LeO.refl _
theorem impl_Ended.calls (k : Nat) (A0 : Option Addr) (c0 : Nat) (l0 : List S59) (a1 : Int) (r : Bool) (w : World) (hr0 : Kd.C k59 w A0 l0.length l0) (hc0 : l0.length ≤ c0) (h : impl_Ended.f k l0 a1 = some r) :
    Calls Try.prog 39 #[.slice A0 l0.length c0, .int .i64 a1] w fun e w' => e = .returned (.bool r) ∧ Below w.heap.size w w' := by
  unfold impl_Ended.f at h
  split at h
  · next hq =>
    cases h
    exact impl_Ended.does hq.1 hq.2 hr0 hc0
  · cases h
theorem impl_Ended.is {l : List S59} (hl : l.length ≤ maxLen) (hw : ∀ b ∈ l, blockFit b) (id : Int) : Ev (fun k => impl_Ended.f k l id) (endedB l id) := by
  unfold impl_Ended.f
  rw [if_pos ⟨hl, hw⟩]
  exact Ev.now _

/-! ### laws_FnExactEnded: function 8 -/
def laws_FnExactEnded.f (k : Nat) (l0 : List (S51)) (a1 : Int) : Option (Bool) := (laws_szBlockS.f k l0 1048576).bind fun t789 => (if t789 < 0 then (some true) else ((laws_toBlockS.f k l0).bind fun t790 => ((spec_Ended.f k t790 a1).bind fun t793 => ((laws_toBlockS.f k l0).bind fun t794 => ((impl_Ended.f k t794 a1).bind fun t797 => (if (t797 != t793) = true then (some false) else ((laws_toBlockS.f k l0).bind fun t798 => ((laws_eqBlockS.f k t794 t798).bind fun t801 => (if t801 = true then (some true) else (some false))))))))))
theorem laws_FnExactEnded.mono : ∀ a0 a1 k, LeO (laws_FnExactEnded.f k a0 a1) (laws_FnExactEnded.f (k + 1) a0 a1) := by
  intro a0 a1 k
  unfold laws_FnExactEnded.f
  repeat' first
      | (with_reducible exact impl_Ended.mono _ _ _)
      | (with_reducible exact laws_eqBlockS.mono _ _ _)
      | (with_reducible exact laws_szBlockS.mono _ _ _)
      | (with_reducible exact laws_toBlockS.mono _ _)
      | (with_reducible exact spec_Ended.mono _ _ _)
      | (with_reducible exact LeO.refl _)
      | (with_reducible exact LeO.none _)
      | (with_reducible refine LeO.ite ?_ ?_)
      | (with_reducible refine LeO.bind ?_ (fun _ => ?_))
      | exact impl_Ended.mono _ _ _
      | exact laws_eqBlockS.mono _ _ _
      | exact laws_szBlockS.mono _ _ _
      | exact laws_toBlockS.mono _ _
      | exact spec_Ended.mono _ _ _
      | exact LeO.none _
      | refine LeO.ite ?_ ?_
      | refine LeO.bind ?_ (fun _ => ?_)
set_option maxHeartbeats 8000000 in
set_option maxRecDepth 100000 in
theorem laws_FnExactEnded.calls (k : Nat) (A0 : Option Addr) (c0 : Nat) (l0 : List (S51)) (a1 : Int) (r : Bool) (w : World) (hr0 : Kd.C k51 w A0 l0.length l0) (hc0 : l0.length ≤ c0) (h : laws_FnExactEnded.f k l0 a1 = some r) :
    Calls Try.prog 8 #[.slice A0 l0.length c0, .int .i64 a1] w fun e w' => e = .returned (.bool r) ∧ Below w.heap.size w w' := by
  have HR0 := Aside0.mk hr0
  have HC0 := Aside0.mk hc0
  clear hr0 hc0
  have HB := Aside0.mk (Below.refl w.heap.size w)
  have H : ((laws_szBlockS.f k l0 1048576).bind fun t789 => (if t789 < 0 then (some true) else ((laws_toBlockS.f k l0).bind fun t790 => ((spec_Ended.f k t790 a1).bind fun t793 => ((laws_toBlockS.f k l0).bind fun t794 => ((impl_Ended.f k t794 a1).bind fun t797 => (if (t797 != t793) = true then (some false) else ((laws_toBlockS.f k l0).bind fun t798 => ((laws_eqBlockS.f k t794 t798).bind fun t801 => (if t801 = true then (some true) else (some false))))))))))) = some r := h
  clear h
  replace H := Option.bind_eq_some_iff.mp H
  obtain ⟨t789, A30, H⟩ := H
  replace H : (if t789 < 0 then (some true) else ((laws_toBlockS.f k l0).bind fun t790 => ((spec_Ended.f k t790 a1).bind fun t793 => ((laws_toBlockS.f k l0).bind fun t794 => ((impl_Ended.f k t794 a1).bind fun t797 => (if (t797 != t793) = true then (some false) else ((laws_toBlockS.f k l0).bind fun t798 => ((laws_eqBlockS.f k t794 t798).bind fun t801 => (if t801 = true then (some true) else (some false)))))))))) = some r := H
  have A3 := Aside0.mk A30
  clear A30
  by_cases c4 : t789 < 0
  · rw [if_pos c4] at H
    have c4b0 : decide (t789 < 0) = true := decide_eq_true c4
    clear c4
    obtain rfl := Option.some.inj H
    go_enter Try.func8, Try.ntmps8
    go_wp2_with (first | ((with_reducible refine gate_callee (f := 13) rfl ?_); refine goesL_ (some 11) rfl rfl Try.func13 (by kernel_rfl) rfl #[.slice A0 l0.length c0, .int .i64 1048576] rfl (by (try simp only [List.map_toArray, List.map_cons, List.map_nil]); first | done | rfl | (simp only [List.length_drop, List.length_take]; rfl)) ?_; (with_reducible refine (laws_szBlockS.calls k _ _ l0 1048576 t789 _ ?side1 ?side2 A3.out).mono ?_); (case side1 => repeat (first | exact HR0.out | (with_reducible refine Kd.C_alloc ?_ _) | (with_reducible refine Kd.C_drewN ?_ _) | (with_reducible refine Kd.C_drew ?_))); (case side2 => exact HC0.out); rintro e w5 ⟨rfl, hb⟩; refine ⟨_, rfl, ?_⟩; have n0_ := Aside0.mk (below_step (by repeat (first | (with_reducible first | exact HB.out | apply below_alloc | apply pw_below_drewN | apply below_drew1) | exact HB.out)) hb); clear HB; have HB := n0_; clear n0_; (try clear hb); (try clear hb2); (try clear hk); (try clear hi)))
    go_ret
    exact ⟨by first | rfl | (simp [errW_none, errW_some] <;> rfl) | (simp [*, errW_none, errW_some] <;> rfl), by repeat (first | (with_reducible first | exact HB.out | apply below_alloc | apply pw_below_drewN | apply below_drew1) | exact HB.out)⟩
  · rw [if_neg c4] at H
    have c4b0 : decide (t789 < 0) = false := decide_eq_false c4
    clear c4
    replace H := Option.bind_eq_some_iff.mp H
    obtain ⟨t790, A60, H⟩ := H
    replace H : ((spec_Ended.f k t790 a1).bind fun t793 => ((laws_toBlockS.f k l0).bind fun t794 => ((impl_Ended.f k t794 a1).bind fun t797 => (if (t797 != t793) = true then (some false) else ((laws_toBlockS.f k l0).bind fun t798 => ((laws_eqBlockS.f k t794 t798).bind fun t801 => (if t801 = true then (some true) else (some false)))))))) = some r := H
    have A6 := Aside0.mk A60
    clear A60
    replace H := Option.bind_eq_some_iff.mp H
    obtain ⟨t793, A70, H⟩ := H
    replace H : ((laws_toBlockS.f k l0).bind fun t794 => ((impl_Ended.f k t794 a1).bind fun t797 => (if (t797 != t793) = true then (some false) else ((laws_toBlockS.f k l0).bind fun t798 => ((laws_eqBlockS.f k t794 t798).bind fun t801 => (if t801 = true then (some true) else (some false))))))) = some r := H
    have A7 := Aside0.mk A70
    clear A70
    replace H := Option.bind_eq_some_iff.mp H
    obtain ⟨t794, A80, H⟩ := H
    replace H : ((impl_Ended.f k t794 a1).bind fun t797 => (if (t797 != t793) = true then (some false) else ((laws_toBlockS.f k l0).bind fun t798 => ((laws_eqBlockS.f k t794 t798).bind fun t801 => (if t801 = true then (some true) else (some false)))))) = some r := H
    have A8 := Aside0.mk A80
    clear A80
    replace H := Option.bind_eq_some_iff.mp H
    obtain ⟨t797, A90, H⟩ := H
    replace H : (if (t797 != t793) = true then (some false) else ((laws_toBlockS.f k l0).bind fun t798 => ((laws_eqBlockS.f k t794 t798).bind fun t801 => (if t801 = true then (some true) else (some false))))) = some r := H
    have A9 := Aside0.mk A90
    clear A90
    by_cases c10 : (t797 != t793) = true
    · rw [if_pos c10] at H
      have c10b0 : (t797 != t793) = true := c10
      (try (have c10b1 : decide (t797 = t793) = false := by simpa using c10))
      (try (have c10b2 : (t797 == t793) = false := by simpa using c10))
      (try (have c10b3 : ¬ (t797 = t793) := by simpa using c10))
      clear c10
      obtain rfl := Option.some.inj H
      go_enter Try.func8, Try.ntmps8
      go_wp2_with (first | ((with_reducible refine gate_callee (f := 13) rfl ?_); refine goesL_ (some 11) rfl rfl Try.func13 (by kernel_rfl) rfl #[.slice A0 l0.length c0, .int .i64 1048576] rfl (by (try simp only [List.map_toArray, List.map_cons, List.map_nil]); first | done | rfl | (simp only [List.length_drop, List.length_take]; rfl)) ?_; (with_reducible refine (laws_szBlockS.calls k _ _ l0 1048576 t789 _ ?side1 ?side2 A3.out).mono ?_); (case side1 => repeat (first | exact HR0.out | (with_reducible refine Kd.C_alloc ?_ _) | (with_reducible refine Kd.C_drewN ?_ _) | (with_reducible refine Kd.C_drew ?_))); (case side2 => exact HC0.out); rintro e w11 ⟨rfl, hb⟩; refine ⟨_, rfl, ?_⟩; have n0_ := Aside0.mk (below_step (by repeat (first | (with_reducible first | exact HB.out | apply below_alloc | apply pw_below_drewN | apply below_drew1) | exact HB.out)) hb); clear HB; have HB := n0_; clear n0_; (try clear hb); (try clear hb2); (try clear hk); (try clear hi)) | ((with_reducible refine gate_callee (f := 16) rfl ?_); refine goesL_ (some 15) rfl rfl Try.func16 (by kernel_rfl) rfl #[.slice A0 l0.length c0] rfl (by (try simp only [List.map_toArray, List.map_cons, List.map_nil]); first | done | rfl | (simp only [List.length_drop, List.length_take]; rfl)) ?_; (with_reducible refine (laws_toBlockS.calls k _ _ l0 t790 _ ?side1 ?side2 A6.out).mono ?_); (case side1 => repeat (first | exact (Kd.C_below HR0.out HB.out) | (with_reducible refine Kd.C_alloc ?_ _) | (with_reducible refine Kd.C_drewN ?_ _) | (with_reducible refine Kd.C_drew ?_))); (case side2 => exact HC0.out); rintro e w12 ⟨v791, rfl, ho0, hb⟩; refine ⟨_, rfl, ?_⟩; have n0_ := Aside0.mk (Kd.S_lower ho0 (below_size (by repeat (first | (with_reducible first | exact HB.out | apply below_alloc | apply pw_below_drewN | apply below_drew1) | exact HB.out)))); have n1_ := Aside0.mk (below_step (by repeat (first | (with_reducible first | exact HB.out | apply below_alloc | apply pw_below_drewN | apply below_drew1) | exact HB.out)) hb); clear HB; have HO792 := n0_; have HB := n1_; clear n0_ n1_; (try clear hb); (try clear hb2); (try clear hk); (try clear hi); (try clear ho0); obtain ⟨Ao13, co13, eo13⟩ := Kd.S_slice HO792.out; subst eo13) | ((with_reducible refine gate_callee (f := 38) rfl ?_); refine goesL_ (some 17) rfl rfl Try.func38 (by kernel_rfl) rfl #[.slice Ao13 t790.length co13, .int .i64 a1] rfl (by (try simp only [List.map_toArray, List.map_cons, List.map_nil]); first | done | rfl | (simp only [List.length_drop, List.length_take]; rfl)) ?_; (with_reducible refine (spec_Ended.calls k _ _ t790 a1 t793 _ ?side1 ?side2 A7.out).mono ?_); (case side1 => repeat (first | exact (Kd.S_reads' HO792.out).2.2 | (with_reducible refine Kd.C_alloc ?_ _) | (with_reducible refine Kd.C_drewN ?_ _) | (with_reducible refine Kd.C_drew ?_))); (case side2 => exact (Kd.S_reads' HO792.out).2.1); rintro e w14 ⟨rfl, hb⟩; refine ⟨_, rfl, ?_⟩; have n0_ := Aside0.mk (Kd.S_below (by (with_reducible repeat (first | apply Kd.S_alloc | apply Kd.S_drewN | apply Kd.S_drew)); exact HO792.out) hb); have n1_ := Aside0.mk (below_step (by repeat (first | (with_reducible first | exact HB.out | apply below_alloc | apply pw_below_drewN | apply below_drew1) | exact HB.out)) hb); clear HO792; clear HB; have HO792 := n0_; have HB := n1_; clear n0_ n1_; (try clear hb); (try clear hb2); (try clear hk); (try clear hi)) | ((with_reducible refine gate_callee (f := 16) rfl ?_); refine goesL_ (some 19) rfl rfl Try.func16 (by kernel_rfl) rfl #[.slice A0 l0.length c0] rfl (by (try simp only [List.map_toArray, List.map_cons, List.map_nil]); first | done | rfl | (simp only [List.length_drop, List.length_take]; rfl)) ?_; (with_reducible refine (laws_toBlockS.calls k _ _ l0 t794 _ ?side1 ?side2 A8.out).mono ?_); (case side1 => repeat (first | exact (Kd.C_below HR0.out HB.out) | (with_reducible refine Kd.C_alloc ?_ _) | (with_reducible refine Kd.C_drewN ?_ _) | (with_reducible refine Kd.C_drew ?_))); (case side2 => exact HC0.out); rintro e w15 ⟨v795, rfl, ho0, hb⟩; refine ⟨_, rfl, ?_⟩; have n0_ := Aside0.mk (Kd.S_elder' (by (with_reducible repeat (first | apply Kd.S_alloc | apply Kd.S_drewN | apply Kd.S_drew)); exact HO792.out) (Kd.S_base ho0) hb); have n1_ := Aside0.mk (Kd.S_lower (Kd.S_new' ho0 (Kd.S_lt (by (with_reducible repeat (first | apply Kd.S_alloc | apply Kd.S_drewN | apply Kd.S_drew)); exact HO792.out))) (below_size (by repeat (first | (with_reducible first | exact HB.out | apply below_alloc | apply pw_below_drewN | apply below_drew1) | exact HB.out)))); have n2_ := Aside0.mk (below_step (by repeat (first | (with_reducible first | exact HB.out | apply below_alloc | apply pw_below_drewN | apply below_drew1) | exact HB.out)) hb); clear HO792; clear HB; have HO792 := n0_; have HO796 := n1_; have HB := n2_; clear n0_ n1_ n2_; (try clear hb); (try clear hb2); (try clear hk); (try clear hi); (try clear ho0); obtain ⟨Ao16, co16, eo16⟩ := Kd.S_slice HO796.out; subst eo16) | ((with_reducible refine gate_callee (f := 39) rfl ?_); refine goesL_ (some 22) rfl rfl Try.func39 (by kernel_rfl) rfl #[.slice Ao16 t794.length co16, .int .i64 a1] rfl (by (try simp only [List.map_toArray, List.map_cons, List.map_nil]); first | done | rfl | (simp only [List.length_drop, List.length_take]; rfl)) ?_; (with_reducible refine (impl_Ended.calls k _ _ t794 a1 t797 _ ?side1 ?side2 A9.out).mono ?_); (case side1 => repeat (first | exact (Kd.S_reads' HO796.out).2.2 | (with_reducible refine Kd.C_alloc ?_ _) | (with_reducible refine Kd.C_drewN ?_ _) | (with_reducible refine Kd.C_drew ?_))); (case side2 => exact (Kd.S_reads' HO796.out).2.1); rintro e w17 ⟨rfl, hb⟩; refine ⟨_, rfl, ?_⟩; have n0_ := Aside0.mk (Kd.S_below (by (with_reducible repeat (first | apply Kd.S_alloc | apply Kd.S_drewN | apply Kd.S_drew)); exact HO792.out) hb); have n1_ := Aside0.mk (Kd.S_below (by (with_reducible repeat (first | apply Kd.S_alloc | apply Kd.S_drewN | apply Kd.S_drew)); exact HO796.out) hb); have n2_ := Aside0.mk (below_step (by repeat (first | (with_reducible first | exact HB.out | apply below_alloc | apply pw_below_drewN | apply below_drew1) | exact HB.out)) hb); clear HO792; clear HO796; clear HB; have HO792 := n0_; have HO796 := n1_; have HB := n2_; clear n0_ n1_ n2_; (try clear hb); (try clear hb2); (try clear hk); (try clear hi)))
      go_ret
      exact ⟨by first | rfl | (simp [errW_none, errW_some] <;> rfl) | (simp [*, errW_none, errW_some] <;> rfl), by repeat (first | (with_reducible first | exact HB.out | apply below_alloc | apply pw_below_drewN | apply below_drew1) | exact HB.out)⟩
    · rw [if_neg c10] at H
      have c10b0 : (t797 != t793) = false := by simpa using c10
      (try (have c10b1 : decide (t797 = t793) = true := by simpa using c10))
      (try (have c10b2 : (t797 == t793) = true := by simpa using c10))
      clear c10
      replace H := Option.bind_eq_some_iff.mp H
      obtain ⟨t798, A180, H⟩ := H
      replace H : ((laws_eqBlockS.f k t794 t798).bind fun t801 => (if t801 = true then (some true) else (some false))) = some r := H
      have A18 := Aside0.mk A180
      clear A180
      replace H := Option.bind_eq_some_iff.mp H
      obtain ⟨t801, A190, H⟩ := H
      replace H : (if t801 = true then (some true) else (some false)) = some r := H
      have A19 := Aside0.mk A190
      clear A190
      by_cases c20 : t801 = true
      · subst c20
        have H1 : (some true) = some r := by rw [if_pos rfl] at H; exact H
        clear H
        have H := H1
        clear H1
        obtain rfl := Option.some.inj H
        go_enter Try.func8, Try.ntmps8
        go_wp2_with (first | ((with_reducible refine gate_callee (f := 13) rfl ?_); refine goesL_ (some 11) rfl rfl Try.func13 (by kernel_rfl) rfl #[.slice A0 l0.length c0, .int .i64 1048576] rfl (by (try simp only [List.map_toArray, List.map_cons, List.map_nil]); first | done | rfl | (simp only [List.length_drop, List.length_take]; rfl)) ?_; (with_reducible refine (laws_szBlockS.calls k _ _ l0 1048576 t789 _ ?side1 ?side2 A3.out).mono ?_); (case side1 => repeat (first | exact HR0.out | (with_reducible refine Kd.C_alloc ?_ _) | (with_reducible refine Kd.C_drewN ?_ _) | (with_reducible refine Kd.C_drew ?_))); (case side2 => exact HC0.out); rintro e w21 ⟨rfl, hb⟩; refine ⟨_, rfl, ?_⟩; have n0_ := Aside0.mk (below_step (by repeat (first | (with_reducible first | exact HB.out | apply below_alloc | apply pw_below_drewN | apply below_drew1) | exact HB.out)) hb); clear HB; have HB := n0_; clear n0_; (try clear hb); (try clear hb2); (try clear hk); (try clear hi)) | ((with_reducible refine gate_callee (f := 16) rfl ?_); refine goesL_ (some 15) rfl rfl Try.func16 (by kernel_rfl) rfl #[.slice A0 l0.length c0] rfl (by (try simp only [List.map_toArray, List.map_cons, List.map_nil]); first | done | rfl | (simp only [List.length_drop, List.length_take]; rfl)) ?_; (with_reducible refine (laws_toBlockS.calls k _ _ l0 t790 _ ?side1 ?side2 A6.out).mono ?_); (case side1 => repeat (first | exact (Kd.C_below HR0.out HB.out) | (with_reducible refine Kd.C_alloc ?_ _) | (with_reducible refine Kd.C_drewN ?_ _) | (with_reducible refine Kd.C_drew ?_))); (case side2 => exact HC0.out); rintro e w22 ⟨v791, rfl, ho0, hb⟩; refine ⟨_, rfl, ?_⟩; have n0_ := Aside0.mk (Kd.S_lower ho0 (below_size (by repeat (first | (with_reducible first | exact HB.out | apply below_alloc | apply pw_below_drewN | apply below_drew1) | exact HB.out)))); have n1_ := Aside0.mk (below_step (by repeat (first | (with_reducible first | exact HB.out | apply below_alloc | apply pw_below_drewN | apply below_drew1) | exact HB.out)) hb); clear HB; have HO792 := n0_; have HB := n1_; clear n0_ n1_; (try clear hb); (try clear hb2); (try clear hk); (try clear hi); (try clear ho0); obtain ⟨Ao23, co23, eo23⟩ := Kd.S_slice HO792.out; subst eo23) | ((with_reducible refine gate_callee (f := 38) rfl ?_); refine goesL_ (some 17) rfl rfl Try.func38 (by kernel_rfl) rfl #[.slice Ao23 t790.length co23, .int .i64 a1] rfl (by (try simp only [List.map_toArray, List.map_cons, List.map_nil]); first | done | rfl | (simp only [List.length_drop, List.length_take]; rfl)) ?_; (with_reducible refine (spec_Ended.calls k _ _ t790 a1 t793 _ ?side1 ?side2 A7.out).mono ?_); (case side1 => repeat (first | exact (Kd.S_reads' HO792.out).2.2 | (with_reducible refine Kd.C_alloc ?_ _) | (with_reducible refine Kd.C_drewN ?_ _) | (with_reducible refine Kd.C_drew ?_))); (case side2 => exact (Kd.S_reads' HO792.out).2.1); rintro e w24 ⟨rfl, hb⟩; refine ⟨_, rfl, ?_⟩; have n0_ := Aside0.mk (Kd.S_below (by (with_reducible repeat (first | apply Kd.S_alloc | apply Kd.S_drewN | apply Kd.S_drew)); exact HO792.out) hb); have n1_ := Aside0.mk (below_step (by repeat (first | (with_reducible first | exact HB.out | apply below_alloc | apply pw_below_drewN | apply below_drew1) | exact HB.out)) hb); clear HO792; clear HB; have HO792 := n0_; have HB := n1_; clear n0_ n1_; (try clear hb); (try clear hb2); (try clear hk); (try clear hi)) | ((with_reducible refine gate_callee (f := 16) rfl ?_); refine goesL_ (some 19) rfl rfl Try.func16 (by kernel_rfl) rfl #[.slice A0 l0.length c0] rfl (by (try simp only [List.map_toArray, List.map_cons, List.map_nil]); first | done | rfl | (simp only [List.length_drop, List.length_take]; rfl)) ?_; (with_reducible refine (laws_toBlockS.calls k _ _ l0 t794 _ ?side1 ?side2 A8.out).mono ?_); (case side1 => repeat (first | exact (Kd.C_below HR0.out HB.out) | (with_reducible refine Kd.C_alloc ?_ _) | (with_reducible refine Kd.C_drewN ?_ _) | (with_reducible refine Kd.C_drew ?_))); (case side2 => exact HC0.out); rintro e w25 ⟨v795, rfl, ho0, hb⟩; refine ⟨_, rfl, ?_⟩; have n0_ := Aside0.mk (Kd.S_elder' (by (with_reducible repeat (first | apply Kd.S_alloc | apply Kd.S_drewN | apply Kd.S_drew)); exact HO792.out) (Kd.S_base ho0) hb); have n1_ := Aside0.mk (Kd.S_lower (Kd.S_new' ho0 (Kd.S_lt (by (with_reducible repeat (first | apply Kd.S_alloc | apply Kd.S_drewN | apply Kd.S_drew)); exact HO792.out))) (below_size (by repeat (first | (with_reducible first | exact HB.out | apply below_alloc | apply pw_below_drewN | apply below_drew1) | exact HB.out)))); have n2_ := Aside0.mk (below_step (by repeat (first | (with_reducible first | exact HB.out | apply below_alloc | apply pw_below_drewN | apply below_drew1) | exact HB.out)) hb); clear HO792; clear HB; have HO792 := n0_; have HO796 := n1_; have HB := n2_; clear n0_ n1_ n2_; (try clear hb); (try clear hb2); (try clear hk); (try clear hi); (try clear ho0); obtain ⟨Ao26, co26, eo26⟩ := Kd.S_slice HO796.out; subst eo26) | ((with_reducible refine gate_callee (f := 39) rfl ?_); refine goesL_ (some 22) rfl rfl Try.func39 (by kernel_rfl) rfl #[.slice Ao26 t794.length co26, .int .i64 a1] rfl (by (try simp only [List.map_toArray, List.map_cons, List.map_nil]); first | done | rfl | (simp only [List.length_drop, List.length_take]; rfl)) ?_; (with_reducible refine (impl_Ended.calls k _ _ t794 a1 t797 _ ?side1 ?side2 A9.out).mono ?_); (case side1 => repeat (first | exact (Kd.S_reads' HO796.out).2.2 | (with_reducible refine Kd.C_alloc ?_ _) | (with_reducible refine Kd.C_drewN ?_ _) | (with_reducible refine Kd.C_drew ?_))); (case side2 => exact (Kd.S_reads' HO796.out).2.1); rintro e w27 ⟨rfl, hb⟩; refine ⟨_, rfl, ?_⟩; have n0_ := Aside0.mk (Kd.S_below (by (with_reducible repeat (first | apply Kd.S_alloc | apply Kd.S_drewN | apply Kd.S_drew)); exact HO792.out) hb); have n1_ := Aside0.mk (Kd.S_below (by (with_reducible repeat (first | apply Kd.S_alloc | apply Kd.S_drewN | apply Kd.S_drew)); exact HO796.out) hb); have n2_ := Aside0.mk (below_step (by repeat (first | (with_reducible first | exact HB.out | apply below_alloc | apply pw_below_drewN | apply below_drew1) | exact HB.out)) hb); clear HO792; clear HO796; clear HB; have HO792 := n0_; have HO796 := n1_; have HB := n2_; clear n0_ n1_ n2_; (try clear hb); (try clear hb2); (try clear hk); (try clear hi)) | ((with_reducible refine gate_callee (f := 16) rfl ?_); refine goesL_ (some 28) rfl rfl Try.func16 (by kernel_rfl) rfl #[.slice A0 l0.length c0] rfl (by (try simp only [List.map_toArray, List.map_cons, List.map_nil]); first | done | rfl | (simp only [List.length_drop, List.length_take]; rfl)) ?_; (with_reducible refine (laws_toBlockS.calls k _ _ l0 t798 _ ?side1 ?side2 A18.out).mono ?_); (case side1 => repeat (first | exact (Kd.C_below HR0.out HB.out) | (with_reducible refine Kd.C_alloc ?_ _) | (with_reducible refine Kd.C_drewN ?_ _) | (with_reducible refine Kd.C_drew ?_))); (case side2 => exact HC0.out); rintro e w28 ⟨v799, rfl, ho0, hb⟩; refine ⟨_, rfl, ?_⟩; have n0_ := Aside0.mk (Kd.S_elder' (by (with_reducible repeat (first | apply Kd.S_alloc | apply Kd.S_drewN | apply Kd.S_drew)); exact HO792.out) (Kd.S_base ho0) hb); have n1_ := Aside0.mk (Kd.S_elder' (by (with_reducible repeat (first | apply Kd.S_alloc | apply Kd.S_drewN | apply Kd.S_drew)); exact HO796.out) (Kd.S_base ho0) hb); have n2_ := Aside0.mk (Kd.S_lower (Kd.S_new' (Kd.S_new' ho0 (Kd.S_lt (by (with_reducible repeat (first | apply Kd.S_alloc | apply Kd.S_drewN | apply Kd.S_drew)); exact HO792.out))) (Kd.S_lt (by (with_reducible repeat (first | apply Kd.S_alloc | apply Kd.S_drewN | apply Kd.S_drew)); exact HO796.out))) (below_size (by repeat (first | (with_reducible first | exact HB.out | apply below_alloc | apply pw_below_drewN | apply below_drew1) | exact HB.out)))); have n3_ := Aside0.mk (below_step (by repeat (first | (with_reducible first | exact HB.out | apply below_alloc | apply pw_below_drewN | apply below_drew1) | exact HB.out)) hb); clear HO792; clear HO796; clear HB; have HO792 := n0_; have HO796 := n1_; have HO800 := n2_; have HB := n3_; clear n0_ n1_ n2_ n3_; (try clear hb); (try clear hb2); (try clear hk); (try clear hi); (try clear ho0); obtain ⟨Ao29, co29, eo29⟩ := Kd.S_slice HO800.out; subst eo29) | ((with_reducible refine gate_callee (f := 19) rfl ?_); refine goesL_ (some 29) rfl rfl Try.func19 (by kernel_rfl) rfl #[.slice Ao26 t794.length co26, .slice Ao29 t798.length co29] rfl (by (try simp only [List.map_toArray, List.map_cons, List.map_nil]); first | done | rfl | (simp only [List.length_drop, List.length_take]; rfl)) ?_; (with_reducible refine (laws_eqBlockS.calls k _ _ t794 _ _ t798 true _ ?side1 ?side2 ?side3 ?side4 A19.out).mono ?_); (case side1 => repeat (first | exact (Kd.S_reads' HO796.out).2.2 | (with_reducible refine Kd.C_alloc ?_ _) | (with_reducible refine Kd.C_drewN ?_ _) | (with_reducible refine Kd.C_drew ?_))); (case side2 => exact (Kd.S_reads' HO796.out).2.1); (case side3 => repeat (first | exact (Kd.S_reads' HO800.out).2.2 | (with_reducible refine Kd.C_alloc ?_ _) | (with_reducible refine Kd.C_drewN ?_ _) | (with_reducible refine Kd.C_drew ?_))); (case side4 => exact (Kd.S_reads' HO800.out).2.1); rintro e w30 ⟨rfl, hb⟩; refine ⟨_, rfl, ?_⟩; have n0_ := Aside0.mk (Kd.S_below (by (with_reducible repeat (first | apply Kd.S_alloc | apply Kd.S_drewN | apply Kd.S_drew)); exact HO792.out) hb); have n1_ := Aside0.mk (Kd.S_below (by (with_reducible repeat (first | apply Kd.S_alloc | apply Kd.S_drewN | apply Kd.S_drew)); exact HO796.out) hb); have n2_ := Aside0.mk (Kd.S_below (by (with_reducible repeat (first | apply Kd.S_alloc | apply Kd.S_drewN | apply Kd.S_drew)); exact HO800.out) hb); have n3_ := Aside0.mk (below_step (by repeat (first | (with_reducible first | exact HB.out | apply below_alloc | apply pw_below_drewN | apply below_drew1) | exact HB.out)) hb); clear HO792; clear HO796; clear HO800; clear HB; have HO792 := n0_; have HO796 := n1_; have HO800 := n2_; have HB := n3_; clear n0_ n1_ n2_ n3_; (try clear hb); (try clear hb2); (try clear hk); (try clear hi)))
        go_ret
        exact ⟨by first | rfl | (simp [errW_none, errW_some] <;> rfl) | (simp [*, errW_none, errW_some] <;> rfl), by repeat (first | (with_reducible first | exact HB.out | apply below_alloc | apply pw_below_drewN | apply below_drew1) | exact HB.out)⟩
      · replace c20 := Bool.eq_false_iff.mpr c20
        subst c20
        have H1 : (some false) = some r := by rw [if_neg (show ¬ (false = true) by decide)] at H; exact H
        clear H
        have H := H1
        clear H1
        obtain rfl := Option.some.inj H
        go_enter Try.func8, Try.ntmps8
        go_wp2_with (first | ((with_reducible refine gate_callee (f := 13) rfl ?_); refine goesL_ (some 11) rfl rfl Try.func13 (by kernel_rfl) rfl #[.slice A0 l0.length c0, .int .i64 1048576] rfl (by (try simp only [List.map_toArray, List.map_cons, List.map_nil]); first | done | rfl | (simp only [List.length_drop, List.length_take]; rfl)) ?_; (with_reducible refine (laws_szBlockS.calls k _ _ l0 1048576 t789 _ ?side1 ?side2 A3.out).mono ?_); (case side1 => repeat (first | exact HR0.out | (with_reducible refine Kd.C_alloc ?_ _) | (with_reducible refine Kd.C_drewN ?_ _) | (with_reducible refine Kd.C_drew ?_))); (case side2 => exact HC0.out); rintro e w31 ⟨rfl, hb⟩; refine ⟨_, rfl, ?_⟩; have n0_ := Aside0.mk (below_step (by repeat (first | (with_reducible first | exact HB.out | apply below_alloc | apply pw_below_drewN | apply below_drew1) | exact HB.out)) hb); clear HB; have HB := n0_; clear n0_; (try clear hb); (try clear hb2); (try clear hk); (try clear hi)) | ((with_reducible refine gate_callee (f := 16) rfl ?_); refine goesL_ (some 15) rfl rfl Try.func16 (by kernel_rfl) rfl #[.slice A0 l0.length c0] rfl (by (try simp only [List.map_toArray, List.map_cons, List.map_nil]); first | done | rfl | (simp only [List.length_drop, List.length_take]; rfl)) ?_; (with_reducible refine (laws_toBlockS.calls k _ _ l0 t790 _ ?side1 ?side2 A6.out).mono ?_); (case side1 => repeat (first | exact (Kd.C_below HR0.out HB.out) | (with_reducible refine Kd.C_alloc ?_ _) | (with_reducible refine Kd.C_drewN ?_ _) | (with_reducible refine Kd.C_drew ?_))); (case side2 => exact HC0.out); rintro e w32 ⟨v791, rfl, ho0, hb⟩; refine ⟨_, rfl, ?_⟩; have n0_ := Aside0.mk (Kd.S_lower ho0 (below_size (by repeat (first | (with_reducible first | exact HB.out | apply below_alloc | apply pw_below_drewN | apply below_drew1) | exact HB.out)))); have n1_ := Aside0.mk (below_step (by repeat (first | (with_reducible first | exact HB.out | apply below_alloc | apply pw_below_drewN | apply below_drew1) | exact HB.out)) hb); clear HB; have HO792 := n0_; have HB := n1_; clear n0_ n1_; (try clear hb); (try clear hb2); (try clear hk); (try clear hi); (try clear ho0); obtain ⟨Ao33, co33, eo33⟩ := Kd.S_slice HO792.out; subst eo33) | ((with_reducible refine gate_callee (f := 38) rfl ?_); refine goesL_ (some 17) rfl rfl Try.func38 (by kernel_rfl) rfl #[.slice Ao33 t790.length co33, .int .i64 a1] rfl (by (try simp only [List.map_toArray, List.map_cons, List.map_nil]); first | done | rfl | (simp only [List.length_drop, List.length_take]; rfl)) ?_; (with_reducible refine (spec_Ended.calls k _ _ t790 a1 t793 _ ?side1 ?side2 A7.out).mono ?_); (case side1 => repeat (first | exact (Kd.S_reads' HO792.out).2.2 | (with_reducible refine Kd.C_alloc ?_ _) | (with_reducible refine Kd.C_drewN ?_ _) | (with_reducible refine Kd.C_drew ?_))); (case side2 => exact (Kd.S_reads' HO792.out).2.1); rintro e w34 ⟨rfl, hb⟩; refine ⟨_, rfl, ?_⟩; have n0_ := Aside0.mk (Kd.S_below (by (with_reducible repeat (first | apply Kd.S_alloc | apply Kd.S_drewN | apply Kd.S_drew)); exact HO792.out) hb); have n1_ := Aside0.mk (below_step (by repeat (first | (with_reducible first | exact HB.out | apply below_alloc | apply pw_below_drewN | apply below_drew1) | exact HB.out)) hb); clear HO792; clear HB; have HO792 := n0_; have HB := n1_; clear n0_ n1_; (try clear hb); (try clear hb2); (try clear hk); (try clear hi)) | ((with_reducible refine gate_callee (f := 16) rfl ?_); refine goesL_ (some 19) rfl rfl Try.func16 (by kernel_rfl) rfl #[.slice A0 l0.length c0] rfl (by (try simp only [List.map_toArray, List.map_cons, List.map_nil]); first | done | rfl | (simp only [List.length_drop, List.length_take]; rfl)) ?_; (with_reducible refine (laws_toBlockS.calls k _ _ l0 t794 _ ?side1 ?side2 A8.out).mono ?_); (case side1 => repeat (first | exact (Kd.C_below HR0.out HB.out) | (with_reducible refine Kd.C_alloc ?_ _) | (with_reducible refine Kd.C_drewN ?_ _) | (with_reducible refine Kd.C_drew ?_))); (case side2 => exact HC0.out); rintro e w35 ⟨v795, rfl, ho0, hb⟩; refine ⟨_, rfl, ?_⟩; have n0_ := Aside0.mk (Kd.S_elder' (by (with_reducible repeat (first | apply Kd.S_alloc | apply Kd.S_drewN | apply Kd.S_drew)); exact HO792.out) (Kd.S_base ho0) hb); have n1_ := Aside0.mk (Kd.S_lower (Kd.S_new' ho0 (Kd.S_lt (by (with_reducible repeat (first | apply Kd.S_alloc | apply Kd.S_drewN | apply Kd.S_drew)); exact HO792.out))) (below_size (by repeat (first | (with_reducible first | exact HB.out | apply below_alloc | apply pw_below_drewN | apply below_drew1) | exact HB.out)))); have n2_ := Aside0.mk (below_step (by repeat (first | (with_reducible first | exact HB.out | apply below_alloc | apply pw_below_drewN | apply below_drew1) | exact HB.out)) hb); clear HO792; clear HB; have HO792 := n0_; have HO796 := n1_; have HB := n2_; clear n0_ n1_ n2_; (try clear hb); (try clear hb2); (try clear hk); (try clear hi); (try clear ho0); obtain ⟨Ao36, co36, eo36⟩ := Kd.S_slice HO796.out; subst eo36) | ((with_reducible refine gate_callee (f := 39) rfl ?_); refine goesL_ (some 22) rfl rfl Try.func39 (by kernel_rfl) rfl #[.slice Ao36 t794.length co36, .int .i64 a1] rfl (by (try simp only [List.map_toArray, List.map_cons, List.map_nil]); first | done | rfl | (simp only [List.length_drop, List.length_take]; rfl)) ?_; (with_reducible refine (impl_Ended.calls k _ _ t794 a1 t797 _ ?side1 ?side2 A9.out).mono ?_); (case side1 => repeat (first | exact (Kd.S_reads' HO796.out).2.2 | (with_reducible refine Kd.C_alloc ?_ _) | (with_reducible refine Kd.C_drewN ?_ _) | (with_reducible refine Kd.C_drew ?_))); (case side2 => exact (Kd.S_reads' HO796.out).2.1); rintro e w37 ⟨rfl, hb⟩; refine ⟨_, rfl, ?_⟩; have n0_ := Aside0.mk (Kd.S_below (by (with_reducible repeat (first | apply Kd.S_alloc | apply Kd.S_drewN | apply Kd.S_drew)); exact HO792.out) hb); have n1_ := Aside0.mk (Kd.S_below (by (with_reducible repeat (first | apply Kd.S_alloc | apply Kd.S_drewN | apply Kd.S_drew)); exact HO796.out) hb); have n2_ := Aside0.mk (below_step (by repeat (first | (with_reducible first | exact HB.out | apply below_alloc | apply pw_below_drewN | apply below_drew1) | exact HB.out)) hb); clear HO792; clear HO796; clear HB; have HO792 := n0_; have HO796 := n1_; have HB := n2_; clear n0_ n1_ n2_; (try clear hb); (try clear hb2); (try clear hk); (try clear hi)) | ((with_reducible refine gate_callee (f := 16) rfl ?_); refine goesL_ (some 28) rfl rfl Try.func16 (by kernel_rfl) rfl #[.slice A0 l0.length c0] rfl (by (try simp only [List.map_toArray, List.map_cons, List.map_nil]); first | done | rfl | (simp only [List.length_drop, List.length_take]; rfl)) ?_; (with_reducible refine (laws_toBlockS.calls k _ _ l0 t798 _ ?side1 ?side2 A18.out).mono ?_); (case side1 => repeat (first | exact (Kd.C_below HR0.out HB.out) | (with_reducible refine Kd.C_alloc ?_ _) | (with_reducible refine Kd.C_drewN ?_ _) | (with_reducible refine Kd.C_drew ?_))); (case side2 => exact HC0.out); rintro e w38 ⟨v799, rfl, ho0, hb⟩; refine ⟨_, rfl, ?_⟩; have n0_ := Aside0.mk (Kd.S_elder' (by (with_reducible repeat (first | apply Kd.S_alloc | apply Kd.S_drewN | apply Kd.S_drew)); exact HO792.out) (Kd.S_base ho0) hb); have n1_ := Aside0.mk (Kd.S_elder' (by (with_reducible repeat (first | apply Kd.S_alloc | apply Kd.S_drewN | apply Kd.S_drew)); exact HO796.out) (Kd.S_base ho0) hb); have n2_ := Aside0.mk (Kd.S_lower (Kd.S_new' (Kd.S_new' ho0 (Kd.S_lt (by (with_reducible repeat (first | apply Kd.S_alloc | apply Kd.S_drewN | apply Kd.S_drew)); exact HO792.out))) (Kd.S_lt (by (with_reducible repeat (first | apply Kd.S_alloc | apply Kd.S_drewN | apply Kd.S_drew)); exact HO796.out))) (below_size (by repeat (first | (with_reducible first | exact HB.out | apply below_alloc | apply pw_below_drewN | apply below_drew1) | exact HB.out)))); have n3_ := Aside0.mk (below_step (by repeat (first | (with_reducible first | exact HB.out | apply below_alloc | apply pw_below_drewN | apply below_drew1) | exact HB.out)) hb); clear HO792; clear HO796; clear HB; have HO792 := n0_; have HO796 := n1_; have HO800 := n2_; have HB := n3_; clear n0_ n1_ n2_ n3_; (try clear hb); (try clear hb2); (try clear hk); (try clear hi); (try clear ho0); obtain ⟨Ao39, co39, eo39⟩ := Kd.S_slice HO800.out; subst eo39) | ((with_reducible refine gate_callee (f := 19) rfl ?_); refine goesL_ (some 29) rfl rfl Try.func19 (by kernel_rfl) rfl #[.slice Ao36 t794.length co36, .slice Ao39 t798.length co39] rfl (by (try simp only [List.map_toArray, List.map_cons, List.map_nil]); first | done | rfl | (simp only [List.length_drop, List.length_take]; rfl)) ?_; (with_reducible refine (laws_eqBlockS.calls k _ _ t794 _ _ t798 false _ ?side1 ?side2 ?side3 ?side4 A19.out).mono ?_); (case side1 => repeat (first | exact (Kd.S_reads' HO796.out).2.2 | (with_reducible refine Kd.C_alloc ?_ _) | (with_reducible refine Kd.C_drewN ?_ _) | (with_reducible refine Kd.C_drew ?_))); (case side2 => exact (Kd.S_reads' HO796.out).2.1); (case side3 => repeat (first | exact (Kd.S_reads' HO800.out).2.2 | (with_reducible refine Kd.C_alloc ?_ _) | (with_reducible refine Kd.C_drewN ?_ _) | (with_reducible refine Kd.C_drew ?_))); (case side4 => exact (Kd.S_reads' HO800.out).2.1); rintro e w40 ⟨rfl, hb⟩; refine ⟨_, rfl, ?_⟩; have n0_ := Aside0.mk (Kd.S_below (by (with_reducible repeat (first | apply Kd.S_alloc | apply Kd.S_drewN | apply Kd.S_drew)); exact HO792.out) hb); have n1_ := Aside0.mk (Kd.S_below (by (with_reducible repeat (first | apply Kd.S_alloc | apply Kd.S_drewN | apply Kd.S_drew)); exact HO796.out) hb); have n2_ := Aside0.mk (Kd.S_below (by (with_reducible repeat (first | apply Kd.S_alloc | apply Kd.S_drewN | apply Kd.S_drew)); exact HO800.out) hb); have n3_ := Aside0.mk (below_step (by repeat (first | (with_reducible first | exact HB.out | apply below_alloc | apply pw_below_drewN | apply below_drew1) | exact HB.out)) hb); clear HO792; clear HO796; clear HO800; clear HB; have HO792 := n0_; have HO796 := n1_; have HO800 := n2_; have HB := n3_; clear n0_ n1_ n2_ n3_; (try clear hb); (try clear hb2); (try clear hk); (try clear hi)))
        go_ret
        exact ⟨by first | rfl | (simp [errW_none, errW_some] <;> rfl) | (simp [*, errW_none, errW_some] <;> rfl), by repeat (first | (with_reducible first | exact HB.out | apply below_alloc | apply pw_below_drewN | apply below_drew1) | exact HB.out)⟩

theorem sums_le_Ended {α : Type} {h : α → Int} (hn : ∀ x, 0 ≤ h x) : ∀ {xs : List α} {y : α}, y ∈ xs → h y ≤ sums h xs
  | [], _, hy => by cases hy
  | x :: xs, y, hy => by
    have h0 := hn x
    have h1 := sums_nn hn xs
    unfold sums
    rcases List.mem_cons.1 hy with rfl | hy
    · omega
    · have := sums_le_Ended hn hy
      omega
theorem laws_FnExactEnded.is (x0 : List S51) (hw : (fun l : List S51 => l.length ≤ maxLen ∧ ∀ x ∈ l, w51 x) x0) (a : Int) : Ev (fun k => laws_FnExactEnded.f k x0 a) true := by
  have hm : maxLen = 9223372036854775807 := rfl
  unfold laws_FnExactEnded.f
  refine Ev.bind (laws_szBlockS.is hw (by omega) (by omega)) (Ev.cond (fun _ => Ev.now _) (fun hc => ?_))
  have hc' := mt (szR_lt (by omega)).2 hc
  have hn0 := sums_nn hold51.nn x0
  have hs : (x0.length ≤ 1048576 ∧ ∀ x ∈ x0, s51 x) := ⟨by omega, fun y hy => small51 (by have := sums_le_Ended hold51.nn hy; omega)⟩
  have hl : (x0.map c51).length ≤ 9223372036854775807 ∧ ∀ x ∈ x0.map c51, l59 x := ⟨by rw [List.length_map]; omega, fun y hy => by
    obtain ⟨z, hz, rfl⟩ := List.mem_map.1 hy
    exact long51 (hs.2 z hz)⟩
  have hf : ∀ b ∈ x0.map c51, blockFit b := fun y hy => by
    obtain ⟨z, hz, rfl⟩ := List.mem_map.1 hy
    exact blockFit_of (hw.2 z hz)
  have T0 := laws_toBlockS.is hs
  have EQ := laws_eqBlockS.refl hl
  refine Ev.bind T0 (Ev.bind (spec_Ended.is hl.1 hf a) (Ev.bind T0 (Ev.bind (impl_Ended.is hl.1 hf a) (Ev.no (by simp) ?_))))
  exact Ev.bind T0 (Ev.bind EQ (Ev.yes rfl (Ev.now _)))
theorem laws_FnExactEnded.does {w : World} (x0 : List S51) (hw : (fun l : List S51 => l.length ≤ maxLen ∧ ∀ x ∈ l, w51 x) x0) {B : Option Addr} {c : Nat} (hr : Kd.C k51 w B x0.length x0) (hc : x0.length ≤ c) (x1 : Int) (_ : (Lit.int .i64 x1).wf = true) :
    Calls Try.prog 8 #[.slice B x0.length c, .int .i64 x1] w fun e w' => e = .returned (.bool true) ∧ Below w.heap.size w w' := by
  obtain ⟨k, h⟩ := (laws_FnExactEnded.is x0 hw x1).rounds
  exact laws_FnExactEnded.calls k _ _ _ _ _ w hr hc h

end Go.Proofs.Ytnldeeefiidcaaa.F
