/-
Functions of the program, what they come to, and that Go comes to just that: spec_ChainOf.
Conditions: those that each theorem names.
-/
import Derived.Test.YtnldeeefiidcaaaFAbs
import Derived.Test.YtnldeeefiidcaaaF10
import Derived.Test.YtnldeeefiidcaaaF13
import Derived.Test.YtnldeeefiidcaaaWMore
set_option linter.unusedVariables false
set_option linter.unusedSimpArgs false
namespace Go.Proofs.Ytnldeeefiidcaaa.F
open Go.RowKit Go.Proofs.YtnldeeefiidcaaaW.PrintWords Go.Proofs.YtnldeeefiidcaaaW.PrintLast Go.Proofs.Ytnldeeefiidcaaa.Base Go.Proofs.Ytnldeeefiidcaaa.BW
open Go.Proofs.YtnldeeefiidcaaaW.PrintMore
attribute [local go_sem] max2_int min2_int max_two min_two max_three min_three max_four min_four   -- for this text's walks alone

/-! ### spec_ChainOf: function 25 -/
def spec_ChainOf.l0 : Nat → List (S59) → List Int → List Int → Int → Option (List Int)
  | 0, _, _, _, _ => none
  | k + 1, x0, x5, x6, x7 => if x7 < (x6.length : Int) then (if 0 ≤ x7 then (if 0 ≤ (rd x6 x7) then (if (rd x6 x7) < (x0.length : Int) then (if x5.length < 17592186044416 then (spec_ChainOf.l0 k x0 (x5 ++ [(rd_T59 x0 (rd x6 x7)).f0]) x6 (wrap64 (x7 + 1))) else (none)) else (none)) else (none)) else (none)) else (some x5)
def spec_ChainOf.f (k : Nat) (l0 : List (S59)) (a1 : Int) : Option (List Int) := (some (([] : List Int) : List Int)).bind fun y472 => ((spec_TreeOk.f k l0).bind fun t475 => (if t475 = true then ((spec_l10Chain.f k l0 a1).bind fun t476 => (spec_ChainOf.l0 k l0 y472 t476 0)) else (some y472)))
theorem spec_ChainOf.mono_l : ∀ k, (∀ y0 y1 y2 y3, LeO (spec_ChainOf.l0 k y0 y1 y2 y3) (spec_ChainOf.l0 (k + 1) y0 y1 y2 y3))
  | 0 => fun _ _ _ _ r h => by simp [spec_ChainOf.l0] at h
  | k + 1 => by
    have ih0 := spec_ChainOf.mono_l k
    · intro y0 y1 y2 y3
      unfold spec_ChainOf.l0
      repeat' first
      | (with_reducible exact ih0 _ _ _ _)
      | (with_reducible exact spec_TreeOk.mono _ _)
      | (with_reducible exact spec_l10Chain.mono _ _ _)
      | (with_reducible exact LeO.refl _)
      | (with_reducible exact LeO.none _)
      | (with_reducible refine LeO.ite ?_ ?_)
      | (with_reducible refine LeO.bind ?_ (fun _ => ?_))
      | exact ih0 _ _ _ _
      | exact spec_TreeOk.mono _ _
      | exact spec_l10Chain.mono _ _ _
      | exact LeO.none _
      | refine LeO.ite ?_ ?_
      | refine LeO.bind ?_ (fun _ => ?_)
theorem spec_ChainOf.mono : ∀ a0 a1 k, LeO (spec_ChainOf.f k a0 a1) (spec_ChainOf.f (k + 1) a0 a1) := by
  intro a0 a1 k
  have ih0 := spec_ChainOf.mono_l k
  unfold spec_ChainOf.f
  repeat' first
      | (with_reducible exact ih0 _ _ _ _)
      | (with_reducible exact spec_TreeOk.mono _ _)
      | (with_reducible exact spec_l10Chain.mono _ _ _)
      | (with_reducible exact LeO.refl _)
      | (with_reducible exact LeO.none _)
      | (with_reducible refine LeO.ite ?_ ?_)
      | (with_reducible refine LeO.bind ?_ (fun _ => ?_))
      | exact ih0 _ _ _ _
      | exact spec_TreeOk.mono _ _
      | exact spec_l10Chain.mono _ _ _
      | exact LeO.none _
      | refine LeO.ite ?_ ?_
      | refine LeO.bind ?_ (fun _ => ?_)
set_option maxHeartbeats 8000000 in
set_option maxRecDepth 100000 in
theorem spec_ChainOf.calls (k : Nat) (A0 : Option Addr) (c0 : Nat) (l0 : List (S59)) (a1 : Int) (r : List Int) (w : World) (hr0 : Kd.C k59 w A0 l0.length l0) (hc0 : l0.length ≤ c0) (h : spec_ChainOf.f k l0 a1 = some r) :
    Calls Try.prog 25 #[.slice A0 l0.length c0, .int .i64 a1] w fun e w' => ∃ v0_ : Value, e = .returned (v0_) ∧ Kd.R (Kd.int .i64) 3 w' w.heap.size (fun _ => True) v0_ r ∧ Below w.heap.size w w' := by
  have HR0 := Aside0.mk hr0
  have HC0 := Aside0.mk hc0
  clear hr0 hc0
  have HB := Aside0.mk (Below.refl w.heap.size w)
  have H : ((some (([] : List Int) : List Int)).bind fun y472 => ((spec_TreeOk.f k l0).bind fun t475 => (if t475 = true then ((spec_l10Chain.f k l0 a1).bind fun t476 => (spec_ChainOf.l0 k l0 y472 t476 0)) else (some y472)))) = some r := h
  clear h
  obtain ⟨y472, hy472⟩ : ∃ y_ : List Int, y_ = (([] : List Int)) := ⟨_, rfl⟩
  replace H : ((spec_TreeOk.f k l0).bind fun t475 => (if t475 = true then ((spec_l10Chain.f k l0 a1).bind fun t476 => (spec_ChainOf.l0 k l0 y472 t476 0)) else (some y472))) = some r := by first | (rw [hy472]; with_reducible exact H) | (have H2_ := (Option.bind_some _ _).symm.trans H; rw [hy472]; with_reducible exact H2_) | (have H2_ := (Option.bind_some _ _).symm.trans H; with_reducible exact H2_) | with_reducible exact H | (rw [hy472]; exact H) | exact H
  have Ny472 := Aside0.mk hy472
  clear hy472
  replace H := Option.bind_eq_some_iff.mp H
  obtain ⟨t475, A30, H⟩ := H
  replace H : (if t475 = true then ((spec_l10Chain.f k l0 a1).bind fun t476 => (spec_ChainOf.l0 k l0 y472 t476 0)) else (some y472)) = some r := H
  have A3 := Aside0.mk A30
  clear A30
  by_cases c4 : t475 = true
  · subst c4
    have H1 : ((spec_l10Chain.f k l0 a1).bind fun t476 => (spec_ChainOf.l0 k l0 y472 t476 0)) = some r := by rw [if_pos rfl] at H; exact H
    clear H
    have H := H1
    clear H1
    replace H := Option.bind_eq_some_iff.mp H
    obtain ⟨t476, A50, H⟩ := H
    replace H : (spec_ChainOf.l0 k l0 y472 t476 0) = some r := H
    have A5 := Aside0.mk A50
    clear A50
    have H' := Aside0.mk H
    clear H
    go_enter Try.func25, Try.ntmps25
    go_wp2_with (first | ((with_reducible refine gate_dst (N := 8) rfl ?_); refine Kd.R_lit (Kd.int .i64) _ 3 ?hg (N := 8) ?hd (xs := ([] : List Int)) (inner := []) (ok := fun _ => True) (okp := fun _ => True) ?hr ?hp (fun _ hk => hk) trivial (Below.refl _ _) (Nat.le_refl _) (by simp) ?_; (case hd => rfl); (case hg => rfl); (case hr => first | (go_simp; done) | (go_simp; rfl)); (case hp => exact (Reps.none _ _)); intro v473 w6 ho7 hb hg_ hnew_; clear hg_ hnew_; (first | rw [← Ny472.out] at ho7 | (simp only [Int.reduceToNat] at ho7; rw [← Ny472.out] at ho7)); have n0_ := Aside0.mk (Kd.R_lower ho7 (below_size (by repeat (first | (with_reducible first | exact HB.out | apply below_alloc | apply pw_below_drewN | apply below_drew1) | exact HB.out)))); have n1_ := Aside0.mk (below_step (by repeat (first | (with_reducible first | exact HB.out | apply below_alloc | apply pw_below_drewN | apply below_drew1) | exact HB.out)) hb); clear HB; have HO474 := n0_; have HB := n1_; clear n0_ n1_; clear hb ho7) | ((with_reducible refine gate_callee (f := 21) rfl ?_); refine goesL_ (some 10) rfl rfl Try.func21 (by kernel_rfl) rfl #[.slice A0 l0.length c0] rfl (by (try simp only [List.map_toArray, List.map_cons, List.map_nil]); first | done | rfl | (simp only [List.length_drop, List.length_take]; rfl)) ?_; (with_reducible refine (spec_TreeOk.calls k _ _ l0 true _ ?side1 ?side2 A3.out).mono ?_); (case side1 => repeat (first | exact (Kd.C_below HR0.out HB.out) | (with_reducible refine Kd.C_alloc ?_ _) | (with_reducible refine Kd.C_drewN ?_ _) | (with_reducible refine Kd.C_drew ?_))); (case side2 => exact HC0.out); rintro e w8 ⟨rfl, hb⟩; refine ⟨_, rfl, ?_⟩; have n0_ := Aside0.mk (Kd.R_below (by (with_reducible repeat (first | apply Kd.R_alloc | apply Kd.R_drewN | apply Kd.R_drew)); exact HO474.out) hb); have n1_ := Aside0.mk (below_step (by repeat (first | (with_reducible first | exact HB.out | apply below_alloc | apply pw_below_drewN | apply below_drew1) | exact HB.out)) hb); clear HO474; clear HB; have HO474 := n0_; have HB := n1_; clear n0_ n1_; (try clear hb); (try clear hb2); (try clear hk); (try clear hi)) | ((with_reducible refine gate_callee (f := 62) rfl ?_); refine goesL_ (some 15) rfl rfl Try.func62 (by kernel_rfl) rfl #[.slice A0 l0.length c0, .int .i64 a1] rfl (by (try simp only [List.map_toArray, List.map_cons, List.map_nil]); first | done | rfl | (simp only [List.length_drop, List.length_take]; rfl)) ?_; (with_reducible refine (spec_l10Chain.calls k _ _ l0 a1 t476 _ ?side1 ?side2 A5.out).mono ?_); (case side1 => repeat (first | exact (Kd.C_below HR0.out HB.out) | (with_reducible refine Kd.C_alloc ?_ _) | (with_reducible refine Kd.C_drewN ?_ _) | (with_reducible refine Kd.C_drew ?_))); (case side2 => exact HC0.out); rintro e w9 ⟨v477, rfl, ho0, hb⟩; refine ⟨_, rfl, ?_⟩; have n0_ := Aside0.mk (Kd.R_elder' (by (with_reducible repeat (first | apply Kd.R_alloc | apply Kd.R_drewN | apply Kd.R_drew)); exact HO474.out) (Kd.R_base ho0) hb); have n1_ := Aside0.mk (Kd.R_lower (Kd.R_new' ho0 (Kd.R_lt (by (with_reducible repeat (first | apply Kd.R_alloc | apply Kd.R_drewN | apply Kd.R_drew)); exact HO474.out))) (below_size (by repeat (first | (with_reducible first | exact HB.out | apply below_alloc | apply pw_below_drewN | apply below_drew1) | exact HB.out)))); have n2_ := Aside0.mk (below_step (by repeat (first | (with_reducible first | exact HB.out | apply below_alloc | apply pw_below_drewN | apply below_drew1) | exact HB.out)) hb); clear HO474; clear HB; have HO474 := n0_; have HO478 := n1_; have HB := n2_; clear n0_ n1_ n2_; (try clear hb); (try clear hb2); (try clear hk); (try clear hi); (try clear ho0)))
    go_loopg [5, 7] k (fun kq v5 v7 w' => ∃ (x5_1 : List Int) (x7_1 : Int), v7 = .int .i64 x7_1 ∧ Aside0 (spec_ChainOf.l0 kq l0 x5_1 t476 x7_1 = some r) ∧ Aside0 (kq ≤ k) ∧ Aside0 (Kd.R (Kd.int .i64) 3 w' w.heap.size (fun k_ => some k_ ≠ (v477 : Value).ownBlock) v5 x5_1) ∧ Aside0 (Kd.R (Kd.int .i64) 3 w' w.heap.size (fun k_ => some k_ ≠ (v5 : Value).ownBlock) v477 t476) ∧ Aside0 (Below w.heap.size w w'))
    case atStart => exact ⟨(y472), (0), (by first | rfl | (simp; done) | (simp [*]; done)), H', ⟨Nat.le_refl _⟩, ⟨by (with_reducible repeat (first | apply Kd.R_alloc | apply Kd.R_drewN | apply Kd.R_drew)); exact Kd.R_mono HO474.out (fun _ hk => hk.2)⟩, ⟨by (with_reducible repeat (first | apply Kd.R_alloc | apply Kd.R_drewN | apply Kd.R_drew)); exact Kd.R_mono HO478.out (fun _ hk => hk.2)⟩, ⟨by repeat (first | (with_reducible first | exact HB.out | apply below_alloc | apply pw_below_drewN | apply below_drew1) | exact HB.out)⟩⟩
    case round =>
      clear H'
      try clear c2
      try clear p2
      try clear c4
      try clear c6
      obtain ⟨x5_1, x7_1, rfl, HA, HK1, HO_5, HO_6, HB⟩ := hrel
      cases gk with
      | zero => exact absurd HA.out (by simp [spec_ChainOf.l0])
      | succ k1 =>
        have H := HA.out
        clear HA
        simp only [spec_ChainOf.l0] at H
        by_cases c10 : x7_1 < (t476.length : Int)
        · rw [if_pos c10] at H
          have c10b0 : decide (x7_1 < (t476.length : Int)) = true := decide_eq_true c10
          clear c10
          by_cases c11 : 0 ≤ x7_1
          · rw [if_pos c11] at H
            have c11b0 : decide (0 ≤ x7_1) = true := decide_eq_true c11
            clear c11
            by_cases c12 : 0 ≤ (rd t476 x7_1)
            · rw [if_pos c12] at H
              have c12b0 : decide (0 ≤ (rd t476 x7_1)) = true := decide_eq_true c12
              clear c12
              by_cases c13 : (rd t476 x7_1) < (l0.length : Int)
              · rw [if_pos c13] at H
                have c13b0 : decide ((rd t476 x7_1) < (l0.length : Int)) = true := decide_eq_true c13
                clear c13
                by_cases c14 : x5_1.length < 17592186044416
                · rw [if_pos c14] at H
                  have LMc14 := Aside0.mk c14
                  clear c14
                  obtain ⟨y481, hy481⟩ : ∃ y_ : List Int, y_ = (x5_1 ++ [(rd_T59 l0 (rd t476 x7_1)).f0]) := ⟨_, rfl⟩
                  replace H : (spec_ChainOf.l0 k1 l0 y481 t476 (wrap64 (x7_1 + 1))) = some r := by first | (rw [hy481]; with_reducible exact H) | (have H2_ := (Option.bind_some _ _).symm.trans H; rw [hy481]; with_reducible exact H2_) | (have H2_ := (Option.bind_some _ _).symm.trans H; with_reducible exact H2_) | with_reducible exact H | (rw [hy481]; exact H) | exact H
                  have Ny481 := Aside0.mk hy481
                  clear hy481
                  have H' := Aside0.mk H
                  clear H
                  obtain ⟨Ao15, co15, eo15⟩ := Kd.R_slice HO_6.out
                  subst eo15
                  have p479 : 0 ≤ (x7_1 : Int) := of_decide_eq_true (by first | (with_reducible assumption) | assumption)
                  have q479 : x7_1 < (t476.length : Int) := of_decide_eq_true (by first | (with_reducible assumption) | assumption)
                  obtain ⟨ad479, e479, hx479_0⟩ := Kd.at_int (Kd.R_reads' HO_6.out).2.2 x7_1 p479 q479
                  cases e479
                  replace p479 := eq_true p479
                  replace q479 := eq_true q479
                  have p480 : 0 ≤ ((rd t476 x7_1) : Int) := of_decide_eq_true (by first | (with_reducible assumption) | assumption)
                  have q480 : (rd t476 x7_1) < (l0.length : Int) := of_decide_eq_true (by first | (with_reducible assumption) | assumption)
                  obtain ⟨ad480, A480_6, c480_6, A480_8, c480_8, A480_9, c480_9, A480_10, c480_10, A480_12, c480_12, e480, hx480_0, hx480_1, hx480_2, hx480_3, hx480_4, hx480_5, hx480_6, hx480_7, hx480_8, hx480_9, hx480_10, hx480_11, hx480_12, hx480_13, hl480_6, hi480_6, hl480_8, hi480_8, hl480_9, hi480_9, hl480_10, hi480_10, hl480_12, hi480_12⟩ := at_T59 HR0.out (rd t476 x7_1) p480 q480
                  cases e480
                  replace hx480_0 := (HB.out.cell (World.block_lt_of_cell? w _ hx480_0)).trans hx480_0
                  replace hx480_1 := (HB.out.cell (World.block_lt_of_cell? w _ hx480_1)).trans hx480_1
                  replace hx480_2 := (HB.out.cell (World.block_lt_of_cell? w _ hx480_2)).trans hx480_2
                  replace hx480_3 := (HB.out.cell (World.block_lt_of_cell? w _ hx480_3)).trans hx480_3
                  replace hx480_4 := (HB.out.cell (World.block_lt_of_cell? w _ hx480_4)).trans hx480_4
                  replace hx480_5 := (HB.out.cell (World.block_lt_of_cell? w _ hx480_5)).trans hx480_5
                  replace hx480_6 := (HB.out.cell (World.block_lt_of_cell? w _ hx480_6)).trans hx480_6
                  replace hx480_7 := (HB.out.cell (World.block_lt_of_cell? w _ hx480_7)).trans hx480_7
                  replace hx480_8 := (HB.out.cell (World.block_lt_of_cell? w _ hx480_8)).trans hx480_8
                  replace hx480_9 := (HB.out.cell (World.block_lt_of_cell? w _ hx480_9)).trans hx480_9
                  replace hx480_10 := (HB.out.cell (World.block_lt_of_cell? w _ hx480_10)).trans hx480_10
                  replace hx480_11 := (HB.out.cell (World.block_lt_of_cell? w _ hx480_11)).trans hx480_11
                  replace hx480_12 := (HB.out.cell (World.block_lt_of_cell? w _ hx480_12)).trans hx480_12
                  replace hx480_13 := (HB.out.cell (World.block_lt_of_cell? w _ hx480_13)).trans hx480_13
                  have HR480_6 := Aside0.mk hi480_6
                  have HC480_6 := Aside0.mk hl480_6
                  clear hi480_6 hl480_6
                  have HR480_8 := Aside0.mk hi480_8
                  have HC480_8 := Aside0.mk hl480_8
                  clear hi480_8 hl480_8
                  have HR480_9 := Aside0.mk hi480_9
                  have HC480_9 := Aside0.mk hl480_9
                  clear hi480_9 hl480_9
                  have HR480_10 := Aside0.mk hi480_10
                  have HC480_10 := Aside0.mk hl480_10
                  clear hi480_10 hl480_10
                  have HR480_12 := Aside0.mk hi480_12
                  have HC480_12 := Aside0.mk hl480_12
                  clear hi480_12 hl480_12
                  replace p480 := eq_true p480
                  replace q480 := eq_true q480
                  go_wp2_with (first | ((with_reducible refine gate_builtin (b := .append) (xs := #[.tmp 22, .tmp 31]) rfl ?_); at_builtin; refine Kd.R_append (Kd.int .i64) (w0 := w) w.heap.size rfl (.tmp 22) (.tmp 31) 40 3 (.int .i64 0) 8 rfl Try.underlying40 info3 rfl (by decide) (by omega) u5 x5_1 ((rd_T59 l0 (rd t476 x7_1)).f0) [.int .i64 ((rd_T59 l0 (rd t476 x7_1)).f0)] (fun k_ => some k_ ≠ (.slice (some ad479) t476.length co15 : Value).ownBlock) (fun _ => False) rfl rfl ?aP (fun _ hk => hk.elim) ?aF ?aO ?aB ?aS ?aL ?_; (case aP => exact rfl); (case aB => exact (by repeat (first | (with_reducible first | exact HB.out | apply below_alloc | apply pw_below_drewN | apply below_drew1) | exact HB.out))); (case aF => exact (fun k_ hk => Kd.fresh' (Kd.R_lt (by (with_reducible repeat (first | apply Kd.R_alloc | apply Kd.R_drewN | apply Kd.R_drew)); exact HO_6.out)) k_ hk)); (case aO => exact (by (with_reducible repeat (first | apply Kd.R_alloc | apply Kd.R_drewN | apply Kd.R_drew)); exact HO_5.out)); (case aS => exact (below_size (by repeat (first | (with_reducible first | exact HB.out | apply below_alloc | apply pw_below_drewN | apply below_drew1) | exact HB.out)))); (case aL => have := LMc14.out; omega); intro v482 w16 ho hb hg hat; rw [← Ny481.out] at ho; have n0_ := Aside0.mk (Kd.R_after (ok := (fun _ => True)) (by (with_reducible repeat (first | apply Kd.R_alloc | apply Kd.R_drewN | apply Kd.R_drew)); exact Kd.R_mono HO_6.out (fun _ hk => ⟨trivial, hk⟩)) hg hat); have n1_ := Aside0.mk (hb); have n2_ := Aside0.mk (ho); clear HO_6; clear HB; clear HO_5; have HO_6 := n0_; have HB := n1_; have HO483 := n2_; clear n0_ n1_ n2_; clear ho hb hg hat))
                  go_roundg k1
                  case measure => have := HK1.out; omega
                  case rel => exact ⟨(y481), (wrap64 (x7_1 + 1)), (by first | rfl | (simp; done) | (simp [*]; done)), H', ⟨by have := HK1.out; omega⟩, ⟨by (with_reducible repeat (first | apply Kd.R_alloc | apply Kd.R_drewN | apply Kd.R_drew)); exact HO483.out⟩, ⟨by (with_reducible repeat (first | apply Kd.R_alloc | apply Kd.R_drewN | apply Kd.R_drew)); exact Kd.R_mono HO_6.out (fun _ hk => hk.2)⟩, ⟨by repeat (first | (with_reducible first | exact HB.out | apply below_alloc | apply pw_below_drewN | apply below_drew1) | exact HB.out)⟩⟩
                · rw [if_neg c14] at H
                  exact absurd H (by simp)
              · rw [if_neg c13] at H
                exact absurd H (by simp)
            · rw [if_neg c12] at H
              exact absurd H (by simp)
          · rw [if_neg c11] at H
            exact absurd H (by simp)
        · rw [if_neg c10] at H
          have c10b0 : decide (x7_1 < (t476.length : Int)) = false := decide_eq_false c10
          clear c10
          obtain rfl := Option.some.inj H
          obtain ⟨Ao17, co17, eo17⟩ := Kd.R_slice HO_6.out
          subst eo17
          go_wp2
          go_ret
          exact ⟨_, by first | rfl | (simp [errW_none, errW_some] <;> rfl) | (simp [*, errW_none, errW_some] <;> rfl), by (with_reducible repeat (first | apply Kd.R_alloc | apply Kd.R_drewN | apply Kd.R_drew)); exact Kd.R_mono HO_5.out (fun _ hk => trivial), by repeat (first | (with_reducible first | exact HB.out | apply below_alloc | apply pw_below_drewN | apply below_drew1) | exact HB.out)⟩
  · replace c4 := Bool.eq_false_iff.mpr c4
    subst c4
    have H1 : (some y472) = some r := by rw [if_neg (show ¬ (false = true) by decide)] at H; exact H
    clear H
    have H := H1
    clear H1
    obtain rfl := Option.some.inj H
    go_enter Try.func25, Try.ntmps25
    go_wp2_with (first | ((with_reducible refine gate_dst (N := 8) rfl ?_); refine Kd.R_lit (Kd.int .i64) _ 3 ?hg (N := 8) ?hd (xs := ([] : List Int)) (inner := []) (ok := fun _ => True) (okp := fun _ => True) ?hr ?hp (fun _ hk => hk) trivial (Below.refl _ _) (Nat.le_refl _) (by simp) ?_; (case hd => rfl); (case hg => rfl); (case hr => first | (go_simp; done) | (go_simp; rfl)); (case hp => exact (Reps.none _ _)); intro v473 w18 ho19 hb hg_ hnew_; clear hg_ hnew_; (first | rw [← Ny472.out] at ho19 | (simp only [Int.reduceToNat] at ho19; rw [← Ny472.out] at ho19)); have n0_ := Aside0.mk (Kd.R_lower ho19 (below_size (by repeat (first | (with_reducible first | exact HB.out | apply below_alloc | apply pw_below_drewN | apply below_drew1) | exact HB.out)))); have n1_ := Aside0.mk (below_step (by repeat (first | (with_reducible first | exact HB.out | apply below_alloc | apply pw_below_drewN | apply below_drew1) | exact HB.out)) hb); clear HB; have HO474 := n0_; have HB := n1_; clear n0_ n1_; clear hb ho19) | ((with_reducible refine gate_callee (f := 21) rfl ?_); refine goesL_ (some 10) rfl rfl Try.func21 (by kernel_rfl) rfl #[.slice A0 l0.length c0] rfl (by (try simp only [List.map_toArray, List.map_cons, List.map_nil]); first | done | rfl | (simp only [List.length_drop, List.length_take]; rfl)) ?_; (with_reducible refine (spec_TreeOk.calls k _ _ l0 false _ ?side1 ?side2 A3.out).mono ?_); (case side1 => repeat (first | exact (Kd.C_below HR0.out HB.out) | (with_reducible refine Kd.C_alloc ?_ _) | (with_reducible refine Kd.C_drewN ?_ _) | (with_reducible refine Kd.C_drew ?_))); (case side2 => exact HC0.out); rintro e w20 ⟨rfl, hb⟩; refine ⟨_, rfl, ?_⟩; have n0_ := Aside0.mk (Kd.R_below (by (with_reducible repeat (first | apply Kd.R_alloc | apply Kd.R_drewN | apply Kd.R_drew)); exact HO474.out) hb); have n1_ := Aside0.mk (below_step (by repeat (first | (with_reducible first | exact HB.out | apply below_alloc | apply pw_below_drewN | apply below_drew1) | exact HB.out)) hb); clear HO474; clear HB; have HO474 := n0_; have HB := n1_; clear n0_ n1_; (try clear hb); (try clear hb2); (try clear hk); (try clear hi)))
    go_ret
    exact ⟨_, by first | rfl | (simp [errW_none, errW_some] <;> rfl) | (simp [*, errW_none, errW_some] <;> rfl), by (with_reducible repeat (first | apply Kd.R_alloc | apply Kd.R_drewN | apply Kd.R_drew)); exact HO474.out, by repeat (first | (with_reducible first | exact HB.out | apply below_alloc | apply pw_below_drewN | apply below_drew1) | exact HB.out)⟩

theorem spec_ChainOf.is {l : List S59} (hl : l.length ≤ maxLen) (hw : ∀ b ∈ l, blockFit b) (id : Int) : Ev (fun k => spec_ChainOf.f k l id) (if treeOk l = true then chainIds l id else []) := by
  unfold spec_ChainOf.f
  refine Ev.bind (Ev.now _) (Ev.bind (spec_TreeOk.is hl hw) (Ev.cond (fun h => ?_) (fun h => Ev.is (by rw [if_neg h]))))
  have ⟨T, h4⟩ := treeOk_is h
  rw [if_pos h]
  refine Ev.bind (spec_l10Chain.is T h4 id) ?_
  have hin := chainAt_in T id
  have hlen := chainAt_len T id
  unfold chainIds
  generalize chainAt l id = ch at *
  have key : ∀ (ys pre : List Int), ch = pre ++ ys → Ev (fun k => spec_ChainOf.l0 k l (pre.map (idOf l)) ch (pre.length : Int)) (ch.map (idOf l)) := by
    intro ys
    induction ys with
    | nil =>
      intro pre hx
      obtain rfl : ch = pre := by rw [hx, List.append_nil]
      refine Ev.up ?_
      simp only [spec_ChainOf.l0]
      exact Ev.no (by omega) (Ev.now _)
    | cons y ys ih =>
      intro pre hx
      have hp := len_app hx
      have hrd : rd ch pre.length = y := by rw [hx]; exact at_app pre y ys _
      have hy := hin y (by rw [hx]; simp)
      have hn := ih (pre ++ [y]) (by rw [hx]; simp)
      rw [List.map_append, List.length_append, List.length_singleton] at hn
      refine Ev.up ?_
      simp only [spec_ChainOf.l0, hrd]
      refine Ev.yes (by omega) (Ev.yes (by omega) (Ev.yes hy.1 (Ev.yes hy.2 (Ev.yes (by rw [List.length_map]; omega) ?_))))
      rw [unw (x := (pre.length : Int) + 1) (by omega) (by omega)]
      exact hn
  exact key ch [] rfl

end Go.Proofs.Ytnldeeefiidcaaa.F
