/-
Functions of the program, what they come to, and that Go comes to just that: spec_l10Chain.
Conditions: those that each theorem names.
-/
import Derived.Test.YtnldeeefiidcaaaFAbs
import Derived.Test.YtnldeeefiidcaaaF2
import Derived.Test.YtnldeeefiidcaaaWMore
set_option linter.unusedVariables false
set_option linter.unusedSimpArgs false
namespace Go.Proofs.Ytnldeeefiidcaaa.F
open Go.RowKit Go.Proofs.YtnldeeefiidcaaaW.PrintWords Go.Proofs.YtnldeeefiidcaaaW.PrintLast Go.Proofs.Ytnldeeefiidcaaa.Base Go.Proofs.Ytnldeeefiidcaaa.BW
open Go.Proofs.YtnldeeefiidcaaaW.PrintMore
attribute [local go_sem] max2_int min2_int max_two min_two max_three min_three max_four min_four   -- for this text's walks alone

/-! ### spec_l10Chain: function 62 -/
def spec_l10Chain.l0 : Nat → List (S59) → Int → List Int → Option (List Int)
  | 0, _, _, _ => none
  | k + 1, x0, x1, x5 => if x1 ≥ 0 then ((spec_l10At.f k x0 x1).bind fun t420 => (if t420 < 0 then (some (([] : List Int))) else ((some (([t420] : List Int) : List Int)).bind fun y424 => (if y424.length + x5.length < 17592186044416 then (if 0 ≤ t420 then (if t420 < (x0.length : Int) then (spec_l10Chain.l0 k x0 ((rd_T59 x0 t420).f4.f1) (y424 ++ x5)) else (none)) else (none)) else (none))))) else (some x5)
def spec_l10Chain.f (k : Nat) (l0 : List (S59)) (a1 : Int) : Option (List Int) := spec_l10Chain.l0 k l0 a1 (([] : List Int))
theorem spec_l10Chain.mono_l : ∀ k, (∀ y0 y1 y2, LeO (spec_l10Chain.l0 k y0 y1 y2) (spec_l10Chain.l0 (k + 1) y0 y1 y2))
  | 0 => fun _ _ _ r h => by simp [spec_l10Chain.l0] at h
  | k + 1 => by
    have ih0 := spec_l10Chain.mono_l k
    · intro y0 y1 y2
      unfold spec_l10Chain.l0
      repeat' first
      | (with_reducible exact ih0 _ _ _)
      | (with_reducible exact spec_l10At.mono _ _ _)
      | (with_reducible exact LeO.refl _)
      | (with_reducible exact LeO.none _)
      | (with_reducible refine LeO.ite ?_ ?_)
      | (with_reducible refine LeO.bind ?_ (fun _ => ?_))
      | exact ih0 _ _ _
      | exact spec_l10At.mono _ _ _
      | exact LeO.none _
      | refine LeO.ite ?_ ?_
      | refine LeO.bind ?_ (fun _ => ?_)
theorem spec_l10Chain.mono : ∀ a0 a1 k, LeO (spec_l10Chain.f k a0 a1) (spec_l10Chain.f (k + 1) a0 a1) := by
  intro a0 a1 k
  have ih0 := spec_l10Chain.mono_l k
  unfold spec_l10Chain.f
  repeat' first
      | (with_reducible exact ih0 _ _ _)
      | (with_reducible exact spec_l10At.mono _ _ _)
      | (with_reducible exact LeO.refl _)
      | (with_reducible exact LeO.none _)
      | (with_reducible refine LeO.ite ?_ ?_)
      | (with_reducible refine LeO.bind ?_ (fun _ => ?_))
      | exact ih0 _ _ _
      | exact spec_l10At.mono _ _ _
      | exact LeO.none _
      | refine LeO.ite ?_ ?_
      | refine LeO.bind ?_ (fun _ => ?_)
set_option maxHeartbeats 8000000 in
set_option maxRecDepth 100000 in
theorem spec_l10Chain.calls (k : Nat) (A0 : Option Addr) (c0 : Nat) (l0 : List (S59)) (a1 : Int) (r : List Int) (w : World) (hr0 : Kd.C k59 w A0 l0.length l0) (hc0 : l0.length ≤ c0) (h : spec_l10Chain.f k l0 a1 = some r) :
    Calls Try.prog 62 #[.slice A0 l0.length c0, .int .i64 a1] w fun e w' => ∃ v0_ : Value, e = .returned (v0_) ∧ Kd.R (Kd.int .i64) 3 w' w.heap.size (fun _ => True) v0_ r ∧ Below w.heap.size w w' := by
  have HR0 := Aside0.mk hr0
  have HC0 := Aside0.mk hc0
  clear hr0 hc0
  have HB := Aside0.mk (Below.refl w.heap.size w)
  have H : (spec_l10Chain.l0 k l0 a1 (([] : List Int))) = some r := h
  clear h
  obtain ⟨y417, hy417⟩ : ∃ y_ : List Int, y_ = (([] : List Int)) := ⟨_, rfl⟩
  replace H : (spec_l10Chain.l0 k l0 a1 y417) = some r := by first | (rw [hy417]; with_reducible exact H) | (have H2_ := (Option.bind_some _ _).symm.trans H; rw [hy417]; with_reducible exact H2_) | (have H2_ := (Option.bind_some _ _).symm.trans H; with_reducible exact H2_) | with_reducible exact H | (rw [hy417]; exact H) | exact H
  have Ny417 := Aside0.mk hy417
  clear hy417
  have H' := Aside0.mk H
  clear H
  go_enter Try.func62, Try.ntmps62
  go_wp2_with (first | ((with_reducible refine gate_dst (N := 7) rfl ?_); refine Kd.R_lit (Kd.int .i64) _ 3 ?hg (N := 7) ?hd (xs := ([] : List Int)) (inner := []) (ok := fun _ => True) (okp := fun _ => True) ?hr ?hp (fun _ hk => hk) trivial (Below.refl _ _) (Nat.le_refl _) (by simp) ?_; (case hd => rfl); (case hg => rfl); (case hr => first | (go_simp; done) | (go_simp; rfl)); (case hp => exact (Reps.none _ _)); intro v418 w3 ho4 hb hg_ hnew_; clear hg_ hnew_; (first | rw [← Ny417.out] at ho4 | (simp only [Int.reduceToNat] at ho4; rw [← Ny417.out] at ho4)); have n0_ := Aside0.mk (Kd.R_lower ho4 (below_size (by repeat (first | (with_reducible first | exact HB.out | apply below_alloc | apply pw_below_drewN | apply below_drew1) | exact HB.out)))); have n1_ := Aside0.mk (below_step (by repeat (first | (with_reducible first | exact HB.out | apply below_alloc | apply pw_below_drewN | apply below_drew1) | exact HB.out)) hb); clear HB; have HO419 := n0_; have HB := n1_; clear n0_ n1_; clear hb ho4))
  go_loopg [1, 5] k (fun kq v1 v5 w' => ∃ (x1_1 : Int) (x5_1 : List Int), v1 = .int .i64 x1_1 ∧ Aside0 (spec_l10Chain.l0 kq l0 x1_1 x5_1 = some r) ∧ Aside0 (kq ≤ k) ∧ Aside0 (Kd.R (Kd.int .i64) 3 w' w.heap.size (fun _ => True) v5 x5_1) ∧ Aside0 (Below w.heap.size w w'))
  case atStart => exact ⟨(a1), (y417), (by first | rfl | (simp; done) | (simp [*]; done)), H', ⟨Nat.le_refl _⟩, ⟨by (with_reducible repeat (first | apply Kd.R_alloc | apply Kd.R_drewN | apply Kd.R_drew)); exact HO419.out⟩, ⟨by repeat (first | (with_reducible first | exact HB.out | apply below_alloc | apply pw_below_drewN | apply below_drew1) | exact HB.out)⟩⟩
  case round =>
    clear H'
    try clear p2
    obtain ⟨x1_1, x5_1, rfl, HA, HK1, HO_5, HB⟩ := hrel
    cases gk with
    | zero => exact absurd HA.out (by simp [spec_l10Chain.l0])
    | succ k1 =>
      have H := HA.out
      clear HA
      simp only [spec_l10Chain.l0] at H
      by_cases c5 : x1_1 ≥ 0
      · rw [if_pos c5] at H
        have c5b0 : decide (0 ≤ x1_1) = true := decide_eq_true c5
        clear c5
        replace H := Option.bind_eq_some_iff.mp H
        obtain ⟨t420, A60, H⟩ := H
        replace H : (if t420 < 0 then (some (([] : List Int))) else ((some (([t420] : List Int) : List Int)).bind fun y424 => (if y424.length + x5_1.length < 17592186044416 then (if 0 ≤ t420 then (if t420 < (l0.length : Int) then (spec_l10Chain.l0 k1 l0 ((rd_T59 l0 t420).f4.f1) (y424 ++ x5_1)) else (none)) else (none)) else (none)))) = some r := H
        have A6 := Aside0.mk A60
        clear A60
        by_cases c7 : t420 < 0
        · rw [if_pos c7] at H
          have c7b0 : decide (t420 < 0) = true := decide_eq_true c7
          clear c7
          obtain ⟨y421, hy421⟩ : ∃ y_ : List Int, y_ = (([] : List Int)) := ⟨_, rfl⟩
          replace H : (some y421) = some r := by first | (rw [hy421]; with_reducible exact H) | (have H2_ := (Option.bind_some _ _).symm.trans H; rw [hy421]; with_reducible exact H2_) | (have H2_ := (Option.bind_some _ _).symm.trans H; with_reducible exact H2_) | with_reducible exact H | (rw [hy421]; exact H) | exact H
          have Ny421 := Aside0.mk hy421
          clear hy421
          obtain rfl := Option.some.inj H
          go_wp2_with (first | ((with_reducible refine gate_callee (f := 54) rfl ?_); refine goesL_ (some 12) rfl rfl Try.func54 (by kernel_rfl) rfl #[.slice A0 l0.length c0, .int .i64 x1_1] rfl (by (try simp only [List.map_toArray, List.map_cons, List.map_nil]); first | done | rfl | (simp only [List.length_drop, List.length_take]; rfl)) ?_; (with_reducible refine (spec_l10At.calls k1 _ _ l0 x1_1 t420 _ ?side1 ?side2 A6.out).mono ?_); (case side1 => repeat (first | exact (Kd.C_below HR0.out HB.out) | (with_reducible refine Kd.C_alloc ?_ _) | (with_reducible refine Kd.C_drewN ?_ _) | (with_reducible refine Kd.C_drew ?_))); (case side2 => exact HC0.out); rintro e w' ⟨rfl, ⟨nd, rfl⟩⟩; refine ⟨_, rfl, ?_⟩) | ((with_reducible refine gate_dst (N := 15) rfl ?_); refine Kd.R_lit (Kd.int .i64) _ 3 ?hg (N := 15) ?hd (xs := ([] : List Int)) (inner := []) (ok := fun _ => True) (okp := fun _ => True) ?hr ?hp (fun _ hk => hk) trivial (Below.refl _ _) (Nat.le_refl _) (by simp) ?_; (case hd => rfl); (case hg => rfl); (case hr => first | (go_simp; done) | (go_simp; rfl)); (case hp => exact (Reps.none _ _)); intro v422 w8 ho9 hb hg_ hnew_; clear hg_ hnew_; (first | rw [← Ny421.out] at ho9 | (simp only [Int.reduceToNat] at ho9; rw [← Ny421.out] at ho9)); have n0_ := Aside0.mk (Kd.R_elder' (by (with_reducible repeat (first | apply Kd.R_alloc | apply Kd.R_drewN | apply Kd.R_drew)); exact HO_5.out) (Kd.R_base ho9) hb); have n1_ := Aside0.mk (Kd.R_lower (Kd.R_new' ho9 (Kd.R_lt (by (with_reducible repeat (first | apply Kd.R_alloc | apply Kd.R_drewN | apply Kd.R_drew)); exact HO_5.out))) (below_size (by repeat (first | (with_reducible first | exact HB.out | apply below_alloc | apply pw_below_drewN | apply below_drew1) | exact HB.out)))); have n2_ := Aside0.mk (below_step (by repeat (first | (with_reducible first | exact HB.out | apply below_alloc | apply pw_below_drewN | apply below_drew1) | exact HB.out)) hb); clear HO_5; clear HB; have HO_5 := n0_; have HO423 := n1_; have HB := n2_; clear n0_ n1_ n2_; clear hb ho9))
          go_ret
          exact ⟨_, by first | rfl | (simp [errW_none, errW_some] <;> rfl) | (simp [*, errW_none, errW_some] <;> rfl), by (with_reducible repeat (first | apply Kd.R_alloc | apply Kd.R_drewN | apply Kd.R_drew)); exact Kd.R_mono HO423.out (fun _ hk => trivial), by repeat (first | (with_reducible first | exact HB.out | apply below_alloc | apply pw_below_drewN | apply below_drew1) | exact HB.out)⟩
        · rw [if_neg c7] at H
          have c7b0 : decide (t420 < 0) = false := decide_eq_false c7
          clear c7
          obtain ⟨y424, hy424⟩ : ∃ y_ : List Int, y_ = (([t420] : List Int)) := ⟨_, rfl⟩
          replace H : (if y424.length + x5_1.length < 17592186044416 then (if 0 ≤ t420 then (if t420 < (l0.length : Int) then (spec_l10Chain.l0 k1 l0 ((rd_T59 l0 t420).f4.f1) (y424 ++ x5_1)) else (none)) else (none)) else (none)) = some r := by first | (rw [hy424]; with_reducible exact H) | (have H2_ := (Option.bind_some _ _).symm.trans H; rw [hy424]; with_reducible exact H2_) | (have H2_ := (Option.bind_some _ _).symm.trans H; with_reducible exact H2_) | with_reducible exact H | (rw [hy424]; exact H) | exact H
          have Ny424 := Aside0.mk hy424
          clear hy424
          by_cases c10 : y424.length + x5_1.length < 17592186044416
          · rw [if_pos c10] at H
            have LMc10 := Aside0.mk c10
            clear c10
            obtain ⟨y427, hy427⟩ : ∃ y_ : List Int, y_ = (y424 ++ x5_1) := ⟨_, rfl⟩
            replace H : (if 0 ≤ t420 then (if t420 < (l0.length : Int) then (spec_l10Chain.l0 k1 l0 ((rd_T59 l0 t420).f4.f1) y427) else (none)) else (none)) = some r := by first | (rw [hy427]; with_reducible exact H) | (have H2_ := (Option.bind_some _ _).symm.trans H; rw [hy427]; with_reducible exact H2_) | (have H2_ := (Option.bind_some _ _).symm.trans H; with_reducible exact H2_) | with_reducible exact H | (rw [hy427]; exact H) | exact H
            have Ny427 := Aside0.mk hy427
            clear hy427
            by_cases c11 : 0 ≤ t420
            · rw [if_pos c11] at H
              have c11b0 : decide (0 ≤ t420) = true := decide_eq_true c11
              clear c11
              by_cases c12 : t420 < (l0.length : Int)
              · rw [if_pos c12] at H
                have c12b0 : decide (t420 < (l0.length : Int)) = true := decide_eq_true c12
                clear c12
                have H' := Aside0.mk H
                clear H
                go_wp2_with (first | ((with_reducible refine gate_callee (f := 54) rfl ?_); refine goesL_ (some 12) rfl rfl Try.func54 (by kernel_rfl) rfl #[.slice A0 l0.length c0, .int .i64 x1_1] rfl (by (try simp only [List.map_toArray, List.map_cons, List.map_nil]); first | done | rfl | (simp only [List.length_drop, List.length_take]; rfl)) ?_; (with_reducible refine (spec_l10At.calls k1 _ _ l0 x1_1 t420 _ ?side1 ?side2 A6.out).mono ?_); (case side1 => repeat (first | exact (Kd.C_below HR0.out HB.out) | (with_reducible refine Kd.C_alloc ?_ _) | (with_reducible refine Kd.C_drewN ?_ _) | (with_reducible refine Kd.C_drew ?_))); (case side2 => exact HC0.out); rintro e w' ⟨rfl, ⟨nd, rfl⟩⟩; refine ⟨_, rfl, ?_⟩) | ((with_reducible refine gate_dst (N := 17) rfl ?_); refine Kd.R_lit (Kd.int .i64) _ 3 ?hg (N := 17) ?hd (xs := ([t420] : List Int)) (inner := [.int .i64 t420]) (ok := fun _ => True) (okp := fun _ => True) ?hr ?hp (fun _ hk => hk) trivial (Below.refl _ _) (Nat.le_refl _) (by simp) ?_; (case hd => rfl); (case hg => rfl); (case hr => first | (go_simp; done) | (go_simp; rfl)); (case hp => exact (Reps.one (show Kd.M (Kd.int .i64) _ _ _ t420 [.int .i64 t420] from rfl) (Reps.none _ _))); intro v425 w13 ho14 hb hg_ hnew_; clear hg_ hnew_; (first | rw [← Ny424.out] at ho14 | (simp only [Int.reduceToNat] at ho14; rw [← Ny424.out] at ho14)); have n0_ := Aside0.mk (Kd.R_elder' (by (with_reducible repeat (first | apply Kd.R_alloc | apply Kd.R_drewN | apply Kd.R_drew)); exact HO_5.out) (Kd.R_base ho14) hb); have n1_ := Aside0.mk (Kd.R_lower (Kd.R_new' ho14 (Kd.R_lt (by (with_reducible repeat (first | apply Kd.R_alloc | apply Kd.R_drewN | apply Kd.R_drew)); exact HO_5.out))) (below_size (by repeat (first | (with_reducible first | exact HB.out | apply below_alloc | apply pw_below_drewN | apply below_drew1) | exact HB.out)))); have n2_ := Aside0.mk (below_step (by repeat (first | (with_reducible first | exact HB.out | apply below_alloc | apply pw_below_drewN | apply below_drew1) | exact HB.out)) hb); clear HO_5; clear HB; have HO_5 := n0_; have HO426 := n1_; have HB := n2_; clear n0_ n1_ n2_; clear hb ho14; obtain ⟨Ao16, co16, eo16⟩ := Kd.R_slice HO_5.out; subst eo16) | ((with_reducible refine gate_builtin (b := .append) (xs := #[.tmp 17, .tmp 18]) rfl ?_); at_builtin; refine Kd.R_append_rows (Kd.int .i64) (w0 := w) w.heap.size rfl (.tmp 17) (.tmp 18) 40 3 (.int .i64 0) 8 rfl Try.underlying40 info3 rfl (by decide) (by omega) v425 y424 x5_1 _ _ _ (fun k_ => some k_ ≠ (.slice Ao16 x5_1.length co16 : Value).ownBlock) (fun _ => False) rfl rfl ?aO ?aR (fun _ _ h => h) (fun _ h => h.elim) ?aF ?aB ?aS ?aL ?_; (case aR => repeat (first | exact (Kd.R_reads' HO_5.out).2.2 | (with_reducible refine Kd.C_alloc ?_ _) | (with_reducible refine Kd.C_drewN ?_ _) | (with_reducible refine Kd.C_drew ?_))); (case aB => exact (by repeat (first | (with_reducible first | exact HB.out | apply below_alloc | apply pw_below_drewN | apply below_drew1) | exact HB.out))); (case aF => exact (fun k_ hk => Kd.fresh' (Kd.R_lt (by (with_reducible repeat (first | apply Kd.R_alloc | apply Kd.R_drewN | apply Kd.R_drew)); exact HO_5.out)) k_ hk)); (case aO => exact (by (with_reducible repeat (first | apply Kd.R_alloc | apply Kd.R_drewN | apply Kd.R_drew)); exact Kd.R_mono HO426.out (fun _ hk => hk.2))); (case aS => exact (below_size (by repeat (first | (with_reducible first | exact HB.out | apply below_alloc | apply pw_below_drewN | apply below_drew1) | exact HB.out)))); (case aL => have := LMc10.out; omega); intro v428 w15 ho hb hg hat; rw [← Ny427.out] at ho; have n0_ := Aside0.mk (Kd.R_after (ok := (fun _ => True)) (by (with_reducible repeat (first | apply Kd.R_alloc | apply Kd.R_drewN | apply Kd.R_drew)); exact HO_5.out) hg hat); have n1_ := Aside0.mk (hb); have n2_ := Aside0.mk (ho); clear HO_5; clear HB; clear HO426; have HO_5 := n0_; have HB := n1_; have HO429 := n2_; clear n0_ n1_ n2_; clear ho hb hg hat; have p430 : 0 ≤ (t420 : Int) := of_decide_eq_true (by first | (with_reducible assumption) | assumption); have q430 : t420 < (l0.length : Int) := of_decide_eq_true (by first | (with_reducible assumption) | assumption); obtain ⟨ad430, A430_6, c430_6, A430_8, c430_8, A430_9, c430_9, A430_10, c430_10, A430_12, c430_12, e430, hx430_0, hx430_1, hx430_2, hx430_3, hx430_4, hx430_5, hx430_6, hx430_7, hx430_8, hx430_9, hx430_10, hx430_11, hx430_12, hx430_13, hl430_6, hi430_6, hl430_8, hi430_8, hl430_9, hi430_9, hl430_10, hi430_10, hl430_12, hi430_12⟩ := at_T59 HR0.out t420 p430 q430; cases e430; replace hx430_0 := (HB.out.cell (World.block_lt_of_cell? w _ hx430_0)).trans hx430_0; replace hx430_1 := (HB.out.cell (World.block_lt_of_cell? w _ hx430_1)).trans hx430_1; replace hx430_2 := (HB.out.cell (World.block_lt_of_cell? w _ hx430_2)).trans hx430_2; replace hx430_3 := (HB.out.cell (World.block_lt_of_cell? w _ hx430_3)).trans hx430_3; replace hx430_4 := (HB.out.cell (World.block_lt_of_cell? w _ hx430_4)).trans hx430_4; replace hx430_5 := (HB.out.cell (World.block_lt_of_cell? w _ hx430_5)).trans hx430_5; replace hx430_6 := (HB.out.cell (World.block_lt_of_cell? w _ hx430_6)).trans hx430_6; replace hx430_7 := (HB.out.cell (World.block_lt_of_cell? w _ hx430_7)).trans hx430_7; replace hx430_8 := (HB.out.cell (World.block_lt_of_cell? w _ hx430_8)).trans hx430_8; replace hx430_9 := (HB.out.cell (World.block_lt_of_cell? w _ hx430_9)).trans hx430_9; replace hx430_10 := (HB.out.cell (World.block_lt_of_cell? w _ hx430_10)).trans hx430_10; replace hx430_11 := (HB.out.cell (World.block_lt_of_cell? w _ hx430_11)).trans hx430_11; replace hx430_12 := (HB.out.cell (World.block_lt_of_cell? w _ hx430_12)).trans hx430_12; replace hx430_13 := (HB.out.cell (World.block_lt_of_cell? w _ hx430_13)).trans hx430_13; have HR430_6 := Aside0.mk hi430_6; have HC430_6 := Aside0.mk hl430_6; clear hi430_6 hl430_6; have HR430_8 := Aside0.mk hi430_8; have HC430_8 := Aside0.mk hl430_8; clear hi430_8 hl430_8; have HR430_9 := Aside0.mk hi430_9; have HC430_9 := Aside0.mk hl430_9; clear hi430_9 hl430_9; have HR430_10 := Aside0.mk hi430_10; have HC430_10 := Aside0.mk hl430_10; clear hi430_10 hl430_10; have HR430_12 := Aside0.mk hi430_12; have HC430_12 := Aside0.mk hl430_12; clear hi430_12 hl430_12; replace p430 := eq_true p430; replace q430 := eq_true q430))
                go_roundg k1
                case measure => have := HK1.out; omega
                case rel => exact ⟨((rd_T59 l0 t420).f4.f1), (y427), (by first | rfl | (simp; done) | (simp [*]; done)), H', ⟨by have := HK1.out; omega⟩, ⟨by (with_reducible repeat (first | apply Kd.R_alloc | apply Kd.R_drewN | apply Kd.R_drew)); exact Kd.R_mono HO429.out (fun _ hk => trivial)⟩, ⟨by repeat (first | (with_reducible first | exact HB.out | apply below_alloc | apply pw_below_drewN | apply below_drew1) | exact HB.out)⟩⟩
              · rw [if_neg c12] at H
                exact absurd H (by simp)
            · rw [if_neg c11] at H
              exact absurd H (by simp)
          · rw [if_neg c10] at H
            exact absurd H (by simp)
      · rw [if_neg c5] at H
        have c5b0 : decide (0 ≤ x1_1) = false := decide_eq_false c5
        clear c5
        obtain rfl := Option.some.inj H
        go_wp2
        go_ret
        exact ⟨_, by first | rfl | (simp [errW_none, errW_some] <;> rfl) | (simp [*, errW_none, errW_some] <;> rfl), by (with_reducible repeat (first | apply Kd.R_alloc | apply Kd.R_drewN | apply Kd.R_drew)); exact HO_5.out, by repeat (first | (with_reducible first | exact HB.out | apply below_alloc | apply pw_below_drewN | apply below_drew1) | exact HB.out)⟩

theorem spec_l10Chain.is {l : List S59} (T : allUpto l.length (treeAt l) = true) (hl : l.length ≤ 400) (id : Int) : Ev (fun k => spec_l10Chain.f k l id) (chainAt l id) := by
  have hm : maxLen = 9223372036854775807 := rfl
  have key : ∀ (m : Nat) (id : Int) (out : List Int), idAt l id < m → (id < 0 ∨ 0 ≤ idAt l id) → out.length + m ≤ 1000 → Ev (fun k => spec_l10Chain.l0 k l id out) (chainAt l id ++ out) := by
    intro m
    induction m with
    | zero =>
      intro id out h0 h1 h2
      have h3 := idAt_lo l id
      refine Ev.up ?_
      simp only [spec_l10Chain.l0]
      exact Ev.no (by omega) (Ev.is (by rw [chainAt_nil (by omega)]; rfl))
    | succ m ih =>
      intro id out h0 h1 h2
      have h3 := idAt_hi l id
      refine Ev.up ?_
      simp only [spec_l10Chain.l0]
      refine Ev.cond (fun hc => ?_) (fun hc => Ev.is (by rw [chainAt_nil (by rw [idAt_neg T (by omega)]; omega)]; rfl))
      refine Ev.bind (spec_l10At.is (by omega)) (Ev.no (by omega) ?_)
      have ha := ahead_lt T (k := idAt l id) (by omega) h3
      refine Ev.bind (Ev.now _) (Ev.yes (by show 1 + out.length < _; omega) (Ev.yes (by omega) (Ev.yes (by omega) ?_)))
      rw [chainAt_cons T (by omega), List.append_assoc]
      exact ih (aheadOf l (idAt l id)) ([idAt l id] ++ out) (by omega) (by omega) (by show (out.length + 1) + m ≤ 1000; omega)
  unfold spec_l10Chain.f
  have h3 := idAt_hi l id
  by_cases hc : id < 0 ∨ 0 ≤ idAt l id
  · exact Ev.to (key 401 id [] (by omega) hc (by decide)) (List.append_nil _)
  · refine Ev.up ?_
    simp only [spec_l10Chain.l0]
    exact Ev.yes (by omega) (Ev.bind (spec_l10At.is (by omega)) (Ev.yes (by omega) (Ev.is (by rw [chainAt_nil (by omega)]))))

end Go.Proofs.Ytnldeeefiidcaaa.F
