/-
Functions of the program, what they come to, and that Go comes to just that: spec_l7Set.
Conditions: those that each theorem names.
-/
import Derived.Test.YtadkhkpchankjaaFAbs
set_option linter.unusedVariables false
set_option linter.unusedSimpArgs false
namespace Go.Proofs.Ytadkhkpchankjaa.F
open Go.RowKit Go.Proofs.YtadkhkpchankjaaW.PrintWords Go.Proofs.YtadkhkpchankjaaW.PrintLast Go.Proofs.Ytadkhkpchankjaa.Base Go.Proofs.Ytadkhkpchankjaa.BW

/-! ### spec_l7Set: function 118 -/
def spec_l7Set.l0 : Nat → List (S138) → Int → Int → List (S43) → Option ((List (S138)))
  | 0, _, _, _, _ => none
  | k + 1, x3, x4, x793000, x793001 => if x4 < (x793001.length : Int) then (if 0 ≤ x4 then (if ((rd_T43 x793001 x4).f3) ≥ 5 then (if x3.length < 5864062014805 then (spec_l7Set.l0 k (x3 ++ [(⟨(rd_T43 x793001 x4).f0, (rd_T43 x793001 x4).f3⟩ : S138)]) (wrap64 (x4 + 1)) x793000 x793001) else (none)) else (spec_l7Set.l0 k x3 (wrap64 (x4 + 1)) x793000 x793001)) else (none)) else (some x3)
def spec_l7Set.f (k : Nat) (a0_0 : Int) (l0_1 : List (S43)) : Option ((List (S138))) := spec_l7Set.l0 k (([] : List (S138))) 0 a0_0 l0_1
theorem spec_l7Set.mono_l : ∀ k, (∀ y0 y1 y2 y3, LeO (spec_l7Set.l0 k y0 y1 y2 y3) (spec_l7Set.l0 (k + 1) y0 y1 y2 y3))
  | 0 => fun _ _ _ _ r h => by simp [spec_l7Set.l0] at h
  | k + 1 => by
    have ih0 := spec_l7Set.mono_l k
    · intro y0 y1 y2 y3
      unfold spec_l7Set.l0
      repeat' first
      | (with_reducible exact ih0 _ _ _ _)
      | (with_reducible exact LeO.refl _)
      | (with_reducible exact LeO.none _)
      | (with_reducible refine LeO.ite ?_ ?_)
      | (with_reducible refine LeO.bind ?_ (fun _ => ?_))
      | exact ih0 _ _ _ _
      | exact LeO.none _
      | refine LeO.ite ?_ ?_
      | refine LeO.bind ?_ (fun _ => ?_)
theorem spec_l7Set.mono : ∀ a0 a1 k, LeO (spec_l7Set.f k a0 a1) (spec_l7Set.f (k + 1) a0 a1) := by
  intro a0 a1 k
  have ih0 := spec_l7Set.mono_l k
  unfold spec_l7Set.f
  repeat' first
      | (with_reducible exact ih0 _ _ _ _)
      | (with_reducible exact LeO.refl _)
      | (with_reducible exact LeO.none _)
      | (with_reducible refine LeO.ite ?_ ?_)
      | (with_reducible refine LeO.bind ?_ (fun _ => ?_))
      | exact ih0 _ _ _ _
      | exact LeO.none _
      | refine LeO.ite ?_ ?_
      | refine LeO.bind ?_ (fun _ => ?_)
def spec_l7Set.T6 : Bool × List (List Nat × List Nat) := (true, [([], []), ([], []), ([1], [1]), ([], []), ([2, 3], [2, 3]), ([4], [4]), ([5], [5]), ([], []), ([7], [7]), ([], []), ([8, 9], [8, 9]), ([10], [10]), ([11], [11]), ([6, 12], [6, 12]), ([13], [13]), ([0, 14], [0, 14]), ([15, 15, 0, 1, 2, 3, 4, 5, 6, 7, 8, 9, 10, 11, 12, 13, 14, 15], [0, 15])])
def spec_l7Set.B6 : List Nat := [0, 0, 2, 0, 14, 30, 62, 0, 128, 0, 896, 1920, 3968, 8190, 16382, 32767, 65535]
theorem spec_l7Set.tab6 : rtab .any (opsOf Try.f118 6) = spec_l7Set.T6 := by kernel_rfl
theorem spec_l7Set.bits6 : waitsOk spec_l7Set.T6.2 spec_l7Set.B6 = true := by kernel_rfl
set_option maxHeartbeats 8000000 in
set_option maxRecDepth 100000 in
theorem spec_l7Set.calls (k : Nat) (a0_0 : Int) (A0_1 : Option Addr) (c0_1 : Nat) (l0_1 : List (S43)) (r : List (S138)) (w : World) (hr0_1 : Kd.C k43 w A0_1 l0_1.length l0_1) (hc0_1 : l0_1.length ≤ c0_1) (h : spec_l7Set.f k a0_0 l0_1 = some r) :
    Calls Try.prog 118 #[.agg #[.int .i64 a0_0, .slice A0_1 l0_1.length c0_1]] w fun e w' => ∃ v0_ : Value, e = .returned (v0_) ∧ Kd.R k138 138 w' w.heap.size (fun _ => True) v0_ r ∧ Below w.heap.size w w' := by
  have hu37 := Try.underlying37
  have hu138 := Try.underlying138
  have HR0_1 := Aside0.mk hr0_1
  have HC0_1 := Aside0.mk hc0_1
  clear hr0_1 hc0_1
  have HB := Aside0.mk (Below.refl w.heap.size w)
  have H : (spec_l7Set.l0 k (([] : List (S138))) 0 a0_0 l0_1) = some r := h
  clear h
  obtain ⟨y793, hy793⟩ : ∃ y_ : List (S138), y_ = (([] : List (S138))) := ⟨_, rfl⟩
  replace H : (spec_l7Set.l0 k y793 0 a0_0 l0_1) = some r := by first | (rw [hy793]; with_reducible exact H) | (have H2_ := (Option.bind_some _ _).symm.trans H; rw [hy793]; with_reducible exact H2_) | (have H2_ := (Option.bind_some _ _).symm.trans H; with_reducible exact H2_) | with_reducible exact H | (rw [hy793]; exact H) | exact H
  have Ny793 := Aside0.mk hy793
  clear hy793
  have H' := Aside0.mk H
  clear H
  go_enter Try.func118, Try.ntmps118
  go_wp2_with (first | ((with_reducible refine gate_dst (N := 1) rfl ?_); refine box_event ?hg (N := 1) ?hd (cs := #[.int .i64 a0_0, .slice A0_1 l0_1.length c0_1]) (t := 37) ?hr ?_; (case hd => rfl); (case hg => rfl); (case hr => first | (go_simp; done) | (go_simp; rfl)); intro gb792 hg w2 hbox hb; have n0_ := Aside0.mk (below_step (by repeat (first | (with_reducible first | exact HB.out | apply below_alloc | apply pw_below_drewN | apply below_drew1) | exact HB.out)) hb); have n1_ := Aside0.mk (hbox); have n2_ := Aside0.mk ((by rw [hg]; exact (below_size (by repeat (first | (with_reducible first | exact HB.out | apply below_alloc | apply pw_below_drewN | apply below_drew1) | exact HB.out))) : w.heap.size ≤ gb792)); have n3_ := n2_; clear HB; have HB := n0_; have BK792 := n1_; have GW792 := n2_; have GE792 := n3_; clear n0_ n1_ n2_ n3_; clear hb hbox hg) | ((with_reducible refine gate_dst (N := 5) rfl ?_); refine Kd.R_lit k138 _ 138 ?hg (N := 5) ?hd (xs := ([] : List (S138))) (inner := []) (ok := fun _ => True) (okp := fun _ => True) ?hr ?hp (fun _ hk => hk) trivial (Below.refl _ _) (Nat.le_refl _) (by simp) ?_; (case hd => rfl); (case hg => rfl); (case hr => first | (go_simp; done) | (go_simp; rfl)); (case hp => exact (Reps.none _ _)); intro v794 w3 ho4 hb hg_ hnew_; clear hg_ hnew_; (first | rw [← Ny793.out] at ho4 | (simp only [Int.reduceToNat] at ho4; rw [← Ny793.out] at ho4)); have n0_ := Aside0.mk (Kd.R_lower ho4 (below_size (by repeat (first | (with_reducible first | exact HB.out | apply below_alloc | apply pw_below_drewN | apply below_drew1 | refine below_set ?_ GE792.out) | exact HB.out)))); have n1_ := Aside0.mk (blk_below (g := gb792) (by (with_reducible repeat (first | refine blk_drewN ?_ _ | refine blk_drew ?_ | refine blk_alloc ?_ _)); exact BK792.out) hb); have n2_ := Aside0.mk (below_step (by repeat (first | (with_reducible first | exact HB.out | apply below_alloc | apply pw_below_drewN | apply below_drew1 | refine below_set ?_ GE792.out) | exact HB.out)) hb); clear BK792; clear HB; have HO795 := n0_; have BK792 := n1_; have HB := n2_; clear n0_ n1_ n2_; clear hb ho4))
  go_loopg [3, 4] k (fun kq v3 v4 w' => ∃ (x3_1 : List (S138)) (x4_1 : Int), v4 = .int .i64 x4_1 ∧ Aside0 (spec_l7Set.l0 kq x3_1 x4_1 a0_0 l0_1 = some r) ∧ Aside0 (kq ≤ k) ∧ Aside0 (Kd.R k138 138 w' w.heap.size (fun _ => True) v3 x3_1) ∧ Aside0 (w'.heap[gb792]? = some (.cells #[.int .i64 a0_0, (.slice A0_1 l0_1.length c0_1)] 37 (0, 0))) ∧ Aside0 (Below w.heap.size w w'))
  case atStart => exact ⟨(y793), (0), (by first | rfl | (simp; done) | (simp [*]; done)), H', ⟨Nat.le_refl _⟩, ⟨by (with_reducible repeat (first | apply Kd.R_alloc | apply Kd.R_drewN | apply Kd.R_drew)); exact HO795.out⟩, ⟨by (with_reducible repeat (first | refine blk_drewN ?_ _ | refine blk_drew ?_ | refine blk_alloc ?_ _)); exact BK792.out⟩, ⟨by repeat (first | (with_reducible first | exact HB.out | apply below_alloc | apply pw_below_drewN | apply below_drew1 | refine below_set ?_ GE792.out) | exact HB.out)⟩⟩
  case round =>
    clear H'
    try clear c1
    try clear p2
    obtain ⟨x3_1, x4_1, rfl, HA, HK1, HO_3, BK792, HB⟩ := hrel
    cases gk with
    | zero => exact absurd HA.out (by simp [spec_l7Set.l0])
    | succ k1 =>
      have H := HA.out
      clear HA
      simp only [spec_l7Set.l0] at H
      by_cases c5 : x4_1 < (l0_1.length : Int)
      · rw [if_pos c5] at H
        have c5b0 : decide (x4_1 < (l0_1.length : Int)) = true := decide_eq_true c5
        clear c5
        by_cases c6 : 0 ≤ x4_1
        · rw [if_pos c6] at H
          have c6b0 : decide (0 ≤ x4_1) = true := decide_eq_true c6
          clear c6
          by_cases c7 : ((rd_T43 l0_1 x4_1).f3) ≥ 5
          · rw [if_pos c7] at H
            have c7b0 : decide (5 ≤ ((rd_T43 l0_1 x4_1).f3)) = true := decide_eq_true c7
            clear c7
            by_cases c8 : x3_1.length < 5864062014805
            · rw [if_pos c8] at H
              have LMc8 := Aside0.mk c8
              clear c8
              obtain ⟨y799, hy799⟩ : ∃ y_ : List (S138), y_ = (x3_1 ++ [(⟨(rd_T43 l0_1 x4_1).f0, (rd_T43 l0_1 x4_1).f3⟩ : S138)]) := ⟨_, rfl⟩
              replace H : (spec_l7Set.l0 k1 y799 (wrap64 (x4_1 + 1)) a0_0 l0_1) = some r := by first | (rw [hy799]; with_reducible exact H) | (have H2_ := (Option.bind_some _ _).symm.trans H; rw [hy799]; with_reducible exact H2_) | (have H2_ := (Option.bind_some _ _).symm.trans H; with_reducible exact H2_) | with_reducible exact H | (rw [hy799]; exact H) | exact H
              have Ny799 := Aside0.mk hy799
              clear hy799
              have H' := Aside0.mk H
              clear H
              obtain ⟨hcz9_0, hcz9_1⟩ := cells2 BK792.out
              obtain ⟨hfz9_0, hfz9_1⟩ := frozens2 BK792.out
              have p796 : 0 ≤ (x4_1 : Int) := of_decide_eq_true (by first | (with_reducible assumption) | assumption)
              have q796 : x4_1 < (l0_1.length : Int) := of_decide_eq_true (by first | (with_reducible assumption) | assumption)
              obtain ⟨ad796, A796_4, c796_4, e796, hx796_0, hx796_1, hx796_2, hx796_3, hx796_4, hl796_4, hi796_4⟩ := at_T43 HR0_1.out x4_1 p796 q796
              cases e796
              replace hx796_0 := (HB.out.cell (World.block_lt_of_cell? w _ hx796_0)).trans hx796_0
              replace hx796_1 := (HB.out.cell (World.block_lt_of_cell? w _ hx796_1)).trans hx796_1
              replace hx796_2 := (HB.out.cell (World.block_lt_of_cell? w _ hx796_2)).trans hx796_2
              replace hx796_3 := (HB.out.cell (World.block_lt_of_cell? w _ hx796_3)).trans hx796_3
              replace hx796_4 := (HB.out.cell (World.block_lt_of_cell? w _ hx796_4)).trans hx796_4
              have HR796_4 := Aside0.mk hi796_4
              have HC796_4 := Aside0.mk hl796_4
              clear hi796_4 hl796_4
              replace p796 := eq_true p796
              replace q796 := eq_true q796
              try go_wp2
              have n0_ := Aside0.mk (Kd.R_drew HO_3.out)
              have n1_ := Aside0.mk (blk_drew BK792.out)
              have n2_ := Aside0.mk (below_drew1 HB.out)
              clear HO_3
              clear BK792
              clear HB
              have HO_3 := n0_
              have BK792 := n1_
              have HB := n2_
              clear n0_ n1_ n2_
              have p797 : 0 ≤ (x4_1 : Int) := of_decide_eq_true (by first | (with_reducible assumption) | assumption)
              have q797 : x4_1 < (l0_1.length : Int) := of_decide_eq_true (by first | (with_reducible assumption) | assumption)
              obtain ⟨ad797, A797_4, c797_4, e797, hx797_0, hx797_1, hx797_2, hx797_3, hx797_4, hl797_4, hi797_4⟩ := at_T43 HR0_1.out x4_1 p797 q797
              have hw797_4 := hx797_4
              have hw797_3 := hx797_3
              have hw797_2 := hx797_2
              have hw797_1 := hx797_1
              have hw797_0 := hx797_0
              obtain rfl : ad796 = ad797 := (by injection e797)
              replace hx797_0 := (HB.out.cell (World.block_lt_of_cell? w _ hx797_0)).trans hx797_0
              replace hx797_1 := (HB.out.cell (World.block_lt_of_cell? w _ hx797_1)).trans hx797_1
              replace hx797_2 := (HB.out.cell (World.block_lt_of_cell? w _ hx797_2)).trans hx797_2
              replace hx797_3 := (HB.out.cell (World.block_lt_of_cell? w _ hx797_3)).trans hx797_3
              replace hx797_4 := (HB.out.cell (World.block_lt_of_cell? w _ hx797_4)).trans hx797_4
              have HR797_4 := Aside0.mk hi797_4
              have HC797_4 := Aside0.mk hl797_4
              clear hi797_4 hl797_4
              replace p797 := eq_true p797
              replace q797 := eq_true q797
              have p798 : 0 ≤ (x4_1 : Int) := of_decide_eq_true (by first | (with_reducible assumption) | assumption)
              have q798 : x4_1 < (l0_1.length : Int) := of_decide_eq_true (by first | (with_reducible assumption) | assumption)
              obtain ⟨ad798, A798_4, c798_4, e798, hx798_0, hx798_1, hx798_2, hx798_3, hx798_4, hl798_4, hi798_4⟩ := at_T43 HR0_1.out x4_1 p798 q798
              have hw798_4 := hx798_4
              have hw798_3 := hx798_3
              have hw798_2 := hx798_2
              have hw798_1 := hx798_1
              have hw798_0 := hx798_0
              obtain rfl : ad796 = ad798 := (by injection e798)
              replace hx798_0 := (HB.out.cell (World.block_lt_of_cell? w _ hx798_0)).trans hx798_0
              replace hx798_1 := (HB.out.cell (World.block_lt_of_cell? w _ hx798_1)).trans hx798_1
              replace hx798_2 := (HB.out.cell (World.block_lt_of_cell? w _ hx798_2)).trans hx798_2
              replace hx798_3 := (HB.out.cell (World.block_lt_of_cell? w _ hx798_3)).trans hx798_3
              replace hx798_4 := (HB.out.cell (World.block_lt_of_cell? w _ hx798_4)).trans hx798_4
              have HR798_4 := Aside0.mk hi798_4
              have HC798_4 := Aside0.mk hl798_4
              clear hi798_4 hl798_4
              replace p798 := eq_true p798
              replace q798 := eq_true q798
              have ea_ := Option.some.inj (hx797_4.symm.trans hx798_4)
              injection ea_ with ea_ en_ ec_
              subst ea_
              subst ec_
              clear en_
              refine start_ (n := 17) (S := fun w' => w'.cell? ⟨gb792, 0, none⟩ = some (.int .i64 a0_0) ∧ w'.cell? ⟨gb792, 1, none⟩ = some (.slice (some ad796) l0_1.length c0_1) ∧ w'.cell? (ad796.add ((x4_1).toNat * 5)) = some (.string ((rd_T43 l0_1 x4_1).f0)) ∧ w'.cell? ⟨(ad796.add ((x4_1).toNat * 5)).block, (ad796.add ((x4_1).toNat * 5)).off + 1, none⟩ = some (.int .i64 ((rd_T43 l0_1 x4_1).f1)) ∧ w'.cell? ⟨(ad796.add ((x4_1).toNat * 5)).block, (ad796.add ((x4_1).toNat * 5)).off + 2, none⟩ = some (.int .i64 ((rd_T43 l0_1 x4_1).f2)) ∧ w'.cell? ⟨(ad796.add ((x4_1).toNat * 5)).block, (ad796.add ((x4_1).toNat * 5)).off + 3, none⟩ = some (.int .i64 ((rd_T43 l0_1 x4_1).f3)) ∧ w'.cell? ⟨(ad796.add ((x4_1).toNat * 5)).block, (ad796.add ((x4_1).toNat * 5)).off + 4, none⟩ = some (.slice A797_4 ((rd_T43 l0_1 x4_1).f4).length c797_4) ∧ w'.cell? (ad796.add ((x4_1).toNat * 5)) = some (.string ((rd_T43 l0_1 x4_1).f0)) ∧ w'.cell? ⟨(ad796.add ((x4_1).toNat * 5)).block, (ad796.add ((x4_1).toNat * 5)).off + 1, none⟩ = some (.int .i64 ((rd_T43 l0_1 x4_1).f1)) ∧ w'.cell? ⟨(ad796.add ((x4_1).toNat * 5)).block, (ad796.add ((x4_1).toNat * 5)).off + 2, none⟩ = some (.int .i64 ((rd_T43 l0_1 x4_1).f2)) ∧ w'.cell? ⟨(ad796.add ((x4_1).toNat * 5)).block, (ad796.add ((x4_1).toNat * 5)).off + 3, none⟩ = some (.int .i64 ((rd_T43 l0_1 x4_1).f3)) ∧ w'.cell? ⟨(ad796.add ((x4_1).toNat * 5)).block, (ad796.add ((x4_1).toNat * 5)).off + 4, none⟩ = some (.slice A797_4 ((rd_T43 l0_1 x4_1).f4).length c797_4)) (ds := []) #[false, false, false, false, false, false, false, false, false, false, false, false, false, false, false, false, false] (by kernel_rfl) rfl rfl ⟨(blk_cell BK792.out 0).trans rfl, (blk_cell BK792.out 1).trans rfl, ((HB.out.cell (World.block_lt_of_cell? w _ hw797_0)).trans hw797_0), ((HB.out.cell (World.block_lt_of_cell? w _ hw797_1)).trans hw797_1), ((HB.out.cell (World.block_lt_of_cell? w _ hw797_2)).trans hw797_2), ((HB.out.cell (World.block_lt_of_cell? w _ hw797_3)).trans hw797_3), ((HB.out.cell (World.block_lt_of_cell? w _ hw797_4)).trans hw797_4), ((HB.out.cell (World.block_lt_of_cell? w _ hw798_0)).trans hw798_0), ((HB.out.cell (World.block_lt_of_cell? w _ hw798_1)).trans hw798_1), ((HB.out.cell (World.block_lt_of_cell? w _ hw798_2)).trans hw798_2), ((HB.out.cell (World.block_lt_of_cell? w _ hw798_3)).trans hw798_3), ((HB.out.cell (World.block_lt_of_cell? w _ hw798_4)).trans hw798_4)⟩ (fun hHeld => ?_); refine with_tabW spec_l7Set.tab6 spec_l7Set.bits6 (fun HT_ HW_ => ?_)
              generalize wr.drew = w10 at HO_3 BK792 HB HR797_4 HR798_4 hx797_0 hx797_1 hx797_2 hx797_3 hx797_4 hx798_0 hx798_1 hx798_2 hx798_3 hx798_4 hHeld ⊢
              refine pure_ (i := 0) (N := some 20) (v := ?_) (a' := ?_) #[true, false, false, false, false, false, false, false, false, false, false, false, false, false, false, false, false] rfl rfl (any_of HT_.out (by kernel_rfl)) (fun _ _ _ h => h) (Or.inl ⟨by rfl, ?_⟩) ?_ ?_
              rotate_left
              · intro w'
                go_simp
                with_reducible rfl
              rotate_left
              · simp only [Act.put, List.setIfInBounds_toArray, List.set_cons_zero, List.set_cons_succ, i64_w, i32_w]
                rfl
              refine pure_ (i := 1) (N := some 21) (v := ?_) (a' := ?_) #[true, true, false, false, false, false, false, false, false, false, false, false, false, false, false, false, false] rfl rfl (any_of HT_.out (by kernel_rfl)) (fun _ _ _ h => h) (Or.inl ⟨by rfl, ?_⟩) ?_ ?_
              rotate_left
              · intro w'
                go_simp
                with_reducible rfl
              rotate_left
              · simp only [Act.put, List.setIfInBounds_toArray, List.set_cons_zero, List.set_cons_succ, i64_w, i32_w]
                rfl
              refine pure_ (i := 3) (N := some 23) (v := ?_) (a' := ?_) #[true, true, false, true, false, false, false, false, false, false, false, false, false, false, false, false, false] rfl rfl (any_of HT_.out (by kernel_rfl)) (fun _ _ _ h => h) (Or.inl ⟨by rfl, ?_⟩) ?_ ?_
              rotate_left
              · intro w'
                go_simp
                with_reducible rfl
              rotate_left
              · simp only [Act.put, List.setIfInBounds_toArray, List.set_cons_zero, List.set_cons_succ, i64_w, i32_w]
                rfl
              refine pure_ (i := 7) (N := some 27) (v := ?_) (a' := ?_) #[true, true, false, true, false, false, false, true, false, false, false, false, false, false, false, false, false] rfl rfl (any_of HT_.out (by kernel_rfl)) (fun _ _ _ h => h) (Or.inl ⟨by rfl, ?_⟩) ?_ ?_
              rotate_left
              · intro w'
                go_simp
                with_reducible rfl
              rotate_left
              · simp only [Act.put, List.setIfInBounds_toArray, List.set_cons_zero, List.set_cons_succ, i64_w, i32_w]
                rfl
              refine pure_ (i := 9) (N := some 29) (v := ?_) (a' := ?_) #[true, true, false, true, false, false, false, true, false, true, false, false, false, false, false, false, false] rfl rfl (any_of HT_.out (by kernel_rfl)) (fun _ _ _ h => h) (Or.inl ⟨by rfl, ?_⟩) ?_ ?_
              rotate_left
              · intro w'
                go_simp
                with_reducible rfl
              rotate_left
              · simp only [Act.put, List.setIfInBounds_toArray, List.set_cons_zero, List.set_cons_succ, i64_w, i32_w]
                rfl
              refine take_ (i := 2) (N := some 22) (v := ?_) (a' := ?_) #[true, true, true, true, false, false, false, true, false, true, false, false, false, false, false, false, false] rfl rfl (take_ofW HT_.out HW_.out (by kernel_rfl)) (fun _ _ _ h => h) (Or.inl ⟨by rfl, ?_⟩) hHeld ?_ ?_
              rotate_left
              · rintro w' ⟨s0, s1, s2, s3, s4, s5, s6, s7, s8, s9, s10, s11⟩
                go_simp
                with_reducible rfl
              rotate_left
              · simp only [Act.put, List.setIfInBounds_toArray, List.set_cons_zero, List.set_cons_succ, i64_w, i32_w]
                rfl
              refine pure_ (i := 4) (N := some 24) (v := ?_) (a' := ?_) #[true, true, true, true, true, false, false, true, false, true, false, false, false, false, false, false, false] rfl rfl (any_of HT_.out (by kernel_rfl)) (fun _ _ _ h => h) (Or.inl ⟨by rfl, ?_⟩) ?_ ?_
              rotate_left
              · intro w'
                go_simp
                with_reducible rfl
              rotate_left
              · simp only [Act.put, List.setIfInBounds_toArray, List.set_cons_zero, List.set_cons_succ, i64_w, i32_w]
                rfl
              refine pure_ (i := 5) (N := some 25) (v := ?_) (a' := ?_) #[true, true, true, true, true, true, false, true, false, true, false, false, false, false, false, false, false] rfl rfl (any_of HT_.out (by kernel_rfl)) (fun _ _ _ h => h) (Or.inl ⟨by rfl, ?_⟩) ?_ ?_
              rotate_left
              · intro w'
                go_simp
                with_reducible rfl
              rotate_left
              · simp only [Act.put, List.setIfInBounds_toArray, List.set_cons_zero, List.set_cons_succ, i64_w, i32_w]
                rfl
              refine take_ (i := 6) (N := some 26) (v := ?_) (a' := ?_) #[true, true, true, true, true, true, true, true, false, true, false, false, false, false, false, false, false] rfl rfl (take_ofW HT_.out HW_.out (by kernel_rfl)) (fun _ _ _ h => h) (Or.inl ⟨by rfl, ?_⟩) hHeld ?_ ?_
              rotate_left
              · rintro w' ⟨s0, s1, s2, s3, s4, s5, s6, s7, s8, s9, s10, s11⟩
                go_simp
                with_reducible rfl
              rotate_left
              · simp only [Act.put, List.setIfInBounds_toArray, List.set_cons_zero, List.set_cons_succ, i64_w, i32_w]
                rfl
              refine take_ (i := 8) (N := some 28) (v := ?_) (a' := ?_) #[true, true, true, true, true, true, true, true, true, true, false, false, false, false, false, false, false] rfl rfl (take_ofW HT_.out HW_.out (by kernel_rfl)) (fun _ _ _ h => h) (Or.inl ⟨by rfl, ?_⟩) hHeld ?_ ?_
              rotate_left
              · rintro w' ⟨s0, s1, s2, s3, s4, s5, s6, s7, s8, s9, s10, s11⟩
                go_simp
                with_reducible rfl
              rotate_left
              · simp only [Act.put, List.setIfInBounds_toArray, List.set_cons_zero, List.set_cons_succ, i64_w, i32_w]
                rfl
              refine pure_ (i := 10) (N := some 30) (v := ?_) (a' := ?_) #[true, true, true, true, true, true, true, true, true, true, true, false, false, false, false, false, false] rfl rfl (any_of HT_.out (by kernel_rfl)) (fun _ _ _ h => h) (Or.inl ⟨by rfl, ?_⟩) ?_ ?_
              rotate_left
              · intro w'
                go_simp
                with_reducible rfl
              rotate_left
              · simp only [Act.put, List.setIfInBounds_toArray, List.set_cons_zero, List.set_cons_succ, i64_w, i32_w]
                rfl
              refine pure_ (i := 11) (N := some 31) (v := ?_) (a' := ?_) #[true, true, true, true, true, true, true, true, true, true, true, true, false, false, false, false, false] rfl rfl (any_of HT_.out (by kernel_rfl)) (fun _ _ _ h => h) (Or.inl ⟨by rfl, ?_⟩) ?_ ?_
              rotate_left
              · intro w'
                go_simp
                with_reducible rfl
              rotate_left
              · simp only [Act.put, List.setIfInBounds_toArray, List.set_cons_zero, List.set_cons_succ, i64_w, i32_w]
                rfl
              refine take_ (i := 12) (N := some 32) (v := ?_) (a' := ?_) #[true, true, true, true, true, true, true, true, true, true, true, true, true, false, false, false, false] rfl rfl (take_ofW HT_.out HW_.out (by kernel_rfl)) (fun _ _ _ h => h) (Or.inl ⟨by rfl, ?_⟩) hHeld ?_ ?_
              rotate_left
              · rintro w' ⟨s0, s1, s2, s3, s4, s5, s6, s7, s8, s9, s10, s11⟩
                go_simp
                with_reducible rfl
              rotate_left
              · simp only [Act.put, List.setIfInBounds_toArray, List.set_cons_zero, List.set_cons_succ, i64_w, i32_w]
                rfl
              refine pure_ (i := 13) (N := some 33) (v := ?_) (a' := ?_) #[true, true, true, true, true, true, true, true, true, true, true, true, true, true, false, false, false] rfl rfl (any_of HT_.out (by kernel_rfl)) (fun _ _ _ h => h) (Or.inl ⟨by rfl, ?_⟩) ?_ ?_
              rotate_left
              · intro w'
                go_simp
                with_reducible rfl
              rotate_left
              · simp only [Act.put, List.setIfInBounds_toArray, List.set_cons_zero, List.set_cons_succ, i64_w, i32_w]
                rfl
              refine one_ (i := 14) (N := some 34) #[true, true, true, true, true, true, true, true, true, true, true, true, true, true, true, false, false] rfl rfl (one_of HT_.out (by kernel_rfl)) (by decide) (fun K hK => ?_)
              refine value_ (w1 := ?_) (v := ?_) (by rfl) rfl ?_ ?_
              rotate_left 2
              · go_simp
                constructor
                · rfl
                · rfl
              refine hK.out _ _ ⟨(blk_cell (blk_alloc BK792.out _) 0).trans rfl, (blk_cell (blk_alloc BK792.out _) 1).trans rfl, (World.cell?_alloc_lt _ _ _ (World.block_lt_of_cell? _ _ (((HB.out.cell (World.block_lt_of_cell? w _ hw797_0)).trans hw797_0)))).trans (((HB.out.cell (World.block_lt_of_cell? w _ hw797_0)).trans hw797_0)), (World.cell?_alloc_lt _ _ _ (World.block_lt_of_cell? _ _ (((HB.out.cell (World.block_lt_of_cell? w _ hw797_1)).trans hw797_1)))).trans (((HB.out.cell (World.block_lt_of_cell? w _ hw797_1)).trans hw797_1)), (World.cell?_alloc_lt _ _ _ (World.block_lt_of_cell? _ _ (((HB.out.cell (World.block_lt_of_cell? w _ hw797_2)).trans hw797_2)))).trans (((HB.out.cell (World.block_lt_of_cell? w _ hw797_2)).trans hw797_2)), (World.cell?_alloc_lt _ _ _ (World.block_lt_of_cell? _ _ (((HB.out.cell (World.block_lt_of_cell? w _ hw797_3)).trans hw797_3)))).trans (((HB.out.cell (World.block_lt_of_cell? w _ hw797_3)).trans hw797_3)), (World.cell?_alloc_lt _ _ _ (World.block_lt_of_cell? _ _ (((HB.out.cell (World.block_lt_of_cell? w _ hw797_4)).trans hw797_4)))).trans (((HB.out.cell (World.block_lt_of_cell? w _ hw797_4)).trans hw797_4)), (World.cell?_alloc_lt _ _ _ (World.block_lt_of_cell? _ _ (((HB.out.cell (World.block_lt_of_cell? w _ hw798_0)).trans hw798_0)))).trans (((HB.out.cell (World.block_lt_of_cell? w _ hw798_0)).trans hw798_0)), (World.cell?_alloc_lt _ _ _ (World.block_lt_of_cell? _ _ (((HB.out.cell (World.block_lt_of_cell? w _ hw798_1)).trans hw798_1)))).trans (((HB.out.cell (World.block_lt_of_cell? w _ hw798_1)).trans hw798_1)), (World.cell?_alloc_lt _ _ _ (World.block_lt_of_cell? _ _ (((HB.out.cell (World.block_lt_of_cell? w _ hw798_2)).trans hw798_2)))).trans (((HB.out.cell (World.block_lt_of_cell? w _ hw798_2)).trans hw798_2)), (World.cell?_alloc_lt _ _ _ (World.block_lt_of_cell? _ _ (((HB.out.cell (World.block_lt_of_cell? w _ hw798_3)).trans hw798_3)))).trans (((HB.out.cell (World.block_lt_of_cell? w _ hw798_3)).trans hw798_3)), (World.cell?_alloc_lt _ _ _ (World.block_lt_of_cell? _ _ (((HB.out.cell (World.block_lt_of_cell? w _ hw798_4)).trans hw798_4)))).trans (((HB.out.cell (World.block_lt_of_cell? w _ hw798_4)).trans hw798_4))⟩ (fun hHeld => ?_)
              clear hK K
              refine norm_ (a' := ?_) ?_ ?_
              rotate_left
              · show Act.put _ (some 34) _ = _
                simp only [Act.put, List.setIfInBounds_toArray, List.set_cons_zero, List.set_cons_succ, i64_w, i32_w]
                rfl
              refine one_ (i := 15) (N := some 35) #[true, true, true, true, true, true, true, true, true, true, true, true, true, true, true, true, false] rfl rfl (one_of HT_.out (by kernel_rfl)) (by decide) (fun K hK => ?_)
              refine Kd.R_append_step k138 (w0 := w) w.heap.size (by rfl) (.tmp 20) (.tmp 34) 24 138 (.agg #[(.string ⟨#[]⟩), (.int .i64 0)]) 24 rfl Try.underlying24 info138 rfl (by decide) (by omega) u3 x3_1 (⟨(rd_T43 l0_1 x4_1).f0, (rd_T43 l0_1 x4_1).f3⟩ : S138) [.string ((rd_T43 l0_1 x4_1).f0), .int .i64 ((rd_T43 l0_1 x4_1).f3)] (fun _ => True) (fun _ => False) rfl rfl ?aP (fun _ hk => hk.elim) ?aF ?aO ?aB ?aS ?aL ?_
              (case aP => exact k138_mkM _ _ _ (⟨(rd_T43 l0_1 x4_1).f0, (rd_T43 l0_1 x4_1).f3⟩ : S138))
              (case aB => exact (by repeat (first | (with_reducible first | exact HB.out | apply below_alloc | apply pw_below_drewN | apply below_drew1 | refine below_set ?_ GE792.out) | exact HB.out)))
              (case aF => exact (fun _ _ => trivial))
              (case aO => exact (by (with_reducible repeat (first | apply Kd.R_alloc | apply Kd.R_drewN | apply Kd.R_drew)); exact HO_3.out))
              (case aS => exact (below_size (by repeat (first | (with_reducible first | exact HB.out | apply below_alloc | apply pw_below_drewN | apply below_drew1 | refine below_set ?_ GE792.out) | exact HB.out))))
              (case aL => have := LMc8.out; omega)
              intro v800 w11 ho hb hg hat
              rw [← Ny799.out] at ho
              have n0_ := Aside0.mk (blk_grown (g := gb792) (o := .cells #[.int .i64 a0_0, .slice (some ad796) l0_1.length c0_1] 37 (0, 0)) (by (with_reducible repeat (first | refine blk_drewN ?_ _ | refine blk_drew ?_ | refine blk_alloc ?_ _)); exact BK792.out) hg (Kd.R_ne HO_3.out BK792.out (by decide)))
              have n1_ := Aside0.mk (hb)
              have n2_ := Aside0.mk (ho)
              clear BK792
              clear HB
              clear HO_3
              have BK792 := n0_
              have HB := n1_
              have HO801 := n2_
              clear n0_ n1_ n2_
              clear ho hb hg hat
              refine hK.out _ _ ⟨(blk_cell BK792.out 0).trans rfl, (blk_cell BK792.out 1).trans rfl, ((HB.out.cell (World.block_lt_of_cell? w _ hw797_0)).trans hw797_0), ((HB.out.cell (World.block_lt_of_cell? w _ hw797_1)).trans hw797_1), ((HB.out.cell (World.block_lt_of_cell? w _ hw797_2)).trans hw797_2), ((HB.out.cell (World.block_lt_of_cell? w _ hw797_3)).trans hw797_3), ((HB.out.cell (World.block_lt_of_cell? w _ hw797_4)).trans hw797_4), ((HB.out.cell (World.block_lt_of_cell? w _ hw798_0)).trans hw798_0), ((HB.out.cell (World.block_lt_of_cell? w _ hw798_1)).trans hw798_1), ((HB.out.cell (World.block_lt_of_cell? w _ hw798_2)).trans hw798_2), ((HB.out.cell (World.block_lt_of_cell? w _ hw798_3)).trans hw798_3), ((HB.out.cell (World.block_lt_of_cell? w _ hw798_4)).trans hw798_4)⟩ (fun hHeld => ?_)
              clear hK K
              refine norm_ (a' := ?_) ?_ ?_
              rotate_left
              · show Act.put _ (some 35) _ = _
                simp only [Act.put, List.setIfInBounds_toArray, List.set_cons_zero, List.set_cons_succ, i64_w, i32_w]
                rfl
              refine pure_ (i := 16) (N := some 3) (v := ?_) (a' := ?_) #[true, true, true, true, true, true, true, true, true, true, true, true, true, true, true, true, true] rfl rfl (any_of HT_.out (by kernel_rfl)) (fun _ _ _ h => h) (Or.inl ⟨by rfl, ?_⟩) ?_ ?_
              rotate_left
              · intro w'
                go_simp
                with_reducible rfl
              rotate_left
              · simp only [Act.put, List.setIfInBounds_toArray, List.set_cons_zero, List.set_cons_succ, i64_w, i32_w]
                rfl
              refine done_ (done_of HT_.out (by kernel_rfl)) ?_
              try go_wp2
              go_roundg k1
              case measure => have := HK1.out; omega
              case rel => exact ⟨(y799), (wrap64 (x4_1 + 1)), (by first | rfl | (simp; done) | (simp [*]; done)), H', ⟨by have := HK1.out; omega⟩, ⟨by (with_reducible repeat (first | apply Kd.R_alloc | apply Kd.R_drewN | apply Kd.R_drew)); exact HO801.out⟩, ⟨by (with_reducible repeat (first | refine blk_drewN ?_ _ | refine blk_drew ?_ | refine blk_alloc ?_ _)); exact BK792.out⟩, ⟨by repeat (first | (with_reducible first | exact HB.out | apply below_alloc | apply pw_below_drewN | apply below_drew1 | refine below_set ?_ GE792.out) | exact HB.out)⟩⟩
            · rw [if_neg c8] at H
              exact absurd H (by simp)
          · rw [if_neg c7] at H
            have c7b0 : decide (5 ≤ ((rd_T43 l0_1 x4_1).f3)) = false := decide_eq_false c7
            clear c7
            have H' := Aside0.mk H
            clear H
            obtain ⟨hcz12_0, hcz12_1⟩ := cells2 BK792.out
            obtain ⟨hfz12_0, hfz12_1⟩ := frozens2 BK792.out
            have p796 : 0 ≤ (x4_1 : Int) := of_decide_eq_true (by first | (with_reducible assumption) | assumption)
            have q796 : x4_1 < (l0_1.length : Int) := of_decide_eq_true (by first | (with_reducible assumption) | assumption)
            obtain ⟨ad796, A796_4, c796_4, e796, hx796_0, hx796_1, hx796_2, hx796_3, hx796_4, hl796_4, hi796_4⟩ := at_T43 HR0_1.out x4_1 p796 q796
            cases e796
            replace hx796_0 := (HB.out.cell (World.block_lt_of_cell? w _ hx796_0)).trans hx796_0
            replace hx796_1 := (HB.out.cell (World.block_lt_of_cell? w _ hx796_1)).trans hx796_1
            replace hx796_2 := (HB.out.cell (World.block_lt_of_cell? w _ hx796_2)).trans hx796_2
            replace hx796_3 := (HB.out.cell (World.block_lt_of_cell? w _ hx796_3)).trans hx796_3
            replace hx796_4 := (HB.out.cell (World.block_lt_of_cell? w _ hx796_4)).trans hx796_4
            have HR796_4 := Aside0.mk hi796_4
            have HC796_4 := Aside0.mk hl796_4
            clear hi796_4 hl796_4
            replace p796 := eq_true p796
            replace q796 := eq_true q796
            go_wp2
            go_roundg k1
            case measure => have := HK1.out; omega
            case rel => exact ⟨(x3_1), (wrap64 (x4_1 + 1)), (by first | rfl | (simp; done) | (simp [*]; done)), H', ⟨by have := HK1.out; omega⟩, ⟨by (with_reducible repeat (first | apply Kd.R_alloc | apply Kd.R_drewN | apply Kd.R_drew)); exact HO_3.out⟩, ⟨by (with_reducible repeat (first | refine blk_drewN ?_ _ | refine blk_drew ?_ | refine blk_alloc ?_ _)); exact BK792.out⟩, ⟨by repeat (first | (with_reducible first | exact HB.out | apply below_alloc | apply pw_below_drewN | apply below_drew1 | refine below_set ?_ GE792.out) | exact HB.out)⟩⟩
        · rw [if_neg c6] at H
          exact absurd H (by simp)
      · rw [if_neg c5] at H
        have c5b0 : decide (x4_1 < (l0_1.length : Int)) = false := decide_eq_false c5
        clear c5
        obtain rfl := Option.some.inj H
        obtain ⟨hcz13_0, hcz13_1⟩ := cells2 BK792.out
        obtain ⟨hfz13_0, hfz13_1⟩ := frozens2 BK792.out
        go_wp2
        go_ret
        exact ⟨_, by first | rfl | (simp [errW_none, errW_some] <;> rfl) | (simp [*, errW_none, errW_some] <;> rfl), by (with_reducible repeat (first | apply Kd.R_alloc | apply Kd.R_drewN | apply Kd.R_drew)); exact HO_3.out, by repeat (first | (with_reducible first | exact HB.out | apply below_alloc | apply pw_below_drewN | apply below_drew1 | refine below_set ?_ GE792.out) | exact HB.out)⟩

end Go.Proofs.Ytadkhkpchankjaa.F
