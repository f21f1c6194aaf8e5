/-
Functions of the program, what they come to, and that Go comes to just that: impl_CommitOf.
Conditions: those that each theorem names.
-/
import Derived.Test.YtnldeeefiidcaaaFAbs
import Derived.Test.YtnldeeefiidcaaaF5
set_option linter.unusedVariables false
set_option linter.unusedSimpArgs false
namespace Go.Proofs.Ytnldeeefiidcaaa.F
open Go.RowKit Go.Proofs.YtnldeeefiidcaaaW.PrintWords Go.Proofs.YtnldeeefiidcaaaW.PrintLast Go.Proofs.Ytnldeeefiidcaaa.Base Go.Proofs.Ytnldeeefiidcaaa.BW

/-! ### impl_CommitOf: function 18 -/
def impl_CommitOf.j0 : Nat → List (S59) → Int → Bool → Option (Int)
  | 0, _, _, _ => none
  | k + 1, x0, x5, x22 => if x22 = true then (some (-1)) else (if 0 ≤ x5 then (if x5 < (x0.length : Int) then ((impl_blockAt.f k x0 ((rd_T59 x0 x5).f4.f1)).bind fun t232 => (if t232 < 0 then (some (-1)) else (if 0 ≤ t232 then (if t232 < (x0.length : Int) then (if ((rd_T59 x0 t232).f2) = (wrap64 (((rd_T59 x0 x5).f2) - 1)) then (some ((rd_T59 x0 t232).f0)) else (some (-1))) else (none)) else (none)))) else (none)) else (none))
def impl_CommitOf.f (k : Nat) (l0 : List (S59)) (a1_0 : Int) (a1_1 : Int) (l1_2 : List ByteArray) : Option (Int) := (impl_blockAt.f k l0 a1_1).bind fun t229 => (if t229 < 0 then (impl_CommitOf.j0 k l0 t229 true) else (if 0 ≤ t229 then (if t229 < (l0.length : Int) then (impl_CommitOf.j0 k l0 t229 (((rd_T59 l0 t229).f2) != a1_0)) else (none)) else (none)))
theorem impl_CommitOf.mono_l : ∀ k, (∀ y0 y1 y2, LeO (impl_CommitOf.j0 k y0 y1 y2) (impl_CommitOf.j0 (k + 1) y0 y1 y2))
  | 0 => fun _ _ _ r h => by simp [impl_CommitOf.j0] at h
  | k + 1 => by
    have ih0 := impl_CommitOf.mono_l k
    · intro y0 y1 y2
      unfold impl_CommitOf.j0
      repeat' first
      | (with_reducible exact ih0 _ _ _)
      | (with_reducible exact impl_blockAt.mono _ _ _)
      | (with_reducible exact LeO.refl _)
      | (with_reducible exact LeO.none _)
      | (with_reducible refine LeO.ite ?_ ?_)
      | (with_reducible refine LeO.bind ?_ (fun _ => ?_))
      | exact ih0 _ _ _
      | exact impl_blockAt.mono _ _ _
      | exact LeO.none _
      | refine LeO.ite ?_ ?_
      | refine LeO.bind ?_ (fun _ => ?_)
theorem impl_CommitOf.mono : ∀ a0 a1 a2 a3 k, LeO (impl_CommitOf.f k a0 a1 a2 a3) (impl_CommitOf.f (k + 1) a0 a1 a2 a3) := by
  intro a0 a1 a2 a3 k
  have ih0 := impl_CommitOf.mono_l k
  unfold impl_CommitOf.f
  repeat' first
      | (with_reducible exact ih0 _ _ _)
      | (with_reducible exact impl_blockAt.mono _ _ _)
      | (with_reducible exact LeO.refl _)
      | (with_reducible exact LeO.none _)
      | (with_reducible refine LeO.ite ?_ ?_)
      | (with_reducible refine LeO.bind ?_ (fun _ => ?_))
      | exact ih0 _ _ _
      | exact impl_blockAt.mono _ _ _
      | exact LeO.none _
      | refine LeO.ite ?_ ?_
      | refine LeO.bind ?_ (fun _ => ?_)
set_option maxHeartbeats 8000000 in
set_option maxRecDepth 100000 in
theorem impl_CommitOf.calls (k : Nat) (A0 : Option Addr) (c0 : Nat) (l0 : List (S59)) (a1_0 : Int) (a1_1 : Int) (A1_2 : Option Addr) (c1_2 : Nat) (l1_2 : List ByteArray) (r : Int) (w : World) (hr0 : Kd.C k59 w A0 l0.length l0) (hc0 : l0.length ≤ c0) (hr1_2 : Kd.C Kd.string w A1_2 l1_2.length l1_2) (hc1_2 : l1_2.length ≤ c1_2) (h : impl_CommitOf.f k l0 a1_0 a1_1 l1_2 = some r) :
    Calls Try.prog 18 #[.slice A0 l0.length c0, .agg #[.int .i64 a1_0, .int .i64 a1_1, .slice A1_2 l1_2.length c1_2]] w fun e w' => e = .returned (.int .i64 r) ∧ Below w.heap.size w w' := by
  have hu31 := Try.underlying31
  have HR0 := Aside0.mk hr0
  have HC0 := Aside0.mk hc0
  clear hr0 hc0
  have HR1_2 := Aside0.mk hr1_2
  have HC1_2 := Aside0.mk hc1_2
  clear hr1_2 hc1_2
  have HB := Aside0.mk (Below.refl w.heap.size w)
  have H : ((impl_blockAt.f k l0 a1_1).bind fun t229 => (if t229 < 0 then (impl_CommitOf.j0 k l0 t229 true) else (if 0 ≤ t229 then (if t229 < (l0.length : Int) then (impl_CommitOf.j0 k l0 t229 (((rd_T59 l0 t229).f2) != a1_0)) else (none)) else (none)))) = some r := h
  clear h
  replace H := Option.bind_eq_some_iff.mp H
  obtain ⟨t229, A30, H⟩ := H
  replace H : (if t229 < 0 then (impl_CommitOf.j0 k l0 t229 true) else (if 0 ≤ t229 then (if t229 < (l0.length : Int) then (impl_CommitOf.j0 k l0 t229 (((rd_T59 l0 t229).f2) != a1_0)) else (none)) else (none))) = some r := H
  have A3 := Aside0.mk A30
  clear A30
  have HC4 := Aside0.mk H
  clear H
  go_enter Try.func18, Try.ntmps18
  go_upto_region 2 with (first | ((with_reducible refine gate_dst (N := 3) rfl ?_); refine box_event ?hg (N := 3) ?hd (cs := #[.int .i64 a1_0, .int .i64 a1_1, .slice A1_2 l1_2.length c1_2]) (t := 31) ?hr ?_; (case hd => rfl); (case hg => rfl); (case hr => first | (go_simp; done) | (go_simp; rfl)); intro gb228 hg w5 hbox hb; have n0_ := Aside0.mk (below_step (by repeat (first | (with_reducible first | exact HB.out | apply below_alloc | apply pw_below_drewN | apply below_drew1) | exact HB.out)) hb); have n1_ := Aside0.mk (hbox); have n2_ := Aside0.mk ((by rw [hg]; exact (below_size (by repeat (first | (with_reducible first | exact HB.out | apply below_alloc | apply pw_below_drewN | apply below_drew1) | exact HB.out))) : w.heap.size ≤ gb228)); have n3_ := n2_; clear HB; have HB := n0_; have BK228 := n1_; have GW228 := n2_; have GE228 := n3_; clear n0_ n1_ n2_ n3_; clear hb hbox hg; obtain ⟨hcz6_0, hcz6_1, hcz6_2⟩ := cells3 BK228.out; obtain ⟨hfz6_0, hfz6_1, hfz6_2⟩ := frozens3 BK228.out) | (go_at_call 56; (with_reducible refine (impl_blockAt.calls k _ _ l0 a1_1 t229 _ ?side1 ?side2 A3.out).mono ?_); (case side1 => repeat (first | exact (Kd.C_below HR0.out HB.out) | (with_reducible refine Kd.C_alloc ?_ _) | (with_reducible refine Kd.C_drewN ?_ _) | (with_reducible refine Kd.C_drew ?_))); (case side2 => exact HC0.out); rintro e w7 ⟨rfl, hb⟩; have n0_ := Aside0.mk (blk_below (g := gb228) (by (with_reducible repeat (first | refine blk_drewN ?_ _ | refine blk_drew ?_ | refine blk_alloc ?_ _)); exact BK228.out) hb); have n1_ := Aside0.mk (below_step (by repeat (first | (with_reducible first | exact HB.out | apply below_alloc | apply pw_below_drewN | apply below_drew1 | refine below_set ?_ GE228.out) | exact HB.out)) hb); clear BK228; clear HB; have BK228 := n0_; have HB := n1_; clear n0_ n1_; (try clear hb); (try clear hb2); (try clear hk); (try clear hi)))
  repeat (go_quiet (first | ((with_reducible refine gate_dst (N := 3) rfl ?_); refine box_event ?hg (N := 3) ?hd (cs := #[.int .i64 a1_0, .int .i64 a1_1, .slice A1_2 l1_2.length c1_2]) (t := 31) ?hr ?_; (case hd => rfl); (case hg => rfl); (case hr => first | (go_simp; done) | (go_simp; rfl)); intro gb228 hg w5 hbox hb; have n0_ := Aside0.mk (below_step (by repeat (first | (with_reducible first | exact HB.out | apply below_alloc | apply pw_below_drewN | apply below_drew1) | exact HB.out)) hb); have n1_ := Aside0.mk (hbox); have n2_ := Aside0.mk ((by rw [hg]; exact (below_size (by repeat (first | (with_reducible first | exact HB.out | apply below_alloc | apply pw_below_drewN | apply below_drew1) | exact HB.out))) : w.heap.size ≤ gb228)); have n3_ := n2_; clear HB; have HB := n0_; have BK228 := n1_; have GW228 := n2_; have GE228 := n3_; clear n0_ n1_ n2_ n3_; clear hb hbox hg; obtain ⟨hcz6_0, hcz6_1, hcz6_2⟩ := cells3 BK228.out; obtain ⟨hfz6_0, hfz6_1, hfz6_2⟩ := frozens3 BK228.out) | (go_at_call 56; (with_reducible refine (impl_blockAt.calls k _ _ l0 a1_1 t229 _ ?side1 ?side2 A3.out).mono ?_); (case side1 => repeat (first | exact (Kd.C_below HR0.out HB.out) | (with_reducible refine Kd.C_alloc ?_ _) | (with_reducible refine Kd.C_drewN ?_ _) | (with_reducible refine Kd.C_drew ?_))); (case side2 => exact HC0.out); rintro e w7 ⟨rfl, hb⟩; have n0_ := Aside0.mk (blk_below (g := gb228) (by (with_reducible repeat (first | refine blk_drewN ?_ _ | refine blk_drew ?_ | refine blk_alloc ?_ _)); exact BK228.out) hb); have n1_ := Aside0.mk (below_step (by repeat (first | (with_reducible first | exact HB.out | apply below_alloc | apply pw_below_drewN | apply below_drew1 | refine below_set ?_ GE228.out) | exact HB.out)) hb); clear BK228; clear HB; have BK228 := n0_; have HB := n1_; clear n0_ n1_; (try clear hb); (try clear hb2); (try clear hk); (try clear hi))); go_upto_region 2 with (first | ((with_reducible refine gate_dst (N := 3) rfl ?_); refine box_event ?hg (N := 3) ?hd (cs := #[.int .i64 a1_0, .int .i64 a1_1, .slice A1_2 l1_2.length c1_2]) (t := 31) ?hr ?_; (case hd => rfl); (case hg => rfl); (case hr => first | (go_simp; done) | (go_simp; rfl)); intro gb228 hg w5 hbox hb; have n0_ := Aside0.mk (below_step (by repeat (first | (with_reducible first | exact HB.out | apply below_alloc | apply pw_below_drewN | apply below_drew1) | exact HB.out)) hb); have n1_ := Aside0.mk (hbox); have n2_ := Aside0.mk ((by rw [hg]; exact (below_size (by repeat (first | (with_reducible first | exact HB.out | apply below_alloc | apply pw_below_drewN | apply below_drew1) | exact HB.out))) : w.heap.size ≤ gb228)); have n3_ := n2_; clear HB; have HB := n0_; have BK228 := n1_; have GW228 := n2_; have GE228 := n3_; clear n0_ n1_ n2_ n3_; clear hb hbox hg; obtain ⟨hcz6_0, hcz6_1, hcz6_2⟩ := cells3 BK228.out; obtain ⟨hfz6_0, hfz6_1, hfz6_2⟩ := frozens3 BK228.out) | (go_at_call 56; (with_reducible refine (impl_blockAt.calls k _ _ l0 a1_1 t229 _ ?side1 ?side2 A3.out).mono ?_); (case side1 => repeat (first | exact (Kd.C_below HR0.out HB.out) | (with_reducible refine Kd.C_alloc ?_ _) | (with_reducible refine Kd.C_drewN ?_ _) | (with_reducible refine Kd.C_drew ?_))); (case side2 => exact HC0.out); rintro e w7 ⟨rfl, hb⟩; have n0_ := Aside0.mk (blk_below (g := gb228) (by (with_reducible repeat (first | refine blk_drewN ?_ _ | refine blk_drew ?_ | refine blk_alloc ?_ _)); exact BK228.out) hb); have n1_ := Aside0.mk (below_step (by repeat (first | (with_reducible first | exact HB.out | apply below_alloc | apply pw_below_drewN | apply below_drew1 | refine below_set ?_ GE228.out) | exact HB.out)) hb); clear BK228; clear HB; have BK228 := n0_; have HB := n1_; clear n0_ n1_; (try clear hb); (try clear hb2); (try clear hk); (try clear hi))))
  (try simp only [Act.put, List.setIfInBounds_toArray, List.set_cons_zero, List.set_cons_succ])
  go_cut [22] (fun v22 wc => ∃ (kq : Nat) (x22_3 : Bool), v22 = .bool x22_3 ∧ Aside0 (impl_CommitOf.j0 kq l0 t229 x22_3 = some r) ∧ Aside0 (kq ≤ k) ∧ Aside0 (wc.heap[gb228]? = some (.cells #[.int .i64 a1_0, .int .i64 a1_1, (.slice A1_2 l1_2.length c1_2)] 31 (0, 0))) ∧ Aside0 (Below w.heap.size w wc))
  case first =>
    have H := HC4.out
    clear HC4
    by_cases c8 : t229 < 0
    · rw [if_pos c8] at H
      have c8b0 : decide (t229 < 0) = true := decide_eq_true c8
      clear c8
      (first | rw [c8b0] | (simp only [i64_w, i32_w]; rw [c8b0]) | skip)
      have H' := Aside0.mk H
      clear H
      go_wp2
      repeat (go_quiet (fail); try go_wp2)
      go_meet
      case rel => exact ⟨_, (true), (by first | rfl | (simp; done) | (simp [*]; done)), H', ⟨by first | omega | exact Nat.le_refl _⟩, ⟨by (with_reducible repeat (first | refine blk_drewN ?_ _ | refine blk_drew ?_ | refine blk_alloc ?_ _)); exact BK228.out⟩, ⟨by repeat (first | (with_reducible first | exact HB.out | apply below_alloc | apply pw_below_drewN | apply below_drew1 | refine below_set ?_ GE228.out) | exact HB.out)⟩⟩
    · rw [if_neg c8] at H
      have c8b0 : decide (t229 < 0) = false := decide_eq_false c8
      clear c8
      (first | rw [c8b0] | (simp only [i64_w, i32_w]; rw [c8b0]) | skip)
      by_cases c9 : 0 ≤ t229
      · rw [if_pos c9] at H
        have c9b0 : decide (0 ≤ t229) = true := decide_eq_true c9
        clear c9
        by_cases c10 : t229 < (l0.length : Int)
        · rw [if_pos c10] at H
          have c10b0 : decide (t229 < (l0.length : Int)) = true := decide_eq_true c10
          clear c10
          have H' := Aside0.mk H
          clear H
          have p230 : 0 ≤ (t229 : Int) := of_decide_eq_true (by first | (with_reducible assumption) | assumption)
          have q230 : t229 < (l0.length : Int) := of_decide_eq_true (by first | (with_reducible assumption) | assumption)
          obtain ⟨ad230, A230_6, c230_6, A230_8, c230_8, A230_9, c230_9, A230_10, c230_10, A230_12, c230_12, e230, hx230_0, hx230_1, hx230_2, hx230_3, hx230_4, hx230_5, hx230_6, hx230_7, hx230_8, hx230_9, hx230_10, hx230_11, hx230_12, hx230_13, hl230_6, hi230_6, hl230_8, hi230_8, hl230_9, hi230_9, hl230_10, hi230_10, hl230_12, hi230_12⟩ := at_T59 HR0.out t229 p230 q230
          cases e230
          replace hx230_0 := (HB.out.cell (World.block_lt_of_cell? w _ hx230_0)).trans hx230_0
          replace hx230_1 := (HB.out.cell (World.block_lt_of_cell? w _ hx230_1)).trans hx230_1
          replace hx230_2 := (HB.out.cell (World.block_lt_of_cell? w _ hx230_2)).trans hx230_2
          replace hx230_3 := (HB.out.cell (World.block_lt_of_cell? w _ hx230_3)).trans hx230_3
          replace hx230_4 := (HB.out.cell (World.block_lt_of_cell? w _ hx230_4)).trans hx230_4
          replace hx230_5 := (HB.out.cell (World.block_lt_of_cell? w _ hx230_5)).trans hx230_5
          replace hx230_6 := (HB.out.cell (World.block_lt_of_cell? w _ hx230_6)).trans hx230_6
          replace hx230_7 := (HB.out.cell (World.block_lt_of_cell? w _ hx230_7)).trans hx230_7
          replace hx230_8 := (HB.out.cell (World.block_lt_of_cell? w _ hx230_8)).trans hx230_8
          replace hx230_9 := (HB.out.cell (World.block_lt_of_cell? w _ hx230_9)).trans hx230_9
          replace hx230_10 := (HB.out.cell (World.block_lt_of_cell? w _ hx230_10)).trans hx230_10
          replace hx230_11 := (HB.out.cell (World.block_lt_of_cell? w _ hx230_11)).trans hx230_11
          replace hx230_12 := (HB.out.cell (World.block_lt_of_cell? w _ hx230_12)).trans hx230_12
          replace hx230_13 := (HB.out.cell (World.block_lt_of_cell? w _ hx230_13)).trans hx230_13
          have HR230_6 := Aside0.mk hi230_6
          have HC230_6 := Aside0.mk hl230_6
          clear hi230_6 hl230_6
          have HR230_8 := Aside0.mk hi230_8
          have HC230_8 := Aside0.mk hl230_8
          clear hi230_8 hl230_8
          have HR230_9 := Aside0.mk hi230_9
          have HC230_9 := Aside0.mk hl230_9
          clear hi230_9 hl230_9
          have HR230_10 := Aside0.mk hi230_10
          have HC230_10 := Aside0.mk hl230_10
          clear hi230_10 hl230_10
          have HR230_12 := Aside0.mk hi230_12
          have HC230_12 := Aside0.mk hl230_12
          clear hi230_12 hl230_12
          replace p230 := eq_true p230
          replace q230 := eq_true q230
          obtain ⟨hcz11_0, hcz11_1, hcz11_2⟩ := cells3 BK228.out
          obtain ⟨hfz11_0, hfz11_1, hfz11_2⟩ := frozens3 BK228.out
          go_wp2
          repeat (go_quiet (fail); try go_wp2)
          go_meet
          case rel => exact ⟨_, ((((rd_T59 l0 t229).f2) != a1_0)), (by first | rfl | (simp; done) | (simp [*]; done)), H', ⟨by first | omega | exact Nat.le_refl _⟩, ⟨by (with_reducible repeat (first | refine blk_drewN ?_ _ | refine blk_drew ?_ | refine blk_alloc ?_ _)); exact BK228.out⟩, ⟨by repeat (first | (with_reducible first | exact HB.out | apply below_alloc | apply pw_below_drewN | apply below_drew1 | refine below_set ?_ GE228.out) | exact HB.out)⟩⟩
        · rw [if_neg c10] at H
          exact absurd H (by simp)
      · rw [if_neg c9] at H
        exact absurd H (by simp)
  case rest =>
    clear HC4
    try clear c1
    try clear c2
    try clear p2
    try clear q2
    try clear hx2
    try clear c8
    try clear c8b0
    try clear c9
    try clear c9b0
    try clear c10
    try clear c10b0
    try clear hcz11_0
    try clear hcz11_1
    try clear hcz11_2
    try clear hcz6_0
    try clear hcz6_1
    try clear hcz6_2
    try clear hfz11_0
    try clear hfz11_1
    try clear hfz11_2
    try clear hfz6_0
    try clear hfz6_1
    try clear hfz6_2
    try clear hx230_0
    try clear hx230_1
    try clear hx230_10
    try clear hx230_11
    try clear hx230_12
    try clear hx230_13
    try clear hx230_2
    try clear hx230_3
    try clear hx230_4
    try clear hx230_5
    try clear hx230_6
    try clear hx230_7
    try clear hx230_8
    try clear hx230_9
    try clear p230
    try clear q230
    obtain ⟨kq, x22_3, rfl, HA, HJ3, BK228, HB⟩ := hcut
    cases kq with
    | zero => exact absurd HA.out (by simp [impl_CommitOf.j0])
    | succ kj3 =>
      have H := HA.out
      clear HA
      simp only [impl_CommitOf.j0] at H
      by_cases c12 : x22_3 = true
      · subst c12
        have H1 : (some (-1)) = some r := by rw [if_pos rfl] at H; exact H
        clear H
        have H := H1
        clear H1
        obtain rfl := Option.some.inj H
        go_wp2
        repeat (go_quiet (fail); try go_wp2)
        go_ret
        exact ⟨by first | rfl | (simp [errW_none, errW_some] <;> rfl) | (simp [*, errW_none, errW_some] <;> rfl), by repeat (first | (with_reducible first | exact HB.out | apply below_alloc | apply pw_below_drewN | apply below_drew1 | refine below_set ?_ GE228.out) | exact HB.out)⟩
      · replace c12 := Bool.eq_false_iff.mpr c12
        subst c12
        have H1 : (if 0 ≤ t229 then (if t229 < (l0.length : Int) then ((impl_blockAt.f kj3 l0 ((rd_T59 l0 t229).f4.f1)).bind fun t232 => (if t232 < 0 then (some (-1)) else (if 0 ≤ t232 then (if t232 < (l0.length : Int) then (if ((rd_T59 l0 t232).f2) = (wrap64 (((rd_T59 l0 t229).f2) - 1)) then (some ((rd_T59 l0 t232).f0)) else (some (-1))) else (none)) else (none)))) else (none)) else (none)) = some r := by rw [if_neg (show ¬ (false = true) by decide)] at H; exact H
        clear H
        have H := H1
        clear H1
        by_cases c13 : 0 ≤ t229
        · rw [if_pos c13] at H
          have c13b0 : decide (0 ≤ t229) = true := decide_eq_true c13
          clear c13
          by_cases c14 : t229 < (l0.length : Int)
          · rw [if_pos c14] at H
            have c14b0 : decide (t229 < (l0.length : Int)) = true := decide_eq_true c14
            clear c14
            replace H := Option.bind_eq_some_iff.mp H
            obtain ⟨t232, A150, H⟩ := H
            replace H : (if t232 < 0 then (some (-1)) else (if 0 ≤ t232 then (if t232 < (l0.length : Int) then (if ((rd_T59 l0 t232).f2) = (wrap64 (((rd_T59 l0 t229).f2) - 1)) then (some ((rd_T59 l0 t232).f0)) else (some (-1))) else (none)) else (none))) = some r := H
            have A15 := Aside0.mk A150
            clear A150
            by_cases c16 : t232 < 0
            · rw [if_pos c16] at H
              have c16b0 : decide (t232 < 0) = true := decide_eq_true c16
              clear c16
              obtain rfl := Option.some.inj H
              have p231 : 0 ≤ (t229 : Int) := of_decide_eq_true (by first | (with_reducible assumption) | assumption)
              have q231 : t229 < (l0.length : Int) := of_decide_eq_true (by first | (with_reducible assumption) | assumption)
              obtain ⟨ad231, A231_6, c231_6, A231_8, c231_8, A231_9, c231_9, A231_10, c231_10, A231_12, c231_12, e231, hx231_0, hx231_1, hx231_2, hx231_3, hx231_4, hx231_5, hx231_6, hx231_7, hx231_8, hx231_9, hx231_10, hx231_11, hx231_12, hx231_13, hl231_6, hi231_6, hl231_8, hi231_8, hl231_9, hi231_9, hl231_10, hi231_10, hl231_12, hi231_12⟩ := at_T59 HR0.out t229 p231 q231
              cases e231
              replace hx231_0 := (HB.out.cell (World.block_lt_of_cell? w _ hx231_0)).trans hx231_0
              replace hx231_1 := (HB.out.cell (World.block_lt_of_cell? w _ hx231_1)).trans hx231_1
              replace hx231_2 := (HB.out.cell (World.block_lt_of_cell? w _ hx231_2)).trans hx231_2
              replace hx231_3 := (HB.out.cell (World.block_lt_of_cell? w _ hx231_3)).trans hx231_3
              replace hx231_4 := (HB.out.cell (World.block_lt_of_cell? w _ hx231_4)).trans hx231_4
              replace hx231_5 := (HB.out.cell (World.block_lt_of_cell? w _ hx231_5)).trans hx231_5
              replace hx231_6 := (HB.out.cell (World.block_lt_of_cell? w _ hx231_6)).trans hx231_6
              replace hx231_7 := (HB.out.cell (World.block_lt_of_cell? w _ hx231_7)).trans hx231_7
              replace hx231_8 := (HB.out.cell (World.block_lt_of_cell? w _ hx231_8)).trans hx231_8
              replace hx231_9 := (HB.out.cell (World.block_lt_of_cell? w _ hx231_9)).trans hx231_9
              replace hx231_10 := (HB.out.cell (World.block_lt_of_cell? w _ hx231_10)).trans hx231_10
              replace hx231_11 := (HB.out.cell (World.block_lt_of_cell? w _ hx231_11)).trans hx231_11
              replace hx231_12 := (HB.out.cell (World.block_lt_of_cell? w _ hx231_12)).trans hx231_12
              replace hx231_13 := (HB.out.cell (World.block_lt_of_cell? w _ hx231_13)).trans hx231_13
              have HR231_6 := Aside0.mk hi231_6
              have HC231_6 := Aside0.mk hl231_6
              clear hi231_6 hl231_6
              have HR231_8 := Aside0.mk hi231_8
              have HC231_8 := Aside0.mk hl231_8
              clear hi231_8 hl231_8
              have HR231_9 := Aside0.mk hi231_9
              have HC231_9 := Aside0.mk hl231_9
              clear hi231_9 hl231_9
              have HR231_10 := Aside0.mk hi231_10
              have HC231_10 := Aside0.mk hl231_10
              clear hi231_10 hl231_10
              have HR231_12 := Aside0.mk hi231_12
              have HC231_12 := Aside0.mk hl231_12
              clear hi231_12 hl231_12
              replace p231 := eq_true p231
              replace q231 := eq_true q231
              go_wp2_with (first | (go_at_call 56; (with_reducible refine (impl_blockAt.calls kj3 _ _ l0 ((rd_T59 l0 t229).f4.f1) t232 _ ?side1 ?side2 A15.out).mono ?_); (case side1 => repeat (first | exact (Kd.C_below HR0.out HB.out) | (with_reducible refine Kd.C_alloc ?_ _) | (with_reducible refine Kd.C_drewN ?_ _) | (with_reducible refine Kd.C_drew ?_))); (case side2 => exact HC0.out); rintro e w17 ⟨rfl, hb⟩; have n0_ := Aside0.mk (blk_below (g := gb228) (by (with_reducible repeat (first | refine blk_drewN ?_ _ | refine blk_drew ?_ | refine blk_alloc ?_ _)); exact BK228.out) hb); have n1_ := Aside0.mk (below_step (by repeat (first | (with_reducible first | exact HB.out | apply below_alloc | apply pw_below_drewN | apply below_drew1 | refine below_set ?_ GE228.out) | exact HB.out)) hb); clear BK228; clear HB; have BK228 := n0_; have HB := n1_; clear n0_ n1_; (try clear hb); (try clear hb2); (try clear hk); (try clear hi)))
              repeat (go_quiet (first | (go_at_call 56; (with_reducible refine (impl_blockAt.calls kj3 _ _ l0 ((rd_T59 l0 t229).f4.f1) t232 _ ?side1 ?side2 A15.out).mono ?_); (case side1 => repeat (first | exact (Kd.C_below HR0.out HB.out) | (with_reducible refine Kd.C_alloc ?_ _) | (with_reducible refine Kd.C_drewN ?_ _) | (with_reducible refine Kd.C_drew ?_))); (case side2 => exact HC0.out); rintro e w17 ⟨rfl, hb⟩; have n0_ := Aside0.mk (blk_below (g := gb228) (by (with_reducible repeat (first | refine blk_drewN ?_ _ | refine blk_drew ?_ | refine blk_alloc ?_ _)); exact BK228.out) hb); have n1_ := Aside0.mk (below_step (by repeat (first | (with_reducible first | exact HB.out | apply below_alloc | apply pw_below_drewN | apply below_drew1 | refine below_set ?_ GE228.out) | exact HB.out)) hb); clear BK228; clear HB; have BK228 := n0_; have HB := n1_; clear n0_ n1_; (try clear hb); (try clear hb2); (try clear hk); (try clear hi))); try go_wp2_with (first | (go_at_call 56; (with_reducible refine (impl_blockAt.calls kj3 _ _ l0 ((rd_T59 l0 t229).f4.f1) t232 _ ?side1 ?side2 A15.out).mono ?_); (case side1 => repeat (first | exact (Kd.C_below HR0.out HB.out) | (with_reducible refine Kd.C_alloc ?_ _) | (with_reducible refine Kd.C_drewN ?_ _) | (with_reducible refine Kd.C_drew ?_))); (case side2 => exact HC0.out); rintro e w17 ⟨rfl, hb⟩; have n0_ := Aside0.mk (blk_below (g := gb228) (by (with_reducible repeat (first | refine blk_drewN ?_ _ | refine blk_drew ?_ | refine blk_alloc ?_ _)); exact BK228.out) hb); have n1_ := Aside0.mk (below_step (by repeat (first | (with_reducible first | exact HB.out | apply below_alloc | apply pw_below_drewN | apply below_drew1 | refine below_set ?_ GE228.out) | exact HB.out)) hb); clear BK228; clear HB; have BK228 := n0_; have HB := n1_; clear n0_ n1_; (try clear hb); (try clear hb2); (try clear hk); (try clear hi))))
              go_ret
              exact ⟨by first | rfl | (simp [errW_none, errW_some] <;> rfl) | (simp [*, errW_none, errW_some] <;> rfl), by repeat (first | (with_reducible first | exact HB.out | apply below_alloc | apply pw_below_drewN | apply below_drew1 | refine below_set ?_ GE228.out) | exact HB.out)⟩
            · rw [if_neg c16] at H
              have c16b0 : decide (t232 < 0) = false := decide_eq_false c16
              clear c16
              by_cases c18 : 0 ≤ t232
              · rw [if_pos c18] at H
                have c18b0 : decide (0 ≤ t232) = true := decide_eq_true c18
                clear c18
                by_cases c19 : t232 < (l0.length : Int)
                · rw [if_pos c19] at H
                  have c19b0 : decide (t232 < (l0.length : Int)) = true := decide_eq_true c19
                  clear c19
                  by_cases c20 : ((rd_T59 l0 t232).f2) = (wrap64 (((rd_T59 l0 t229).f2) - 1))
                  · rw [if_pos c20] at H
                    have c20b0 : (((rd_T59 l0 t232).f2) == (wrap64 (((rd_T59 l0 t229).f2) - 1))) = true := beq_iff_eq.mpr c20
                    have c20b1 : (((rd_T59 l0 t232).f2) != (wrap64 (((rd_T59 l0 t229).f2) - 1))) = false := bne_eq_false_iff_eq.mpr c20
                    clear c20
                    obtain rfl := Option.some.inj H
                    have p231 : 0 ≤ (t229 : Int) := of_decide_eq_true (by first | (with_reducible assumption) | assumption)
                    have q231 : t229 < (l0.length : Int) := of_decide_eq_true (by first | (with_reducible assumption) | assumption)
                    obtain ⟨ad231, A231_6, c231_6, A231_8, c231_8, A231_9, c231_9, A231_10, c231_10, A231_12, c231_12, e231, hx231_0, hx231_1, hx231_2, hx231_3, hx231_4, hx231_5, hx231_6, hx231_7, hx231_8, hx231_9, hx231_10, hx231_11, hx231_12, hx231_13, hl231_6, hi231_6, hl231_8, hi231_8, hl231_9, hi231_9, hl231_10, hi231_10, hl231_12, hi231_12⟩ := at_T59 HR0.out t229 p231 q231
                    cases e231
                    replace hx231_0 := (HB.out.cell (World.block_lt_of_cell? w _ hx231_0)).trans hx231_0
                    replace hx231_1 := (HB.out.cell (World.block_lt_of_cell? w _ hx231_1)).trans hx231_1
                    replace hx231_2 := (HB.out.cell (World.block_lt_of_cell? w _ hx231_2)).trans hx231_2
                    replace hx231_3 := (HB.out.cell (World.block_lt_of_cell? w _ hx231_3)).trans hx231_3
                    replace hx231_4 := (HB.out.cell (World.block_lt_of_cell? w _ hx231_4)).trans hx231_4
                    replace hx231_5 := (HB.out.cell (World.block_lt_of_cell? w _ hx231_5)).trans hx231_5
                    replace hx231_6 := (HB.out.cell (World.block_lt_of_cell? w _ hx231_6)).trans hx231_6
                    replace hx231_7 := (HB.out.cell (World.block_lt_of_cell? w _ hx231_7)).trans hx231_7
                    replace hx231_8 := (HB.out.cell (World.block_lt_of_cell? w _ hx231_8)).trans hx231_8
                    replace hx231_9 := (HB.out.cell (World.block_lt_of_cell? w _ hx231_9)).trans hx231_9
                    replace hx231_10 := (HB.out.cell (World.block_lt_of_cell? w _ hx231_10)).trans hx231_10
                    replace hx231_11 := (HB.out.cell (World.block_lt_of_cell? w _ hx231_11)).trans hx231_11
                    replace hx231_12 := (HB.out.cell (World.block_lt_of_cell? w _ hx231_12)).trans hx231_12
                    replace hx231_13 := (HB.out.cell (World.block_lt_of_cell? w _ hx231_13)).trans hx231_13
                    have HR231_6 := Aside0.mk hi231_6
                    have HC231_6 := Aside0.mk hl231_6
                    clear hi231_6 hl231_6
                    have HR231_8 := Aside0.mk hi231_8
                    have HC231_8 := Aside0.mk hl231_8
                    clear hi231_8 hl231_8
                    have HR231_9 := Aside0.mk hi231_9
                    have HC231_9 := Aside0.mk hl231_9
                    clear hi231_9 hl231_9
                    have HR231_10 := Aside0.mk hi231_10
                    have HC231_10 := Aside0.mk hl231_10
                    clear hi231_10 hl231_10
                    have HR231_12 := Aside0.mk hi231_12
                    have HC231_12 := Aside0.mk hl231_12
                    clear hi231_12 hl231_12
                    replace p231 := eq_true p231
                    replace q231 := eq_true q231
                    go_wp2_with (first | (go_at_call 56; (with_reducible refine (impl_blockAt.calls kj3 _ _ l0 ((rd_T59 l0 t229).f4.f1) t232 _ ?side1 ?side2 A15.out).mono ?_); (case side1 => repeat (first | exact (Kd.C_below HR0.out HB.out) | (with_reducible refine Kd.C_alloc ?_ _) | (with_reducible refine Kd.C_drewN ?_ _) | (with_reducible refine Kd.C_drew ?_))); (case side2 => exact HC0.out); rintro e w21 ⟨rfl, hb⟩; have n0_ := Aside0.mk (blk_below (g := gb228) (by (with_reducible repeat (first | refine blk_drewN ?_ _ | refine blk_drew ?_ | refine blk_alloc ?_ _)); exact BK228.out) hb); have n1_ := Aside0.mk (below_step (by repeat (first | (with_reducible first | exact HB.out | apply below_alloc | apply pw_below_drewN | apply below_drew1 | refine below_set ?_ GE228.out) | exact HB.out)) hb); clear BK228; clear HB; have BK228 := n0_; have HB := n1_; clear n0_ n1_; (try clear hb); (try clear hb2); (try clear hk); (try clear hi); have p233 : 0 ≤ (t232 : Int) := of_decide_eq_true (by first | (with_reducible assumption) | assumption); have q233 : t232 < (l0.length : Int) := of_decide_eq_true (by first | (with_reducible assumption) | assumption); obtain ⟨ad233, A233_6, c233_6, A233_8, c233_8, A233_9, c233_9, A233_10, c233_10, A233_12, c233_12, e233, hx233_0, hx233_1, hx233_2, hx233_3, hx233_4, hx233_5, hx233_6, hx233_7, hx233_8, hx233_9, hx233_10, hx233_11, hx233_12, hx233_13, hl233_6, hi233_6, hl233_8, hi233_8, hl233_9, hi233_9, hl233_10, hi233_10, hl233_12, hi233_12⟩ := at_T59 HR0.out t232 p233 q233; obtain rfl : ad231 = ad233 := (by injection e233); replace hx233_0 := (HB.out.cell (World.block_lt_of_cell? w _ hx233_0)).trans hx233_0; replace hx233_1 := (HB.out.cell (World.block_lt_of_cell? w _ hx233_1)).trans hx233_1; replace hx233_2 := (HB.out.cell (World.block_lt_of_cell? w _ hx233_2)).trans hx233_2; replace hx233_3 := (HB.out.cell (World.block_lt_of_cell? w _ hx233_3)).trans hx233_3; replace hx233_4 := (HB.out.cell (World.block_lt_of_cell? w _ hx233_4)).trans hx233_4; replace hx233_5 := (HB.out.cell (World.block_lt_of_cell? w _ hx233_5)).trans hx233_5; replace hx233_6 := (HB.out.cell (World.block_lt_of_cell? w _ hx233_6)).trans hx233_6; replace hx233_7 := (HB.out.cell (World.block_lt_of_cell? w _ hx233_7)).trans hx233_7; replace hx233_8 := (HB.out.cell (World.block_lt_of_cell? w _ hx233_8)).trans hx233_8; replace hx233_9 := (HB.out.cell (World.block_lt_of_cell? w _ hx233_9)).trans hx233_9; replace hx233_10 := (HB.out.cell (World.block_lt_of_cell? w _ hx233_10)).trans hx233_10; replace hx233_11 := (HB.out.cell (World.block_lt_of_cell? w _ hx233_11)).trans hx233_11; replace hx233_12 := (HB.out.cell (World.block_lt_of_cell? w _ hx233_12)).trans hx233_12; replace hx233_13 := (HB.out.cell (World.block_lt_of_cell? w _ hx233_13)).trans hx233_13; have HR233_6 := Aside0.mk hi233_6; have HC233_6 := Aside0.mk hl233_6; clear hi233_6 hl233_6; have HR233_8 := Aside0.mk hi233_8; have HC233_8 := Aside0.mk hl233_8; clear hi233_8 hl233_8; have HR233_9 := Aside0.mk hi233_9; have HC233_9 := Aside0.mk hl233_9; clear hi233_9 hl233_9; have HR233_10 := Aside0.mk hi233_10; have HC233_10 := Aside0.mk hl233_10; clear hi233_10 hl233_10; have HR233_12 := Aside0.mk hi233_12; have HC233_12 := Aside0.mk hl233_12; clear hi233_12 hl233_12; replace p233 := eq_true p233; replace q233 := eq_true q233; have p234 : 0 ≤ (t229 : Int) := of_decide_eq_true (by first | (with_reducible assumption) | assumption); have q234 : t229 < (l0.length : Int) := of_decide_eq_true (by first | (with_reducible assumption) | assumption); obtain ⟨ad234, A234_6, c234_6, A234_8, c234_8, A234_9, c234_9, A234_10, c234_10, A234_12, c234_12, e234, hx234_0, hx234_1, hx234_2, hx234_3, hx234_4, hx234_5, hx234_6, hx234_7, hx234_8, hx234_9, hx234_10, hx234_11, hx234_12, hx234_13, hl234_6, hi234_6, hl234_8, hi234_8, hl234_9, hi234_9, hl234_10, hi234_10, hl234_12, hi234_12⟩ := at_T59 HR0.out t229 p234 q234; obtain rfl : ad231 = ad234 := (by injection e234); replace hx234_0 := (HB.out.cell (World.block_lt_of_cell? w _ hx234_0)).trans hx234_0; replace hx234_1 := (HB.out.cell (World.block_lt_of_cell? w _ hx234_1)).trans hx234_1; replace hx234_2 := (HB.out.cell (World.block_lt_of_cell? w _ hx234_2)).trans hx234_2; replace hx234_3 := (HB.out.cell (World.block_lt_of_cell? w _ hx234_3)).trans hx234_3; replace hx234_4 := (HB.out.cell (World.block_lt_of_cell? w _ hx234_4)).trans hx234_4; replace hx234_5 := (HB.out.cell (World.block_lt_of_cell? w _ hx234_5)).trans hx234_5; replace hx234_6 := (HB.out.cell (World.block_lt_of_cell? w _ hx234_6)).trans hx234_6; replace hx234_7 := (HB.out.cell (World.block_lt_of_cell? w _ hx234_7)).trans hx234_7; replace hx234_8 := (HB.out.cell (World.block_lt_of_cell? w _ hx234_8)).trans hx234_8; replace hx234_9 := (HB.out.cell (World.block_lt_of_cell? w _ hx234_9)).trans hx234_9; replace hx234_10 := (HB.out.cell (World.block_lt_of_cell? w _ hx234_10)).trans hx234_10; replace hx234_11 := (HB.out.cell (World.block_lt_of_cell? w _ hx234_11)).trans hx234_11; replace hx234_12 := (HB.out.cell (World.block_lt_of_cell? w _ hx234_12)).trans hx234_12; replace hx234_13 := (HB.out.cell (World.block_lt_of_cell? w _ hx234_13)).trans hx234_13; have HR234_6 := Aside0.mk hi234_6; have HC234_6 := Aside0.mk hl234_6; clear hi234_6 hl234_6; have HR234_8 := Aside0.mk hi234_8; have HC234_8 := Aside0.mk hl234_8; clear hi234_8 hl234_8; have HR234_9 := Aside0.mk hi234_9; have HC234_9 := Aside0.mk hl234_9; clear hi234_9 hl234_9; have HR234_10 := Aside0.mk hi234_10; have HC234_10 := Aside0.mk hl234_10; clear hi234_10 hl234_10; have HR234_12 := Aside0.mk hi234_12; have HC234_12 := Aside0.mk hl234_12; clear hi234_12 hl234_12; replace p234 := eq_true p234; replace q234 := eq_true q234; have p235 : 0 ≤ (t232 : Int) := of_decide_eq_true (by first | (with_reducible assumption) | assumption); have q235 : t232 < (l0.length : Int) := of_decide_eq_true (by first | (with_reducible assumption) | assumption); obtain ⟨ad235, A235_6, c235_6, A235_8, c235_8, A235_9, c235_9, A235_10, c235_10, A235_12, c235_12, e235, hx235_0, hx235_1, hx235_2, hx235_3, hx235_4, hx235_5, hx235_6, hx235_7, hx235_8, hx235_9, hx235_10, hx235_11, hx235_12, hx235_13, hl235_6, hi235_6, hl235_8, hi235_8, hl235_9, hi235_9, hl235_10, hi235_10, hl235_12, hi235_12⟩ := at_T59 HR0.out t232 p235 q235; obtain rfl : ad231 = ad235 := (by injection e235); replace hx235_0 := (HB.out.cell (World.block_lt_of_cell? w _ hx235_0)).trans hx235_0; replace hx235_1 := (HB.out.cell (World.block_lt_of_cell? w _ hx235_1)).trans hx235_1; replace hx235_2 := (HB.out.cell (World.block_lt_of_cell? w _ hx235_2)).trans hx235_2; replace hx235_3 := (HB.out.cell (World.block_lt_of_cell? w _ hx235_3)).trans hx235_3; replace hx235_4 := (HB.out.cell (World.block_lt_of_cell? w _ hx235_4)).trans hx235_4; replace hx235_5 := (HB.out.cell (World.block_lt_of_cell? w _ hx235_5)).trans hx235_5; replace hx235_6 := (HB.out.cell (World.block_lt_of_cell? w _ hx235_6)).trans hx235_6; replace hx235_7 := (HB.out.cell (World.block_lt_of_cell? w _ hx235_7)).trans hx235_7; replace hx235_8 := (HB.out.cell (World.block_lt_of_cell? w _ hx235_8)).trans hx235_8; replace hx235_9 := (HB.out.cell (World.block_lt_of_cell? w _ hx235_9)).trans hx235_9; replace hx235_10 := (HB.out.cell (World.block_lt_of_cell? w _ hx235_10)).trans hx235_10; replace hx235_11 := (HB.out.cell (World.block_lt_of_cell? w _ hx235_11)).trans hx235_11; replace hx235_12 := (HB.out.cell (World.block_lt_of_cell? w _ hx235_12)).trans hx235_12; replace hx235_13 := (HB.out.cell (World.block_lt_of_cell? w _ hx235_13)).trans hx235_13; have HR235_6 := Aside0.mk hi235_6; have HC235_6 := Aside0.mk hl235_6; clear hi235_6 hl235_6; have HR235_8 := Aside0.mk hi235_8; have HC235_8 := Aside0.mk hl235_8; clear hi235_8 hl235_8; have HR235_9 := Aside0.mk hi235_9; have HC235_9 := Aside0.mk hl235_9; clear hi235_9 hl235_9; have HR235_10 := Aside0.mk hi235_10; have HC235_10 := Aside0.mk hl235_10; clear hi235_10 hl235_10; have HR235_12 := Aside0.mk hi235_12; have HC235_12 := Aside0.mk hl235_12; clear hi235_12 hl235_12; replace p235 := eq_true p235; replace q235 := eq_true q235; have ea_ := Option.some.inj (hx233_6.symm.trans hx235_6); injection ea_ with ea_ en_ ec_; subst ea_; subst ec_; clear en_; have ea_ := Option.some.inj (hx233_8.symm.trans hx235_8); injection ea_ with ea_ en_ ec_; subst ea_; subst ec_; clear en_; have ea_ := Option.some.inj (hx233_9.symm.trans hx235_9); injection ea_ with ea_ en_ ec_; subst ea_; subst ec_; clear en_; have ea_ := Option.some.inj (hx233_10.symm.trans hx235_10); injection ea_ with ea_ en_ ec_; subst ea_; subst ec_; clear en_; have ea_ := Option.some.inj (hx233_12.symm.trans hx235_12); injection ea_ with ea_ en_ ec_; subst ea_; subst ec_; clear en_))
                    repeat (go_quiet (first | (go_at_call 56; (with_reducible refine (impl_blockAt.calls kj3 _ _ l0 ((rd_T59 l0 t229).f4.f1) t232 _ ?side1 ?side2 A15.out).mono ?_); (case side1 => repeat (first | exact (Kd.C_below HR0.out HB.out) | (with_reducible refine Kd.C_alloc ?_ _) | (with_reducible refine Kd.C_drewN ?_ _) | (with_reducible refine Kd.C_drew ?_))); (case side2 => exact HC0.out); rintro e w21 ⟨rfl, hb⟩; have n0_ := Aside0.mk (blk_below (g := gb228) (by (with_reducible repeat (first | refine blk_drewN ?_ _ | refine blk_drew ?_ | refine blk_alloc ?_ _)); exact BK228.out) hb); have n1_ := Aside0.mk (below_step (by repeat (first | (with_reducible first | exact HB.out | apply below_alloc | apply pw_below_drewN | apply below_drew1 | refine below_set ?_ GE228.out) | exact HB.out)) hb); clear BK228; clear HB; have BK228 := n0_; have HB := n1_; clear n0_ n1_; (try clear hb); (try clear hb2); (try clear hk); (try clear hi); have p233 : 0 ≤ (t232 : Int) := of_decide_eq_true (by first | (with_reducible assumption) | assumption); have q233 : t232 < (l0.length : Int) := of_decide_eq_true (by first | (with_reducible assumption) | assumption); obtain ⟨ad233, A233_6, c233_6, A233_8, c233_8, A233_9, c233_9, A233_10, c233_10, A233_12, c233_12, e233, hx233_0, hx233_1, hx233_2, hx233_3, hx233_4, hx233_5, hx233_6, hx233_7, hx233_8, hx233_9, hx233_10, hx233_11, hx233_12, hx233_13, hl233_6, hi233_6, hl233_8, hi233_8, hl233_9, hi233_9, hl233_10, hi233_10, hl233_12, hi233_12⟩ := at_T59 HR0.out t232 p233 q233; obtain rfl : ad231 = ad233 := (by injection e233); replace hx233_0 := (HB.out.cell (World.block_lt_of_cell? w _ hx233_0)).trans hx233_0; replace hx233_1 := (HB.out.cell (World.block_lt_of_cell? w _ hx233_1)).trans hx233_1; replace hx233_2 := (HB.out.cell (World.block_lt_of_cell? w _ hx233_2)).trans hx233_2; replace hx233_3 := (HB.out.cell (World.block_lt_of_cell? w _ hx233_3)).trans hx233_3; replace hx233_4 := (HB.out.cell (World.block_lt_of_cell? w _ hx233_4)).trans hx233_4; replace hx233_5 := (HB.out.cell (World.block_lt_of_cell? w _ hx233_5)).trans hx233_5; replace hx233_6 := (HB.out.cell (World.block_lt_of_cell? w _ hx233_6)).trans hx233_6; replace hx233_7 := (HB.out.cell (World.block_lt_of_cell? w _ hx233_7)).trans hx233_7; replace hx233_8 := (HB.out.cell (World.block_lt_of_cell? w _ hx233_8)).trans hx233_8; replace hx233_9 := (HB.out.cell (World.block_lt_of_cell? w _ hx233_9)).trans hx233_9; replace hx233_10 := (HB.out.cell (World.block_lt_of_cell? w _ hx233_10)).trans hx233_10; replace hx233_11 := (HB.out.cell (World.block_lt_of_cell? w _ hx233_11)).trans hx233_11; replace hx233_12 := (HB.out.cell (World.block_lt_of_cell? w _ hx233_12)).trans hx233_12; replace hx233_13 := (HB.out.cell (World.block_lt_of_cell? w _ hx233_13)).trans hx233_13; have HR233_6 := Aside0.mk hi233_6; have HC233_6 := Aside0.mk hl233_6; clear hi233_6 hl233_6; have HR233_8 := Aside0.mk hi233_8; have HC233_8 := Aside0.mk hl233_8; clear hi233_8 hl233_8; have HR233_9 := Aside0.mk hi233_9; have HC233_9 := Aside0.mk hl233_9; clear hi233_9 hl233_9; have HR233_10 := Aside0.mk hi233_10; have HC233_10 := Aside0.mk hl233_10; clear hi233_10 hl233_10; have HR233_12 := Aside0.mk hi233_12; have HC233_12 := Aside0.mk hl233_12; clear hi233_12 hl233_12; replace p233 := eq_true p233; replace q233 := eq_true q233; have p234 : 0 ≤ (t229 : Int) := of_decide_eq_true (by first | (with_reducible assumption) | assumption); have q234 : t229 < (l0.length : Int) := of_decide_eq_true (by first | (with_reducible assumption) | assumption); obtain ⟨ad234, A234_6, c234_6, A234_8, c234_8, A234_9, c234_9, A234_10, c234_10, A234_12, c234_12, e234, hx234_0, hx234_1, hx234_2, hx234_3, hx234_4, hx234_5, hx234_6, hx234_7, hx234_8, hx234_9, hx234_10, hx234_11, hx234_12, hx234_13, hl234_6, hi234_6, hl234_8, hi234_8, hl234_9, hi234_9, hl234_10, hi234_10, hl234_12, hi234_12⟩ := at_T59 HR0.out t229 p234 q234; obtain rfl : ad231 = ad234 := (by injection e234); replace hx234_0 := (HB.out.cell (World.block_lt_of_cell? w _ hx234_0)).trans hx234_0; replace hx234_1 := (HB.out.cell (World.block_lt_of_cell? w _ hx234_1)).trans hx234_1; replace hx234_2 := (HB.out.cell (World.block_lt_of_cell? w _ hx234_2)).trans hx234_2; replace hx234_3 := (HB.out.cell (World.block_lt_of_cell? w _ hx234_3)).trans hx234_3; replace hx234_4 := (HB.out.cell (World.block_lt_of_cell? w _ hx234_4)).trans hx234_4; replace hx234_5 := (HB.out.cell (World.block_lt_of_cell? w _ hx234_5)).trans hx234_5; replace hx234_6 := (HB.out.cell (World.block_lt_of_cell? w _ hx234_6)).trans hx234_6; replace hx234_7 := (HB.out.cell (World.block_lt_of_cell? w _ hx234_7)).trans hx234_7; replace hx234_8 := (HB.out.cell (World.block_lt_of_cell? w _ hx234_8)).trans hx234_8; replace hx234_9 := (HB.out.cell (World.block_lt_of_cell? w _ hx234_9)).trans hx234_9; replace hx234_10 := (HB.out.cell (World.block_lt_of_cell? w _ hx234_10)).trans hx234_10; replace hx234_11 := (HB.out.cell (World.block_lt_of_cell? w _ hx234_11)).trans hx234_11; replace hx234_12 := (HB.out.cell (World.block_lt_of_cell? w _ hx234_12)).trans hx234_12; replace hx234_13 := (HB.out.cell (World.block_lt_of_cell? w _ hx234_13)).trans hx234_13; have HR234_6 := Aside0.mk hi234_6; have HC234_6 := Aside0.mk hl234_6; clear hi234_6 hl234_6; have HR234_8 := Aside0.mk hi234_8; have HC234_8 := Aside0.mk hl234_8; clear hi234_8 hl234_8; have HR234_9 := Aside0.mk hi234_9; have HC234_9 := Aside0.mk hl234_9; clear hi234_9 hl234_9; have HR234_10 := Aside0.mk hi234_10; have HC234_10 := Aside0.mk hl234_10; clear hi234_10 hl234_10; have HR234_12 := Aside0.mk hi234_12; have HC234_12 := Aside0.mk hl234_12; clear hi234_12 hl234_12; replace p234 := eq_true p234; replace q234 := eq_true q234; have p235 : 0 ≤ (t232 : Int) := of_decide_eq_true (by first | (with_reducible assumption) | assumption); have q235 : t232 < (l0.length : Int) := of_decide_eq_true (by first | (with_reducible assumption) | assumption); obtain ⟨ad235, A235_6, c235_6, A235_8, c235_8, A235_9, c235_9, A235_10, c235_10, A235_12, c235_12, e235, hx235_0, hx235_1, hx235_2, hx235_3, hx235_4, hx235_5, hx235_6, hx235_7, hx235_8, hx235_9, hx235_10, hx235_11, hx235_12, hx235_13, hl235_6, hi235_6, hl235_8, hi235_8, hl235_9, hi235_9, hl235_10, hi235_10, hl235_12, hi235_12⟩ := at_T59 HR0.out t232 p235 q235; obtain rfl : ad231 = ad235 := (by injection e235); replace hx235_0 := (HB.out.cell (World.block_lt_of_cell? w _ hx235_0)).trans hx235_0; replace hx235_1 := (HB.out.cell (World.block_lt_of_cell? w _ hx235_1)).trans hx235_1; replace hx235_2 := (HB.out.cell (World.block_lt_of_cell? w _ hx235_2)).trans hx235_2; replace hx235_3 := (HB.out.cell (World.block_lt_of_cell? w _ hx235_3)).trans hx235_3; replace hx235_4 := (HB.out.cell (World.block_lt_of_cell? w _ hx235_4)).trans hx235_4; replace hx235_5 := (HB.out.cell (World.block_lt_of_cell? w _ hx235_5)).trans hx235_5; replace hx235_6 := (HB.out.cell (World.block_lt_of_cell? w _ hx235_6)).trans hx235_6; replace hx235_7 := (HB.out.cell (World.block_lt_of_cell? w _ hx235_7)).trans hx235_7; replace hx235_8 := (HB.out.cell (World.block_lt_of_cell? w _ hx235_8)).trans hx235_8; replace hx235_9 := (HB.out.cell (World.block_lt_of_cell? w _ hx235_9)).trans hx235_9; replace hx235_10 := (HB.out.cell (World.block_lt_of_cell? w _ hx235_10)).trans hx235_10; replace hx235_11 := (HB.out.cell (World.block_lt_of_cell? w _ hx235_11)).trans hx235_11; replace hx235_12 := (HB.out.cell (World.block_lt_of_cell? w _ hx235_12)).trans hx235_12; replace hx235_13 := (HB.out.cell (World.block_lt_of_cell? w _ hx235_13)).trans hx235_13; have HR235_6 := Aside0.mk hi235_6; have HC235_6 := Aside0.mk hl235_6; clear hi235_6 hl235_6; have HR235_8 := Aside0.mk hi235_8; have HC235_8 := Aside0.mk hl235_8; clear hi235_8 hl235_8; have HR235_9 := Aside0.mk hi235_9; have HC235_9 := Aside0.mk hl235_9; clear hi235_9 hl235_9; have HR235_10 := Aside0.mk hi235_10; have HC235_10 := Aside0.mk hl235_10; clear hi235_10 hl235_10; have HR235_12 := Aside0.mk hi235_12; have HC235_12 := Aside0.mk hl235_12; clear hi235_12 hl235_12; replace p235 := eq_true p235; replace q235 := eq_true q235; have ea_ := Option.some.inj (hx233_6.symm.trans hx235_6); injection ea_ with ea_ en_ ec_; subst ea_; subst ec_; clear en_; have ea_ := Option.some.inj (hx233_8.symm.trans hx235_8); injection ea_ with ea_ en_ ec_; subst ea_; subst ec_; clear en_; have ea_ := Option.some.inj (hx233_9.symm.trans hx235_9); injection ea_ with ea_ en_ ec_; subst ea_; subst ec_; clear en_; have ea_ := Option.some.inj (hx233_10.symm.trans hx235_10); injection ea_ with ea_ en_ ec_; subst ea_; subst ec_; clear en_; have ea_ := Option.some.inj (hx233_12.symm.trans hx235_12); injection ea_ with ea_ en_ ec_; subst ea_; subst ec_; clear en_)); try go_wp2_with (first | (go_at_call 56; (with_reducible refine (impl_blockAt.calls kj3 _ _ l0 ((rd_T59 l0 t229).f4.f1) t232 _ ?side1 ?side2 A15.out).mono ?_); (case side1 => repeat (first | exact (Kd.C_below HR0.out HB.out) | (with_reducible refine Kd.C_alloc ?_ _) | (with_reducible refine Kd.C_drewN ?_ _) | (with_reducible refine Kd.C_drew ?_))); (case side2 => exact HC0.out); rintro e w21 ⟨rfl, hb⟩; have n0_ := Aside0.mk (blk_below (g := gb228) (by (with_reducible repeat (first | refine blk_drewN ?_ _ | refine blk_drew ?_ | refine blk_alloc ?_ _)); exact BK228.out) hb); have n1_ := Aside0.mk (below_step (by repeat (first | (with_reducible first | exact HB.out | apply below_alloc | apply pw_below_drewN | apply below_drew1 | refine below_set ?_ GE228.out) | exact HB.out)) hb); clear BK228; clear HB; have BK228 := n0_; have HB := n1_; clear n0_ n1_; (try clear hb); (try clear hb2); (try clear hk); (try clear hi); have p233 : 0 ≤ (t232 : Int) := of_decide_eq_true (by first | (with_reducible assumption) | assumption); have q233 : t232 < (l0.length : Int) := of_decide_eq_true (by first | (with_reducible assumption) | assumption); obtain ⟨ad233, A233_6, c233_6, A233_8, c233_8, A233_9, c233_9, A233_10, c233_10, A233_12, c233_12, e233, hx233_0, hx233_1, hx233_2, hx233_3, hx233_4, hx233_5, hx233_6, hx233_7, hx233_8, hx233_9, hx233_10, hx233_11, hx233_12, hx233_13, hl233_6, hi233_6, hl233_8, hi233_8, hl233_9, hi233_9, hl233_10, hi233_10, hl233_12, hi233_12⟩ := at_T59 HR0.out t232 p233 q233; obtain rfl : ad231 = ad233 := (by injection e233); replace hx233_0 := (HB.out.cell (World.block_lt_of_cell? w _ hx233_0)).trans hx233_0; replace hx233_1 := (HB.out.cell (World.block_lt_of_cell? w _ hx233_1)).trans hx233_1; replace hx233_2 := (HB.out.cell (World.block_lt_of_cell? w _ hx233_2)).trans hx233_2; replace hx233_3 := (HB.out.cell (World.block_lt_of_cell? w _ hx233_3)).trans hx233_3; replace hx233_4 := (HB.out.cell (World.block_lt_of_cell? w _ hx233_4)).trans hx233_4; replace hx233_5 := (HB.out.cell (World.block_lt_of_cell? w _ hx233_5)).trans hx233_5; replace hx233_6 := (HB.out.cell (World.block_lt_of_cell? w _ hx233_6)).trans hx233_6; replace hx233_7 := (HB.out.cell (World.block_lt_of_cell? w _ hx233_7)).trans hx233_7; replace hx233_8 := (HB.out.cell (World.block_lt_of_cell? w _ hx233_8)).trans hx233_8; replace hx233_9 := (HB.out.cell (World.block_lt_of_cell? w _ hx233_9)).trans hx233_9; replace hx233_10 := (HB.out.cell (World.block_lt_of_cell? w _ hx233_10)).trans hx233_10; replace hx233_11 := (HB.out.cell (World.block_lt_of_cell? w _ hx233_11)).trans hx233_11; replace hx233_12 := (HB.out.cell (World.block_lt_of_cell? w _ hx233_12)).trans hx233_12; replace hx233_13 := (HB.out.cell (World.block_lt_of_cell? w _ hx233_13)).trans hx233_13; have HR233_6 := Aside0.mk hi233_6; have HC233_6 := Aside0.mk hl233_6; clear hi233_6 hl233_6; have HR233_8 := Aside0.mk hi233_8; have HC233_8 := Aside0.mk hl233_8; clear hi233_8 hl233_8; have HR233_9 := Aside0.mk hi233_9; have HC233_9 := Aside0.mk hl233_9; clear hi233_9 hl233_9; have HR233_10 := Aside0.mk hi233_10; have HC233_10 := Aside0.mk hl233_10; clear hi233_10 hl233_10; have HR233_12 := Aside0.mk hi233_12; have HC233_12 := Aside0.mk hl233_12; clear hi233_12 hl233_12; replace p233 := eq_true p233; replace q233 := eq_true q233; have p234 : 0 ≤ (t229 : Int) := of_decide_eq_true (by first | (with_reducible assumption) | assumption); have q234 : t229 < (l0.length : Int) := of_decide_eq_true (by first | (with_reducible assumption) | assumption); obtain ⟨ad234, A234_6, c234_6, A234_8, c234_8, A234_9, c234_9, A234_10, c234_10, A234_12, c234_12, e234, hx234_0, hx234_1, hx234_2, hx234_3, hx234_4, hx234_5, hx234_6, hx234_7, hx234_8, hx234_9, hx234_10, hx234_11, hx234_12, hx234_13, hl234_6, hi234_6, hl234_8, hi234_8, hl234_9, hi234_9, hl234_10, hi234_10, hl234_12, hi234_12⟩ := at_T59 HR0.out t229 p234 q234; obtain rfl : ad231 = ad234 := (by injection e234); replace hx234_0 := (HB.out.cell (World.block_lt_of_cell? w _ hx234_0)).trans hx234_0; replace hx234_1 := (HB.out.cell (World.block_lt_of_cell? w _ hx234_1)).trans hx234_1; replace hx234_2 := (HB.out.cell (World.block_lt_of_cell? w _ hx234_2)).trans hx234_2; replace hx234_3 := (HB.out.cell (World.block_lt_of_cell? w _ hx234_3)).trans hx234_3; replace hx234_4 := (HB.out.cell (World.block_lt_of_cell? w _ hx234_4)).trans hx234_4; replace hx234_5 := (HB.out.cell (World.block_lt_of_cell? w _ hx234_5)).trans hx234_5; replace hx234_6 := (HB.out.cell (World.block_lt_of_cell? w _ hx234_6)).trans hx234_6; replace hx234_7 := (HB.out.cell (World.block_lt_of_cell? w _ hx234_7)).trans hx234_7; replace hx234_8 := (HB.out.cell (World.block_lt_of_cell? w _ hx234_8)).trans hx234_8; replace hx234_9 := (HB.out.cell (World.block_lt_of_cell? w _ hx234_9)).trans hx234_9; replace hx234_10 := (HB.out.cell (World.block_lt_of_cell? w _ hx234_10)).trans hx234_10; replace hx234_11 := (HB.out.cell (World.block_lt_of_cell? w _ hx234_11)).trans hx234_11; replace hx234_12 := (HB.out.cell (World.block_lt_of_cell? w _ hx234_12)).trans hx234_12; replace hx234_13 := (HB.out.cell (World.block_lt_of_cell? w _ hx234_13)).trans hx234_13; have HR234_6 := Aside0.mk hi234_6; have HC234_6 := Aside0.mk hl234_6; clear hi234_6 hl234_6; have HR234_8 := Aside0.mk hi234_8; have HC234_8 := Aside0.mk hl234_8; clear hi234_8 hl234_8; have HR234_9 := Aside0.mk hi234_9; have HC234_9 := Aside0.mk hl234_9; clear hi234_9 hl234_9; have HR234_10 := Aside0.mk hi234_10; have HC234_10 := Aside0.mk hl234_10; clear hi234_10 hl234_10; have HR234_12 := Aside0.mk hi234_12; have HC234_12 := Aside0.mk hl234_12; clear hi234_12 hl234_12; replace p234 := eq_true p234; replace q234 := eq_true q234; have p235 : 0 ≤ (t232 : Int) := of_decide_eq_true (by first | (with_reducible assumption) | assumption); have q235 : t232 < (l0.length : Int) := of_decide_eq_true (by first | (with_reducible assumption) | assumption); obtain ⟨ad235, A235_6, c235_6, A235_8, c235_8, A235_9, c235_9, A235_10, c235_10, A235_12, c235_12, e235, hx235_0, hx235_1, hx235_2, hx235_3, hx235_4, hx235_5, hx235_6, hx235_7, hx235_8, hx235_9, hx235_10, hx235_11, hx235_12, hx235_13, hl235_6, hi235_6, hl235_8, hi235_8, hl235_9, hi235_9, hl235_10, hi235_10, hl235_12, hi235_12⟩ := at_T59 HR0.out t232 p235 q235; obtain rfl : ad231 = ad235 := (by injection e235); replace hx235_0 := (HB.out.cell (World.block_lt_of_cell? w _ hx235_0)).trans hx235_0; replace hx235_1 := (HB.out.cell (World.block_lt_of_cell? w _ hx235_1)).trans hx235_1; replace hx235_2 := (HB.out.cell (World.block_lt_of_cell? w _ hx235_2)).trans hx235_2; replace hx235_3 := (HB.out.cell (World.block_lt_of_cell? w _ hx235_3)).trans hx235_3; replace hx235_4 := (HB.out.cell (World.block_lt_of_cell? w _ hx235_4)).trans hx235_4; replace hx235_5 := (HB.out.cell (World.block_lt_of_cell? w _ hx235_5)).trans hx235_5; replace hx235_6 := (HB.out.cell (World.block_lt_of_cell? w _ hx235_6)).trans hx235_6; replace hx235_7 := (HB.out.cell (World.block_lt_of_cell? w _ hx235_7)).trans hx235_7; replace hx235_8 := (HB.out.cell (World.block_lt_of_cell? w _ hx235_8)).trans hx235_8; replace hx235_9 := (HB.out.cell (World.block_lt_of_cell? w _ hx235_9)).trans hx235_9; replace hx235_10 := (HB.out.cell (World.block_lt_of_cell? w _ hx235_10)).trans hx235_10; replace hx235_11 := (HB.out.cell (World.block_lt_of_cell? w _ hx235_11)).trans hx235_11; replace hx235_12 := (HB.out.cell (World.block_lt_of_cell? w _ hx235_12)).trans hx235_12; replace hx235_13 := (HB.out.cell (World.block_lt_of_cell? w _ hx235_13)).trans hx235_13; have HR235_6 := Aside0.mk hi235_6; have HC235_6 := Aside0.mk hl235_6; clear hi235_6 hl235_6; have HR235_8 := Aside0.mk hi235_8; have HC235_8 := Aside0.mk hl235_8; clear hi235_8 hl235_8; have HR235_9 := Aside0.mk hi235_9; have HC235_9 := Aside0.mk hl235_9; clear hi235_9 hl235_9; have HR235_10 := Aside0.mk hi235_10; have HC235_10 := Aside0.mk hl235_10; clear hi235_10 hl235_10; have HR235_12 := Aside0.mk hi235_12; have HC235_12 := Aside0.mk hl235_12; clear hi235_12 hl235_12; replace p235 := eq_true p235; replace q235 := eq_true q235; have ea_ := Option.some.inj (hx233_6.symm.trans hx235_6); injection ea_ with ea_ en_ ec_; subst ea_; subst ec_; clear en_; have ea_ := Option.some.inj (hx233_8.symm.trans hx235_8); injection ea_ with ea_ en_ ec_; subst ea_; subst ec_; clear en_; have ea_ := Option.some.inj (hx233_9.symm.trans hx235_9); injection ea_ with ea_ en_ ec_; subst ea_; subst ec_; clear en_; have ea_ := Option.some.inj (hx233_10.symm.trans hx235_10); injection ea_ with ea_ en_ ec_; subst ea_; subst ec_; clear en_; have ea_ := Option.some.inj (hx233_12.symm.trans hx235_12); injection ea_ with ea_ en_ ec_; subst ea_; subst ec_; clear en_)))
                    go_ret
                    exact ⟨by first | rfl | (simp [errW_none, errW_some] <;> rfl) | (simp [*, errW_none, errW_some] <;> rfl), by repeat (first | (with_reducible first | exact HB.out | apply below_alloc | apply pw_below_drewN | apply below_drew1 | refine below_set ?_ GE228.out) | exact HB.out)⟩
                  · rw [if_neg c20] at H
                    have c20b0 : (((rd_T59 l0 t232).f2) == (wrap64 (((rd_T59 l0 t229).f2) - 1))) = false := beq_eq_false_iff_ne.mpr c20
                    have c20b1 : (((rd_T59 l0 t232).f2) != (wrap64 (((rd_T59 l0 t229).f2) - 1))) = true := bne_iff_ne.mpr c20
                    obtain rfl := Option.some.inj H
                    have p231 : 0 ≤ (t229 : Int) := of_decide_eq_true (by first | (with_reducible assumption) | assumption)
                    have q231 : t229 < (l0.length : Int) := of_decide_eq_true (by first | (with_reducible assumption) | assumption)
                    obtain ⟨ad231, A231_6, c231_6, A231_8, c231_8, A231_9, c231_9, A231_10, c231_10, A231_12, c231_12, e231, hx231_0, hx231_1, hx231_2, hx231_3, hx231_4, hx231_5, hx231_6, hx231_7, hx231_8, hx231_9, hx231_10, hx231_11, hx231_12, hx231_13, hl231_6, hi231_6, hl231_8, hi231_8, hl231_9, hi231_9, hl231_10, hi231_10, hl231_12, hi231_12⟩ := at_T59 HR0.out t229 p231 q231
                    cases e231
                    replace hx231_0 := (HB.out.cell (World.block_lt_of_cell? w _ hx231_0)).trans hx231_0
                    replace hx231_1 := (HB.out.cell (World.block_lt_of_cell? w _ hx231_1)).trans hx231_1
                    replace hx231_2 := (HB.out.cell (World.block_lt_of_cell? w _ hx231_2)).trans hx231_2
                    replace hx231_3 := (HB.out.cell (World.block_lt_of_cell? w _ hx231_3)).trans hx231_3
                    replace hx231_4 := (HB.out.cell (World.block_lt_of_cell? w _ hx231_4)).trans hx231_4
                    replace hx231_5 := (HB.out.cell (World.block_lt_of_cell? w _ hx231_5)).trans hx231_5
                    replace hx231_6 := (HB.out.cell (World.block_lt_of_cell? w _ hx231_6)).trans hx231_6
                    replace hx231_7 := (HB.out.cell (World.block_lt_of_cell? w _ hx231_7)).trans hx231_7
                    replace hx231_8 := (HB.out.cell (World.block_lt_of_cell? w _ hx231_8)).trans hx231_8
                    replace hx231_9 := (HB.out.cell (World.block_lt_of_cell? w _ hx231_9)).trans hx231_9
                    replace hx231_10 := (HB.out.cell (World.block_lt_of_cell? w _ hx231_10)).trans hx231_10
                    replace hx231_11 := (HB.out.cell (World.block_lt_of_cell? w _ hx231_11)).trans hx231_11
                    replace hx231_12 := (HB.out.cell (World.block_lt_of_cell? w _ hx231_12)).trans hx231_12
                    replace hx231_13 := (HB.out.cell (World.block_lt_of_cell? w _ hx231_13)).trans hx231_13
                    have HR231_6 := Aside0.mk hi231_6
                    have HC231_6 := Aside0.mk hl231_6
                    clear hi231_6 hl231_6
                    have HR231_8 := Aside0.mk hi231_8
                    have HC231_8 := Aside0.mk hl231_8
                    clear hi231_8 hl231_8
                    have HR231_9 := Aside0.mk hi231_9
                    have HC231_9 := Aside0.mk hl231_9
                    clear hi231_9 hl231_9
                    have HR231_10 := Aside0.mk hi231_10
                    have HC231_10 := Aside0.mk hl231_10
                    clear hi231_10 hl231_10
                    have HR231_12 := Aside0.mk hi231_12
                    have HC231_12 := Aside0.mk hl231_12
                    clear hi231_12 hl231_12
                    replace p231 := eq_true p231
                    replace q231 := eq_true q231
                    go_wp2_with (first | (go_at_call 56; (with_reducible refine (impl_blockAt.calls kj3 _ _ l0 ((rd_T59 l0 t229).f4.f1) t232 _ ?side1 ?side2 A15.out).mono ?_); (case side1 => repeat (first | exact (Kd.C_below HR0.out HB.out) | (with_reducible refine Kd.C_alloc ?_ _) | (with_reducible refine Kd.C_drewN ?_ _) | (with_reducible refine Kd.C_drew ?_))); (case side2 => exact HC0.out); rintro e w22 ⟨rfl, hb⟩; have n0_ := Aside0.mk (blk_below (g := gb228) (by (with_reducible repeat (first | refine blk_drewN ?_ _ | refine blk_drew ?_ | refine blk_alloc ?_ _)); exact BK228.out) hb); have n1_ := Aside0.mk (below_step (by repeat (first | (with_reducible first | exact HB.out | apply below_alloc | apply pw_below_drewN | apply below_drew1 | refine below_set ?_ GE228.out) | exact HB.out)) hb); clear BK228; clear HB; have BK228 := n0_; have HB := n1_; clear n0_ n1_; (try clear hb); (try clear hb2); (try clear hk); (try clear hi); have p233 : 0 ≤ (t232 : Int) := of_decide_eq_true (by first | (with_reducible assumption) | assumption); have q233 : t232 < (l0.length : Int) := of_decide_eq_true (by first | (with_reducible assumption) | assumption); obtain ⟨ad233, A233_6, c233_6, A233_8, c233_8, A233_9, c233_9, A233_10, c233_10, A233_12, c233_12, e233, hx233_0, hx233_1, hx233_2, hx233_3, hx233_4, hx233_5, hx233_6, hx233_7, hx233_8, hx233_9, hx233_10, hx233_11, hx233_12, hx233_13, hl233_6, hi233_6, hl233_8, hi233_8, hl233_9, hi233_9, hl233_10, hi233_10, hl233_12, hi233_12⟩ := at_T59 HR0.out t232 p233 q233; obtain rfl : ad231 = ad233 := (by injection e233); replace hx233_0 := (HB.out.cell (World.block_lt_of_cell? w _ hx233_0)).trans hx233_0; replace hx233_1 := (HB.out.cell (World.block_lt_of_cell? w _ hx233_1)).trans hx233_1; replace hx233_2 := (HB.out.cell (World.block_lt_of_cell? w _ hx233_2)).trans hx233_2; replace hx233_3 := (HB.out.cell (World.block_lt_of_cell? w _ hx233_3)).trans hx233_3; replace hx233_4 := (HB.out.cell (World.block_lt_of_cell? w _ hx233_4)).trans hx233_4; replace hx233_5 := (HB.out.cell (World.block_lt_of_cell? w _ hx233_5)).trans hx233_5; replace hx233_6 := (HB.out.cell (World.block_lt_of_cell? w _ hx233_6)).trans hx233_6; replace hx233_7 := (HB.out.cell (World.block_lt_of_cell? w _ hx233_7)).trans hx233_7; replace hx233_8 := (HB.out.cell (World.block_lt_of_cell? w _ hx233_8)).trans hx233_8; replace hx233_9 := (HB.out.cell (World.block_lt_of_cell? w _ hx233_9)).trans hx233_9; replace hx233_10 := (HB.out.cell (World.block_lt_of_cell? w _ hx233_10)).trans hx233_10; replace hx233_11 := (HB.out.cell (World.block_lt_of_cell? w _ hx233_11)).trans hx233_11; replace hx233_12 := (HB.out.cell (World.block_lt_of_cell? w _ hx233_12)).trans hx233_12; replace hx233_13 := (HB.out.cell (World.block_lt_of_cell? w _ hx233_13)).trans hx233_13; have HR233_6 := Aside0.mk hi233_6; have HC233_6 := Aside0.mk hl233_6; clear hi233_6 hl233_6; have HR233_8 := Aside0.mk hi233_8; have HC233_8 := Aside0.mk hl233_8; clear hi233_8 hl233_8; have HR233_9 := Aside0.mk hi233_9; have HC233_9 := Aside0.mk hl233_9; clear hi233_9 hl233_9; have HR233_10 := Aside0.mk hi233_10; have HC233_10 := Aside0.mk hl233_10; clear hi233_10 hl233_10; have HR233_12 := Aside0.mk hi233_12; have HC233_12 := Aside0.mk hl233_12; clear hi233_12 hl233_12; replace p233 := eq_true p233; replace q233 := eq_true q233; have p234 : 0 ≤ (t229 : Int) := of_decide_eq_true (by first | (with_reducible assumption) | assumption); have q234 : t229 < (l0.length : Int) := of_decide_eq_true (by first | (with_reducible assumption) | assumption); obtain ⟨ad234, A234_6, c234_6, A234_8, c234_8, A234_9, c234_9, A234_10, c234_10, A234_12, c234_12, e234, hx234_0, hx234_1, hx234_2, hx234_3, hx234_4, hx234_5, hx234_6, hx234_7, hx234_8, hx234_9, hx234_10, hx234_11, hx234_12, hx234_13, hl234_6, hi234_6, hl234_8, hi234_8, hl234_9, hi234_9, hl234_10, hi234_10, hl234_12, hi234_12⟩ := at_T59 HR0.out t229 p234 q234; obtain rfl : ad231 = ad234 := (by injection e234); replace hx234_0 := (HB.out.cell (World.block_lt_of_cell? w _ hx234_0)).trans hx234_0; replace hx234_1 := (HB.out.cell (World.block_lt_of_cell? w _ hx234_1)).trans hx234_1; replace hx234_2 := (HB.out.cell (World.block_lt_of_cell? w _ hx234_2)).trans hx234_2; replace hx234_3 := (HB.out.cell (World.block_lt_of_cell? w _ hx234_3)).trans hx234_3; replace hx234_4 := (HB.out.cell (World.block_lt_of_cell? w _ hx234_4)).trans hx234_4; replace hx234_5 := (HB.out.cell (World.block_lt_of_cell? w _ hx234_5)).trans hx234_5; replace hx234_6 := (HB.out.cell (World.block_lt_of_cell? w _ hx234_6)).trans hx234_6; replace hx234_7 := (HB.out.cell (World.block_lt_of_cell? w _ hx234_7)).trans hx234_7; replace hx234_8 := (HB.out.cell (World.block_lt_of_cell? w _ hx234_8)).trans hx234_8; replace hx234_9 := (HB.out.cell (World.block_lt_of_cell? w _ hx234_9)).trans hx234_9; replace hx234_10 := (HB.out.cell (World.block_lt_of_cell? w _ hx234_10)).trans hx234_10; replace hx234_11 := (HB.out.cell (World.block_lt_of_cell? w _ hx234_11)).trans hx234_11; replace hx234_12 := (HB.out.cell (World.block_lt_of_cell? w _ hx234_12)).trans hx234_12; replace hx234_13 := (HB.out.cell (World.block_lt_of_cell? w _ hx234_13)).trans hx234_13; have HR234_6 := Aside0.mk hi234_6; have HC234_6 := Aside0.mk hl234_6; clear hi234_6 hl234_6; have HR234_8 := Aside0.mk hi234_8; have HC234_8 := Aside0.mk hl234_8; clear hi234_8 hl234_8; have HR234_9 := Aside0.mk hi234_9; have HC234_9 := Aside0.mk hl234_9; clear hi234_9 hl234_9; have HR234_10 := Aside0.mk hi234_10; have HC234_10 := Aside0.mk hl234_10; clear hi234_10 hl234_10; have HR234_12 := Aside0.mk hi234_12; have HC234_12 := Aside0.mk hl234_12; clear hi234_12 hl234_12; replace p234 := eq_true p234; replace q234 := eq_true q234))
                    repeat (go_quiet (first | (go_at_call 56; (with_reducible refine (impl_blockAt.calls kj3 _ _ l0 ((rd_T59 l0 t229).f4.f1) t232 _ ?side1 ?side2 A15.out).mono ?_); (case side1 => repeat (first | exact (Kd.C_below HR0.out HB.out) | (with_reducible refine Kd.C_alloc ?_ _) | (with_reducible refine Kd.C_drewN ?_ _) | (with_reducible refine Kd.C_drew ?_))); (case side2 => exact HC0.out); rintro e w22 ⟨rfl, hb⟩; have n0_ := Aside0.mk (blk_below (g := gb228) (by (with_reducible repeat (first | refine blk_drewN ?_ _ | refine blk_drew ?_ | refine blk_alloc ?_ _)); exact BK228.out) hb); have n1_ := Aside0.mk (below_step (by repeat (first | (with_reducible first | exact HB.out | apply below_alloc | apply pw_below_drewN | apply below_drew1 | refine below_set ?_ GE228.out) | exact HB.out)) hb); clear BK228; clear HB; have BK228 := n0_; have HB := n1_; clear n0_ n1_; (try clear hb); (try clear hb2); (try clear hk); (try clear hi); have p233 : 0 ≤ (t232 : Int) := of_decide_eq_true (by first | (with_reducible assumption) | assumption); have q233 : t232 < (l0.length : Int) := of_decide_eq_true (by first | (with_reducible assumption) | assumption); obtain ⟨ad233, A233_6, c233_6, A233_8, c233_8, A233_9, c233_9, A233_10, c233_10, A233_12, c233_12, e233, hx233_0, hx233_1, hx233_2, hx233_3, hx233_4, hx233_5, hx233_6, hx233_7, hx233_8, hx233_9, hx233_10, hx233_11, hx233_12, hx233_13, hl233_6, hi233_6, hl233_8, hi233_8, hl233_9, hi233_9, hl233_10, hi233_10, hl233_12, hi233_12⟩ := at_T59 HR0.out t232 p233 q233; obtain rfl : ad231 = ad233 := (by injection e233); replace hx233_0 := (HB.out.cell (World.block_lt_of_cell? w _ hx233_0)).trans hx233_0; replace hx233_1 := (HB.out.cell (World.block_lt_of_cell? w _ hx233_1)).trans hx233_1; replace hx233_2 := (HB.out.cell (World.block_lt_of_cell? w _ hx233_2)).trans hx233_2; replace hx233_3 := (HB.out.cell (World.block_lt_of_cell? w _ hx233_3)).trans hx233_3; replace hx233_4 := (HB.out.cell (World.block_lt_of_cell? w _ hx233_4)).trans hx233_4; replace hx233_5 := (HB.out.cell (World.block_lt_of_cell? w _ hx233_5)).trans hx233_5; replace hx233_6 := (HB.out.cell (World.block_lt_of_cell? w _ hx233_6)).trans hx233_6; replace hx233_7 := (HB.out.cell (World.block_lt_of_cell? w _ hx233_7)).trans hx233_7; replace hx233_8 := (HB.out.cell (World.block_lt_of_cell? w _ hx233_8)).trans hx233_8; replace hx233_9 := (HB.out.cell (World.block_lt_of_cell? w _ hx233_9)).trans hx233_9; replace hx233_10 := (HB.out.cell (World.block_lt_of_cell? w _ hx233_10)).trans hx233_10; replace hx233_11 := (HB.out.cell (World.block_lt_of_cell? w _ hx233_11)).trans hx233_11; replace hx233_12 := (HB.out.cell (World.block_lt_of_cell? w _ hx233_12)).trans hx233_12; replace hx233_13 := (HB.out.cell (World.block_lt_of_cell? w _ hx233_13)).trans hx233_13; have HR233_6 := Aside0.mk hi233_6; have HC233_6 := Aside0.mk hl233_6; clear hi233_6 hl233_6; have HR233_8 := Aside0.mk hi233_8; have HC233_8 := Aside0.mk hl233_8; clear hi233_8 hl233_8; have HR233_9 := Aside0.mk hi233_9; have HC233_9 := Aside0.mk hl233_9; clear hi233_9 hl233_9; have HR233_10 := Aside0.mk hi233_10; have HC233_10 := Aside0.mk hl233_10; clear hi233_10 hl233_10; have HR233_12 := Aside0.mk hi233_12; have HC233_12 := Aside0.mk hl233_12; clear hi233_12 hl233_12; replace p233 := eq_true p233; replace q233 := eq_true q233; have p234 : 0 ≤ (t229 : Int) := of_decide_eq_true (by first | (with_reducible assumption) | assumption); have q234 : t229 < (l0.length : Int) := of_decide_eq_true (by first | (with_reducible assumption) | assumption); obtain ⟨ad234, A234_6, c234_6, A234_8, c234_8, A234_9, c234_9, A234_10, c234_10, A234_12, c234_12, e234, hx234_0, hx234_1, hx234_2, hx234_3, hx234_4, hx234_5, hx234_6, hx234_7, hx234_8, hx234_9, hx234_10, hx234_11, hx234_12, hx234_13, hl234_6, hi234_6, hl234_8, hi234_8, hl234_9, hi234_9, hl234_10, hi234_10, hl234_12, hi234_12⟩ := at_T59 HR0.out t229 p234 q234; obtain rfl : ad231 = ad234 := (by injection e234); replace hx234_0 := (HB.out.cell (World.block_lt_of_cell? w _ hx234_0)).trans hx234_0; replace hx234_1 := (HB.out.cell (World.block_lt_of_cell? w _ hx234_1)).trans hx234_1; replace hx234_2 := (HB.out.cell (World.block_lt_of_cell? w _ hx234_2)).trans hx234_2; replace hx234_3 := (HB.out.cell (World.block_lt_of_cell? w _ hx234_3)).trans hx234_3; replace hx234_4 := (HB.out.cell (World.block_lt_of_cell? w _ hx234_4)).trans hx234_4; replace hx234_5 := (HB.out.cell (World.block_lt_of_cell? w _ hx234_5)).trans hx234_5; replace hx234_6 := (HB.out.cell (World.block_lt_of_cell? w _ hx234_6)).trans hx234_6; replace hx234_7 := (HB.out.cell (World.block_lt_of_cell? w _ hx234_7)).trans hx234_7; replace hx234_8 := (HB.out.cell (World.block_lt_of_cell? w _ hx234_8)).trans hx234_8; replace hx234_9 := (HB.out.cell (World.block_lt_of_cell? w _ hx234_9)).trans hx234_9; replace hx234_10 := (HB.out.cell (World.block_lt_of_cell? w _ hx234_10)).trans hx234_10; replace hx234_11 := (HB.out.cell (World.block_lt_of_cell? w _ hx234_11)).trans hx234_11; replace hx234_12 := (HB.out.cell (World.block_lt_of_cell? w _ hx234_12)).trans hx234_12; replace hx234_13 := (HB.out.cell (World.block_lt_of_cell? w _ hx234_13)).trans hx234_13; have HR234_6 := Aside0.mk hi234_6; have HC234_6 := Aside0.mk hl234_6; clear hi234_6 hl234_6; have HR234_8 := Aside0.mk hi234_8; have HC234_8 := Aside0.mk hl234_8; clear hi234_8 hl234_8; have HR234_9 := Aside0.mk hi234_9; have HC234_9 := Aside0.mk hl234_9; clear hi234_9 hl234_9; have HR234_10 := Aside0.mk hi234_10; have HC234_10 := Aside0.mk hl234_10; clear hi234_10 hl234_10; have HR234_12 := Aside0.mk hi234_12; have HC234_12 := Aside0.mk hl234_12; clear hi234_12 hl234_12; replace p234 := eq_true p234; replace q234 := eq_true q234)); try go_wp2_with (first | (go_at_call 56; (with_reducible refine (impl_blockAt.calls kj3 _ _ l0 ((rd_T59 l0 t229).f4.f1) t232 _ ?side1 ?side2 A15.out).mono ?_); (case side1 => repeat (first | exact (Kd.C_below HR0.out HB.out) | (with_reducible refine Kd.C_alloc ?_ _) | (with_reducible refine Kd.C_drewN ?_ _) | (with_reducible refine Kd.C_drew ?_))); (case side2 => exact HC0.out); rintro e w22 ⟨rfl, hb⟩; have n0_ := Aside0.mk (blk_below (g := gb228) (by (with_reducible repeat (first | refine blk_drewN ?_ _ | refine blk_drew ?_ | refine blk_alloc ?_ _)); exact BK228.out) hb); have n1_ := Aside0.mk (below_step (by repeat (first | (with_reducible first | exact HB.out | apply below_alloc | apply pw_below_drewN | apply below_drew1 | refine below_set ?_ GE228.out) | exact HB.out)) hb); clear BK228; clear HB; have BK228 := n0_; have HB := n1_; clear n0_ n1_; (try clear hb); (try clear hb2); (try clear hk); (try clear hi); have p233 : 0 ≤ (t232 : Int) := of_decide_eq_true (by first | (with_reducible assumption) | assumption); have q233 : t232 < (l0.length : Int) := of_decide_eq_true (by first | (with_reducible assumption) | assumption); obtain ⟨ad233, A233_6, c233_6, A233_8, c233_8, A233_9, c233_9, A233_10, c233_10, A233_12, c233_12, e233, hx233_0, hx233_1, hx233_2, hx233_3, hx233_4, hx233_5, hx233_6, hx233_7, hx233_8, hx233_9, hx233_10, hx233_11, hx233_12, hx233_13, hl233_6, hi233_6, hl233_8, hi233_8, hl233_9, hi233_9, hl233_10, hi233_10, hl233_12, hi233_12⟩ := at_T59 HR0.out t232 p233 q233; obtain rfl : ad231 = ad233 := (by injection e233); replace hx233_0 := (HB.out.cell (World.block_lt_of_cell? w _ hx233_0)).trans hx233_0; replace hx233_1 := (HB.out.cell (World.block_lt_of_cell? w _ hx233_1)).trans hx233_1; replace hx233_2 := (HB.out.cell (World.block_lt_of_cell? w _ hx233_2)).trans hx233_2; replace hx233_3 := (HB.out.cell (World.block_lt_of_cell? w _ hx233_3)).trans hx233_3; replace hx233_4 := (HB.out.cell (World.block_lt_of_cell? w _ hx233_4)).trans hx233_4; replace hx233_5 := (HB.out.cell (World.block_lt_of_cell? w _ hx233_5)).trans hx233_5; replace hx233_6 := (HB.out.cell (World.block_lt_of_cell? w _ hx233_6)).trans hx233_6; replace hx233_7 := (HB.out.cell (World.block_lt_of_cell? w _ hx233_7)).trans hx233_7; replace hx233_8 := (HB.out.cell (World.block_lt_of_cell? w _ hx233_8)).trans hx233_8; replace hx233_9 := (HB.out.cell (World.block_lt_of_cell? w _ hx233_9)).trans hx233_9; replace hx233_10 := (HB.out.cell (World.block_lt_of_cell? w _ hx233_10)).trans hx233_10; replace hx233_11 := (HB.out.cell (World.block_lt_of_cell? w _ hx233_11)).trans hx233_11; replace hx233_12 := (HB.out.cell (World.block_lt_of_cell? w _ hx233_12)).trans hx233_12; replace hx233_13 := (HB.out.cell (World.block_lt_of_cell? w _ hx233_13)).trans hx233_13; have HR233_6 := Aside0.mk hi233_6; have HC233_6 := Aside0.mk hl233_6; clear hi233_6 hl233_6; have HR233_8 := Aside0.mk hi233_8; have HC233_8 := Aside0.mk hl233_8; clear hi233_8 hl233_8; have HR233_9 := Aside0.mk hi233_9; have HC233_9 := Aside0.mk hl233_9; clear hi233_9 hl233_9; have HR233_10 := Aside0.mk hi233_10; have HC233_10 := Aside0.mk hl233_10; clear hi233_10 hl233_10; have HR233_12 := Aside0.mk hi233_12; have HC233_12 := Aside0.mk hl233_12; clear hi233_12 hl233_12; replace p233 := eq_true p233; replace q233 := eq_true q233; have p234 : 0 ≤ (t229 : Int) := of_decide_eq_true (by first | (with_reducible assumption) | assumption); have q234 : t229 < (l0.length : Int) := of_decide_eq_true (by first | (with_reducible assumption) | assumption); obtain ⟨ad234, A234_6, c234_6, A234_8, c234_8, A234_9, c234_9, A234_10, c234_10, A234_12, c234_12, e234, hx234_0, hx234_1, hx234_2, hx234_3, hx234_4, hx234_5, hx234_6, hx234_7, hx234_8, hx234_9, hx234_10, hx234_11, hx234_12, hx234_13, hl234_6, hi234_6, hl234_8, hi234_8, hl234_9, hi234_9, hl234_10, hi234_10, hl234_12, hi234_12⟩ := at_T59 HR0.out t229 p234 q234; obtain rfl : ad231 = ad234 := (by injection e234); replace hx234_0 := (HB.out.cell (World.block_lt_of_cell? w _ hx234_0)).trans hx234_0; replace hx234_1 := (HB.out.cell (World.block_lt_of_cell? w _ hx234_1)).trans hx234_1; replace hx234_2 := (HB.out.cell (World.block_lt_of_cell? w _ hx234_2)).trans hx234_2; replace hx234_3 := (HB.out.cell (World.block_lt_of_cell? w _ hx234_3)).trans hx234_3; replace hx234_4 := (HB.out.cell (World.block_lt_of_cell? w _ hx234_4)).trans hx234_4; replace hx234_5 := (HB.out.cell (World.block_lt_of_cell? w _ hx234_5)).trans hx234_5; replace hx234_6 := (HB.out.cell (World.block_lt_of_cell? w _ hx234_6)).trans hx234_6; replace hx234_7 := (HB.out.cell (World.block_lt_of_cell? w _ hx234_7)).trans hx234_7; replace hx234_8 := (HB.out.cell (World.block_lt_of_cell? w _ hx234_8)).trans hx234_8; replace hx234_9 := (HB.out.cell (World.block_lt_of_cell? w _ hx234_9)).trans hx234_9; replace hx234_10 := (HB.out.cell (World.block_lt_of_cell? w _ hx234_10)).trans hx234_10; replace hx234_11 := (HB.out.cell (World.block_lt_of_cell? w _ hx234_11)).trans hx234_11; replace hx234_12 := (HB.out.cell (World.block_lt_of_cell? w _ hx234_12)).trans hx234_12; replace hx234_13 := (HB.out.cell (World.block_lt_of_cell? w _ hx234_13)).trans hx234_13; have HR234_6 := Aside0.mk hi234_6; have HC234_6 := Aside0.mk hl234_6; clear hi234_6 hl234_6; have HR234_8 := Aside0.mk hi234_8; have HC234_8 := Aside0.mk hl234_8; clear hi234_8 hl234_8; have HR234_9 := Aside0.mk hi234_9; have HC234_9 := Aside0.mk hl234_9; clear hi234_9 hl234_9; have HR234_10 := Aside0.mk hi234_10; have HC234_10 := Aside0.mk hl234_10; clear hi234_10 hl234_10; have HR234_12 := Aside0.mk hi234_12; have HC234_12 := Aside0.mk hl234_12; clear hi234_12 hl234_12; replace p234 := eq_true p234; replace q234 := eq_true q234)))
                    go_ret
                    exact ⟨by first | rfl | (simp [errW_none, errW_some] <;> rfl) | (simp [*, errW_none, errW_some] <;> rfl), by repeat (first | (with_reducible first | exact HB.out | apply below_alloc | apply pw_below_drewN | apply below_drew1 | refine below_set ?_ GE228.out) | exact HB.out)⟩
                · rw [if_neg c19] at H
                  exact absurd H (by simp)
              · rw [if_neg c18] at H
                exact absurd H (by simp)
          · rw [if_neg c14] at H
            exact absurd H (by simp)
        · rw [if_neg c13] at H
          exact absurd H (by simp)

theorem impl_CommitOf.is {l : List S59} {r b : Int} {who : List ByteArray} (hl : l.length ≤ maxLen) : Ev (fun k => impl_CommitOf.f k l r b who) (commitOf l r b) := by
  have h0 := idAt_lo l b
  have h1 := idAt_hi l b
  have h2 := idAt_lo l (aheadOf l (idAt l b))
  have h3 := idAt_hi l (aheadOf l (idAt l b))
  unfold impl_CommitOf.f commitOf
  refine Ev.bind (impl_blockAt.is hl) (Ev.cond (fun hc => ?_) (fun hc => ?_))
  · rw [if_neg (by omega)]
    refine Ev.up ?_
    simp only [impl_CommitOf.j0]
    exact Ev.yes (by first | trivial | rfl) (Ev.now _)
  · refine Ev.yes (by omega) (Ev.yes (by omega) (Ev.up ?_))
    simp only [impl_CommitOf.j0, bne_iff_ne, ne_eq]
    refine Ev.cond (fun hd => ?_) (fun hd => ?_)
    · rw [if_neg (fun h => hd h.2)]
      exact Ev.now _
    · have hd := Classical.not_not.1 hd
      rw [if_pos ⟨by omega, hd⟩]
      refine Ev.yes (by omega) (Ev.yes (by omega) (Ev.bind (impl_blockAt.is hl) ?_))
      show Ev (fun _ => if idAt l (aheadOf l (idAt l b)) < 0 then some (-1) else (if 0 ≤ idAt l (aheadOf l (idAt l b)) then (if idAt l (aheadOf l (idAt l b)) < (l.length : Int) then (if (rd_T59 l (idAt l (aheadOf l (idAt l b)))).f2 = wrap64 ((rd_T59 l (idAt l b)).f2 - 1) then some (rd_T59 l (idAt l (aheadOf l (idAt l b)))).f0 else some (-1)) else none) else none)) _
      rw [hd]
      refine Ev.cond (fun he => Ev.is (by rw [if_neg (by omega)])) (fun he => Ev.yes (by omega) (Ev.yes (by omega) (Ev.cond (fun hf => Ev.is ?_) (fun hf => Ev.is ?_))))
      · rw [if_pos ⟨by omega, hf⟩]
        rfl
      · rw [if_neg (fun h => hf h.2)]

end Go.Proofs.Ytnldeeefiidcaaa.F
