/-
Functions of the program, what they come to, and that Go comes to just that: spec_CommitOf.
Conditions: those that each theorem names.
-/
import Derived.Test.YtnldeeefiidcaaaFAbs
import Derived.Test.YtnldeeefiidcaaaF2
set_option linter.unusedVariables false
set_option linter.unusedSimpArgs false
namespace Go.Proofs.Ytnldeeefiidcaaa.F
open Go.RowKit Go.Proofs.YtnldeeefiidcaaaW.PrintWords Go.Proofs.YtnldeeefiidcaaaW.PrintLast Go.Proofs.Ytnldeeefiidcaaa.Base Go.Proofs.Ytnldeeefiidcaaa.BW

/-! ### spec_CommitOf: function 15 -/
def spec_CommitOf.j0 : Nat → List (S59) → Int → Bool → Int → Int → List ByteArray → Option (Int)
  | 0, _, _, _, _, _, _ => none
  | k + 1, x0, x5, x22, x122000, x122001, x122002 => if x22 = true then (some (-1)) else (if 0 ≤ x5 then (if x5 < (x0.length : Int) then ((spec_l10At.f k x0 ((rd_T59 x0 x5).f4.f1)).bind fun t125 => (if t125 < 0 then (some (-1)) else (if 0 ≤ t125 then (if t125 < (x0.length : Int) then (if ((rd_T59 x0 t125).f2) = (wrap64 (x122000 - 1)) then (some ((rd_T59 x0 t125).f0)) else (some (-1))) else (none)) else (none)))) else (none)) else (none))
def spec_CommitOf.f (k : Nat) (l0 : List (S59)) (a1_0 : Int) (a1_1 : Int) (l1_2 : List ByteArray) : Option (Int) := (spec_l10At.f k l0 a1_1).bind fun t122 => (if t122 < 0 then (spec_CommitOf.j0 k l0 t122 true a1_0 a1_1 l1_2) else (if 0 ≤ t122 then (if t122 < (l0.length : Int) then (spec_CommitOf.j0 k l0 t122 (((rd_T59 l0 t122).f2) != a1_0) a1_0 a1_1 l1_2) else (none)) else (none)))
theorem spec_CommitOf.mono_l : ∀ k, (∀ y0 y1 y2 y3 y4 y5, LeO (spec_CommitOf.j0 k y0 y1 y2 y3 y4 y5) (spec_CommitOf.j0 (k + 1) y0 y1 y2 y3 y4 y5))
  | 0 => fun _ _ _ _ _ _ r h => by simp [spec_CommitOf.j0] at h
  | k + 1 => by
    have ih0 := spec_CommitOf.mono_l k
    · intro y0 y1 y2 y3 y4 y5
      unfold spec_CommitOf.j0
      repeat' first
      | (with_reducible exact ih0 _ _ _ _ _ _)
      | (with_reducible exact spec_l10At.mono _ _ _)
      | (with_reducible exact LeO.refl _)
      | (with_reducible exact LeO.none _)
      | (with_reducible refine LeO.ite ?_ ?_)
      | (with_reducible refine LeO.bind ?_ (fun _ => ?_))
      | exact ih0 _ _ _ _ _ _
      | exact spec_l10At.mono _ _ _
      | exact LeO.none _
      | refine LeO.ite ?_ ?_
      | refine LeO.bind ?_ (fun _ => ?_)
theorem spec_CommitOf.mono : ∀ a0 a1 a2 a3 k, LeO (spec_CommitOf.f k a0 a1 a2 a3) (spec_CommitOf.f (k + 1) a0 a1 a2 a3) := by
  intro a0 a1 a2 a3 k
  have ih0 := spec_CommitOf.mono_l k
  unfold spec_CommitOf.f
  repeat' first
      | (with_reducible exact ih0 _ _ _ _ _ _)
      | (with_reducible exact spec_l10At.mono _ _ _)
      | (with_reducible exact LeO.refl _)
      | (with_reducible exact LeO.none _)
      | (with_reducible refine LeO.ite ?_ ?_)
      | (with_reducible refine LeO.bind ?_ (fun _ => ?_))
      | exact ih0 _ _ _ _ _ _
      | exact spec_l10At.mono _ _ _
      | exact LeO.none _
      | refine LeO.ite ?_ ?_
      | refine LeO.bind ?_ (fun _ => ?_)
set_option maxHeartbeats 8000000 in
set_option maxRecDepth 100000 in
theorem spec_CommitOf.calls (k : Nat) (A0 : Option Addr) (c0 : Nat) (l0 : List (S59)) (a1_0 : Int) (a1_1 : Int) (A1_2 : Option Addr) (c1_2 : Nat) (l1_2 : List ByteArray) (r : Int) (w : World) (hr0 : Kd.C k59 w A0 l0.length l0) (hc0 : l0.length ≤ c0) (hr1_2 : Kd.C Kd.string w A1_2 l1_2.length l1_2) (hc1_2 : l1_2.length ≤ c1_2) (h : spec_CommitOf.f k l0 a1_0 a1_1 l1_2 = some r) :
    Calls Try.prog 15 #[.slice A0 l0.length c0, .agg #[.int .i64 a1_0, .int .i64 a1_1, .slice A1_2 l1_2.length c1_2]] w fun e w' => e = .returned (.int .i64 r) ∧ Below w.heap.size w w' := by
  have hu31 := Try.underlying31
  have HR0 := Aside0.mk hr0
  have HC0 := Aside0.mk hc0
  clear hr0 hc0
  have HR1_2 := Aside0.mk hr1_2
  have HC1_2 := Aside0.mk hc1_2
  clear hr1_2 hc1_2
  have HB := Aside0.mk (Below.refl w.heap.size w)
  have H : ((spec_l10At.f k l0 a1_1).bind fun t122 => (if t122 < 0 then (spec_CommitOf.j0 k l0 t122 true a1_0 a1_1 l1_2) else (if 0 ≤ t122 then (if t122 < (l0.length : Int) then (spec_CommitOf.j0 k l0 t122 (((rd_T59 l0 t122).f2) != a1_0) a1_0 a1_1 l1_2) else (none)) else (none)))) = some r := h
  clear h
  replace H := Option.bind_eq_some_iff.mp H
  obtain ⟨t122, A30, H⟩ := H
  replace H : (if t122 < 0 then (spec_CommitOf.j0 k l0 t122 true a1_0 a1_1 l1_2) else (if 0 ≤ t122 then (if t122 < (l0.length : Int) then (spec_CommitOf.j0 k l0 t122 (((rd_T59 l0 t122).f2) != a1_0) a1_0 a1_1 l1_2) else (none)) else (none))) = some r := H
  have A3 := Aside0.mk A30
  clear A30
  have HC4 := Aside0.mk H
  clear H
  go_enter Try.func15, Try.ntmps15
  go_upto_region 2 with (first | ((with_reducible refine gate_dst (N := 3) rfl ?_); refine box_event ?hg (N := 3) ?hd (cs := #[.int .i64 a1_0, .int .i64 a1_1, .slice A1_2 l1_2.length c1_2]) (t := 31) ?hr ?_; (case hd => rfl); (case hg => rfl); (case hr => first | (go_simp; done) | (go_simp; rfl)); intro gb121 hg w5 hbox hb; have n0_ := Aside0.mk (below_step (by repeat (first | (with_reducible first | exact HB.out | apply below_alloc | apply pw_below_drewN | apply below_drew1) | exact HB.out)) hb); have n1_ := Aside0.mk (hbox); have n2_ := Aside0.mk ((by rw [hg]; exact (below_size (by repeat (first | (with_reducible first | exact HB.out | apply below_alloc | apply pw_below_drewN | apply below_drew1) | exact HB.out))) : w.heap.size ≤ gb121)); have n3_ := n2_; clear HB; have HB := n0_; have BK121 := n1_; have GW121 := n2_; have GE121 := n3_; clear n0_ n1_ n2_ n3_; clear hb hbox hg; obtain ⟨hcz6_0, hcz6_1, hcz6_2⟩ := cells3 BK121.out; obtain ⟨hfz6_0, hfz6_1, hfz6_2⟩ := frozens3 BK121.out) | (go_at_call 54; (with_reducible refine (spec_l10At.calls k _ _ l0 a1_1 t122 _ ?side1 ?side2 A3.out).mono ?_); (case side1 => repeat (first | exact (Kd.C_below HR0.out HB.out) | (with_reducible refine Kd.C_alloc ?_ _) | (with_reducible refine Kd.C_drewN ?_ _) | (with_reducible refine Kd.C_drew ?_))); (case side2 => exact HC0.out); rintro e w' ⟨rfl, ⟨nd, rfl⟩⟩; (try first | exact ⟨rfl, _, World.drewN_drewN _ _ _⟩ | exact ⟨rfl, _, Eq.trans (World.drewN_drewN _ _ _) (congrArg (World.drewN _) (Nat.add_assoc _ _ _))⟩)))
  repeat (go_quiet (first | ((with_reducible refine gate_dst (N := 3) rfl ?_); refine box_event ?hg (N := 3) ?hd (cs := #[.int .i64 a1_0, .int .i64 a1_1, .slice A1_2 l1_2.length c1_2]) (t := 31) ?hr ?_; (case hd => rfl); (case hg => rfl); (case hr => first | (go_simp; done) | (go_simp; rfl)); intro gb121 hg w5 hbox hb; have n0_ := Aside0.mk (below_step (by repeat (first | (with_reducible first | exact HB.out | apply below_alloc | apply pw_below_drewN | apply below_drew1) | exact HB.out)) hb); have n1_ := Aside0.mk (hbox); have n2_ := Aside0.mk ((by rw [hg]; exact (below_size (by repeat (first | (with_reducible first | exact HB.out | apply below_alloc | apply pw_below_drewN | apply below_drew1) | exact HB.out))) : w.heap.size ≤ gb121)); have n3_ := n2_; clear HB; have HB := n0_; have BK121 := n1_; have GW121 := n2_; have GE121 := n3_; clear n0_ n1_ n2_ n3_; clear hb hbox hg; obtain ⟨hcz6_0, hcz6_1, hcz6_2⟩ := cells3 BK121.out; obtain ⟨hfz6_0, hfz6_1, hfz6_2⟩ := frozens3 BK121.out) | (go_at_call 54; (with_reducible refine (spec_l10At.calls k _ _ l0 a1_1 t122 _ ?side1 ?side2 A3.out).mono ?_); (case side1 => repeat (first | exact (Kd.C_below HR0.out HB.out) | (with_reducible refine Kd.C_alloc ?_ _) | (with_reducible refine Kd.C_drewN ?_ _) | (with_reducible refine Kd.C_drew ?_))); (case side2 => exact HC0.out); rintro e w' ⟨rfl, ⟨nd, rfl⟩⟩; (try first | exact ⟨rfl, _, World.drewN_drewN _ _ _⟩ | exact ⟨rfl, _, Eq.trans (World.drewN_drewN _ _ _) (congrArg (World.drewN _) (Nat.add_assoc _ _ _))⟩))); go_upto_region 2 with (first | ((with_reducible refine gate_dst (N := 3) rfl ?_); refine box_event ?hg (N := 3) ?hd (cs := #[.int .i64 a1_0, .int .i64 a1_1, .slice A1_2 l1_2.length c1_2]) (t := 31) ?hr ?_; (case hd => rfl); (case hg => rfl); (case hr => first | (go_simp; done) | (go_simp; rfl)); intro gb121 hg w5 hbox hb; have n0_ := Aside0.mk (below_step (by repeat (first | (with_reducible first | exact HB.out | apply below_alloc | apply pw_below_drewN | apply below_drew1) | exact HB.out)) hb); have n1_ := Aside0.mk (hbox); have n2_ := Aside0.mk ((by rw [hg]; exact (below_size (by repeat (first | (with_reducible first | exact HB.out | apply below_alloc | apply pw_below_drewN | apply below_drew1) | exact HB.out))) : w.heap.size ≤ gb121)); have n3_ := n2_; clear HB; have HB := n0_; have BK121 := n1_; have GW121 := n2_; have GE121 := n3_; clear n0_ n1_ n2_ n3_; clear hb hbox hg; obtain ⟨hcz6_0, hcz6_1, hcz6_2⟩ := cells3 BK121.out; obtain ⟨hfz6_0, hfz6_1, hfz6_2⟩ := frozens3 BK121.out) | (go_at_call 54; (with_reducible refine (spec_l10At.calls k _ _ l0 a1_1 t122 _ ?side1 ?side2 A3.out).mono ?_); (case side1 => repeat (first | exact (Kd.C_below HR0.out HB.out) | (with_reducible refine Kd.C_alloc ?_ _) | (with_reducible refine Kd.C_drewN ?_ _) | (with_reducible refine Kd.C_drew ?_))); (case side2 => exact HC0.out); rintro e w' ⟨rfl, ⟨nd, rfl⟩⟩; (try first | exact ⟨rfl, _, World.drewN_drewN _ _ _⟩ | exact ⟨rfl, _, Eq.trans (World.drewN_drewN _ _ _) (congrArg (World.drewN _) (Nat.add_assoc _ _ _))⟩))))
  (try simp only [Act.put, List.setIfInBounds_toArray, List.set_cons_zero, List.set_cons_succ])
  go_cut [22] (fun v22 wc => ∃ (kq : Nat) (x22_3 : Bool), v22 = .bool x22_3 ∧ Aside0 (spec_CommitOf.j0 kq l0 t122 x22_3 a1_0 a1_1 l1_2 = some r) ∧ Aside0 (kq ≤ k) ∧ Aside0 (wc.heap[gb121]? = some (.cells #[.int .i64 a1_0, .int .i64 a1_1, (.slice A1_2 l1_2.length c1_2)] 31 (0, 0))) ∧ Aside0 (Below w.heap.size w wc))
  case first =>
    have H := HC4.out
    clear HC4
    by_cases c7 : t122 < 0
    · rw [if_pos c7] at H
      have c7b0 : decide (t122 < 0) = true := decide_eq_true c7
      clear c7
      (first | rw [c7b0] | (simp only [i64_w, i32_w]; rw [c7b0]) | skip)
      have H' := Aside0.mk H
      clear H
      go_wp2
      repeat (go_quiet (fail); try go_wp2)
      go_meet
      case rel => exact ⟨_, (true), (by first | rfl | (simp; done) | (simp [*]; done)), H', ⟨by first | omega | exact Nat.le_refl _⟩, ⟨by (with_reducible repeat (first | refine blk_drewN ?_ _ | refine blk_drew ?_ | refine blk_alloc ?_ _)); exact BK121.out⟩, ⟨by repeat (first | (with_reducible first | exact HB.out | apply below_alloc | apply pw_below_drewN | apply below_drew1 | refine below_set ?_ GE121.out) | exact HB.out)⟩⟩
    · rw [if_neg c7] at H
      have c7b0 : decide (t122 < 0) = false := decide_eq_false c7
      clear c7
      (first | rw [c7b0] | (simp only [i64_w, i32_w]; rw [c7b0]) | skip)
      by_cases c8 : 0 ≤ t122
      · rw [if_pos c8] at H
        have c8b0 : decide (0 ≤ t122) = true := decide_eq_true c8
        clear c8
        by_cases c9 : t122 < (l0.length : Int)
        · rw [if_pos c9] at H
          have c9b0 : decide (t122 < (l0.length : Int)) = true := decide_eq_true c9
          clear c9
          have H' := Aside0.mk H
          clear H
          have p123 : 0 ≤ (t122 : Int) := of_decide_eq_true (by first | (with_reducible assumption) | assumption)
          have q123 : t122 < (l0.length : Int) := of_decide_eq_true (by first | (with_reducible assumption) | assumption)
          obtain ⟨ad123, A123_6, c123_6, A123_8, c123_8, A123_9, c123_9, A123_10, c123_10, A123_12, c123_12, e123, hx123_0, hx123_1, hx123_2, hx123_3, hx123_4, hx123_5, hx123_6, hx123_7, hx123_8, hx123_9, hx123_10, hx123_11, hx123_12, hx123_13, hl123_6, hi123_6, hl123_8, hi123_8, hl123_9, hi123_9, hl123_10, hi123_10, hl123_12, hi123_12⟩ := at_T59 HR0.out t122 p123 q123
          cases e123
          replace hx123_0 := (HB.out.cell (World.block_lt_of_cell? w _ hx123_0)).trans hx123_0
          replace hx123_1 := (HB.out.cell (World.block_lt_of_cell? w _ hx123_1)).trans hx123_1
          replace hx123_2 := (HB.out.cell (World.block_lt_of_cell? w _ hx123_2)).trans hx123_2
          replace hx123_3 := (HB.out.cell (World.block_lt_of_cell? w _ hx123_3)).trans hx123_3
          replace hx123_4 := (HB.out.cell (World.block_lt_of_cell? w _ hx123_4)).trans hx123_4
          replace hx123_5 := (HB.out.cell (World.block_lt_of_cell? w _ hx123_5)).trans hx123_5
          replace hx123_6 := (HB.out.cell (World.block_lt_of_cell? w _ hx123_6)).trans hx123_6
          replace hx123_7 := (HB.out.cell (World.block_lt_of_cell? w _ hx123_7)).trans hx123_7
          replace hx123_8 := (HB.out.cell (World.block_lt_of_cell? w _ hx123_8)).trans hx123_8
          replace hx123_9 := (HB.out.cell (World.block_lt_of_cell? w _ hx123_9)).trans hx123_9
          replace hx123_10 := (HB.out.cell (World.block_lt_of_cell? w _ hx123_10)).trans hx123_10
          replace hx123_11 := (HB.out.cell (World.block_lt_of_cell? w _ hx123_11)).trans hx123_11
          replace hx123_12 := (HB.out.cell (World.block_lt_of_cell? w _ hx123_12)).trans hx123_12
          replace hx123_13 := (HB.out.cell (World.block_lt_of_cell? w _ hx123_13)).trans hx123_13
          have HR123_6 := Aside0.mk hi123_6
          have HC123_6 := Aside0.mk hl123_6
          clear hi123_6 hl123_6
          have HR123_8 := Aside0.mk hi123_8
          have HC123_8 := Aside0.mk hl123_8
          clear hi123_8 hl123_8
          have HR123_9 := Aside0.mk hi123_9
          have HC123_9 := Aside0.mk hl123_9
          clear hi123_9 hl123_9
          have HR123_10 := Aside0.mk hi123_10
          have HC123_10 := Aside0.mk hl123_10
          clear hi123_10 hl123_10
          have HR123_12 := Aside0.mk hi123_12
          have HC123_12 := Aside0.mk hl123_12
          clear hi123_12 hl123_12
          replace p123 := eq_true p123
          replace q123 := eq_true q123
          obtain ⟨hcz10_0, hcz10_1, hcz10_2⟩ := cells3 BK121.out
          obtain ⟨hfz10_0, hfz10_1, hfz10_2⟩ := frozens3 BK121.out
          go_wp2
          repeat (go_quiet (fail); try go_wp2)
          go_meet
          case rel => exact ⟨_, ((((rd_T59 l0 t122).f2) != a1_0)), (by first | rfl | (simp; done) | (simp [*]; done)), H', ⟨by first | omega | exact Nat.le_refl _⟩, ⟨by (with_reducible repeat (first | refine blk_drewN ?_ _ | refine blk_drew ?_ | refine blk_alloc ?_ _)); exact BK121.out⟩, ⟨by repeat (first | (with_reducible first | exact HB.out | apply below_alloc | apply pw_below_drewN | apply below_drew1 | refine below_set ?_ GE121.out) | exact HB.out)⟩⟩
        · rw [if_neg c9] at H
          exact absurd H (by simp)
      · rw [if_neg c8] at H
        exact absurd H (by simp)
  case rest =>
    clear HC4
    try clear c1
    try clear p1
    try clear q1
    try clear hx1
    try clear p2
    try clear c7
    try clear c7b0
    try clear c8
    try clear c8b0
    try clear c9
    try clear c9b0
    try clear hcz10_0
    try clear hcz10_1
    try clear hcz10_2
    try clear hcz6_0
    try clear hcz6_1
    try clear hcz6_2
    try clear hfz10_0
    try clear hfz10_1
    try clear hfz10_2
    try clear hfz6_0
    try clear hfz6_1
    try clear hfz6_2
    try clear hx123_0
    try clear hx123_1
    try clear hx123_10
    try clear hx123_11
    try clear hx123_12
    try clear hx123_13
    try clear hx123_2
    try clear hx123_3
    try clear hx123_4
    try clear hx123_5
    try clear hx123_6
    try clear hx123_7
    try clear hx123_8
    try clear hx123_9
    try clear p123
    try clear q123
    obtain ⟨kq, x22_3, rfl, HA, HJ3, BK121, HB⟩ := hcut
    cases kq with
    | zero => exact absurd HA.out (by simp [spec_CommitOf.j0])
    | succ kj3 =>
      have H := HA.out
      clear HA
      simp only [spec_CommitOf.j0] at H
      by_cases c11 : x22_3 = true
      · subst c11
        have H1 : (some (-1)) = some r := by rw [if_pos rfl] at H; exact H
        clear H
        have H := H1
        clear H1
        obtain rfl := Option.some.inj H
        go_wp2
        repeat (go_quiet (fail); try go_wp2)
        go_ret
        exact ⟨by first | rfl | (simp [errW_none, errW_some] <;> rfl) | (simp [*, errW_none, errW_some] <;> rfl), by repeat (first | (with_reducible first | exact HB.out | apply below_alloc | apply pw_below_drewN | apply below_drew1 | refine below_set ?_ GE121.out) | exact HB.out)⟩
      · replace c11 := Bool.eq_false_iff.mpr c11
        subst c11
        have H1 : (if 0 ≤ t122 then (if t122 < (l0.length : Int) then ((spec_l10At.f kj3 l0 ((rd_T59 l0 t122).f4.f1)).bind fun t125 => (if t125 < 0 then (some (-1)) else (if 0 ≤ t125 then (if t125 < (l0.length : Int) then (if ((rd_T59 l0 t125).f2) = (wrap64 (a1_0 - 1)) then (some ((rd_T59 l0 t125).f0)) else (some (-1))) else (none)) else (none)))) else (none)) else (none)) = some r := by rw [if_neg (show ¬ (false = true) by decide)] at H; exact H
        clear H
        have H := H1
        clear H1
        by_cases c12 : 0 ≤ t122
        · rw [if_pos c12] at H
          have c12b0 : decide (0 ≤ t122) = true := decide_eq_true c12
          clear c12
          by_cases c13 : t122 < (l0.length : Int)
          · rw [if_pos c13] at H
            have c13b0 : decide (t122 < (l0.length : Int)) = true := decide_eq_true c13
            clear c13
            replace H := Option.bind_eq_some_iff.mp H
            obtain ⟨t125, A140, H⟩ := H
            replace H : (if t125 < 0 then (some (-1)) else (if 0 ≤ t125 then (if t125 < (l0.length : Int) then (if ((rd_T59 l0 t125).f2) = (wrap64 (a1_0 - 1)) then (some ((rd_T59 l0 t125).f0)) else (some (-1))) else (none)) else (none))) = some r := H
            have A14 := Aside0.mk A140
            clear A140
            by_cases c15 : t125 < 0
            · rw [if_pos c15] at H
              have c15b0 : decide (t125 < 0) = true := decide_eq_true c15
              clear c15
              obtain rfl := Option.some.inj H
              have p124 : 0 ≤ (t122 : Int) := of_decide_eq_true (by first | (with_reducible assumption) | assumption)
              have q124 : t122 < (l0.length : Int) := of_decide_eq_true (by first | (with_reducible assumption) | assumption)
              obtain ⟨ad124, A124_6, c124_6, A124_8, c124_8, A124_9, c124_9, A124_10, c124_10, A124_12, c124_12, e124, hx124_0, hx124_1, hx124_2, hx124_3, hx124_4, hx124_5, hx124_6, hx124_7, hx124_8, hx124_9, hx124_10, hx124_11, hx124_12, hx124_13, hl124_6, hi124_6, hl124_8, hi124_8, hl124_9, hi124_9, hl124_10, hi124_10, hl124_12, hi124_12⟩ := at_T59 HR0.out t122 p124 q124
              cases e124
              replace hx124_0 := (HB.out.cell (World.block_lt_of_cell? w _ hx124_0)).trans hx124_0
              replace hx124_1 := (HB.out.cell (World.block_lt_of_cell? w _ hx124_1)).trans hx124_1
              replace hx124_2 := (HB.out.cell (World.block_lt_of_cell? w _ hx124_2)).trans hx124_2
              replace hx124_3 := (HB.out.cell (World.block_lt_of_cell? w _ hx124_3)).trans hx124_3
              replace hx124_4 := (HB.out.cell (World.block_lt_of_cell? w _ hx124_4)).trans hx124_4
              replace hx124_5 := (HB.out.cell (World.block_lt_of_cell? w _ hx124_5)).trans hx124_5
              replace hx124_6 := (HB.out.cell (World.block_lt_of_cell? w _ hx124_6)).trans hx124_6
              replace hx124_7 := (HB.out.cell (World.block_lt_of_cell? w _ hx124_7)).trans hx124_7
              replace hx124_8 := (HB.out.cell (World.block_lt_of_cell? w _ hx124_8)).trans hx124_8
              replace hx124_9 := (HB.out.cell (World.block_lt_of_cell? w _ hx124_9)).trans hx124_9
              replace hx124_10 := (HB.out.cell (World.block_lt_of_cell? w _ hx124_10)).trans hx124_10
              replace hx124_11 := (HB.out.cell (World.block_lt_of_cell? w _ hx124_11)).trans hx124_11
              replace hx124_12 := (HB.out.cell (World.block_lt_of_cell? w _ hx124_12)).trans hx124_12
              replace hx124_13 := (HB.out.cell (World.block_lt_of_cell? w _ hx124_13)).trans hx124_13
              have HR124_6 := Aside0.mk hi124_6
              have HC124_6 := Aside0.mk hl124_6
              clear hi124_6 hl124_6
              have HR124_8 := Aside0.mk hi124_8
              have HC124_8 := Aside0.mk hl124_8
              clear hi124_8 hl124_8
              have HR124_9 := Aside0.mk hi124_9
              have HC124_9 := Aside0.mk hl124_9
              clear hi124_9 hl124_9
              have HR124_10 := Aside0.mk hi124_10
              have HC124_10 := Aside0.mk hl124_10
              clear hi124_10 hl124_10
              have HR124_12 := Aside0.mk hi124_12
              have HC124_12 := Aside0.mk hl124_12
              clear hi124_12 hl124_12
              replace p124 := eq_true p124
              replace q124 := eq_true q124
              go_wp2_with (first | (go_at_call 54; (with_reducible refine (spec_l10At.calls kj3 _ _ l0 ((rd_T59 l0 t122).f4.f1) t125 _ ?side1 ?side2 A14.out).mono ?_); (case side1 => repeat (first | exact (Kd.C_below HR0.out HB.out) | (with_reducible refine Kd.C_alloc ?_ _) | (with_reducible refine Kd.C_drewN ?_ _) | (with_reducible refine Kd.C_drew ?_))); (case side2 => exact HC0.out); rintro e w' ⟨rfl, ⟨nd, rfl⟩⟩; (try first | exact ⟨rfl, _, World.drewN_drewN _ _ _⟩ | exact ⟨rfl, _, Eq.trans (World.drewN_drewN _ _ _) (congrArg (World.drewN _) (Nat.add_assoc _ _ _))⟩)))
              repeat (go_quiet (first | (go_at_call 54; (with_reducible refine (spec_l10At.calls kj3 _ _ l0 ((rd_T59 l0 t122).f4.f1) t125 _ ?side1 ?side2 A14.out).mono ?_); (case side1 => repeat (first | exact (Kd.C_below HR0.out HB.out) | (with_reducible refine Kd.C_alloc ?_ _) | (with_reducible refine Kd.C_drewN ?_ _) | (with_reducible refine Kd.C_drew ?_))); (case side2 => exact HC0.out); rintro e w' ⟨rfl, ⟨nd, rfl⟩⟩; (try first | exact ⟨rfl, _, World.drewN_drewN _ _ _⟩ | exact ⟨rfl, _, Eq.trans (World.drewN_drewN _ _ _) (congrArg (World.drewN _) (Nat.add_assoc _ _ _))⟩))); try go_wp2_with (first | (go_at_call 54; (with_reducible refine (spec_l10At.calls kj3 _ _ l0 ((rd_T59 l0 t122).f4.f1) t125 _ ?side1 ?side2 A14.out).mono ?_); (case side1 => repeat (first | exact (Kd.C_below HR0.out HB.out) | (with_reducible refine Kd.C_alloc ?_ _) | (with_reducible refine Kd.C_drewN ?_ _) | (with_reducible refine Kd.C_drew ?_))); (case side2 => exact HC0.out); rintro e w' ⟨rfl, ⟨nd, rfl⟩⟩; (try first | exact ⟨rfl, _, World.drewN_drewN _ _ _⟩ | exact ⟨rfl, _, Eq.trans (World.drewN_drewN _ _ _) (congrArg (World.drewN _) (Nat.add_assoc _ _ _))⟩))))
              go_ret
              exact ⟨by first | rfl | (simp [errW_none, errW_some] <;> rfl) | (simp [*, errW_none, errW_some] <;> rfl), by repeat (first | (with_reducible first | exact HB.out | apply below_alloc | apply pw_below_drewN | apply below_drew1 | refine below_set ?_ GE121.out) | exact HB.out)⟩
            · rw [if_neg c15] at H
              have c15b0 : decide (t125 < 0) = false := decide_eq_false c15
              clear c15
              by_cases c16 : 0 ≤ t125
              · rw [if_pos c16] at H
                have c16b0 : decide (0 ≤ t125) = true := decide_eq_true c16
                clear c16
                by_cases c17 : t125 < (l0.length : Int)
                · rw [if_pos c17] at H
                  have c17b0 : decide (t125 < (l0.length : Int)) = true := decide_eq_true c17
                  clear c17
                  by_cases c18 : ((rd_T59 l0 t125).f2) = (wrap64 (a1_0 - 1))
                  · rw [if_pos c18] at H
                    have c18b0 : (((rd_T59 l0 t125).f2) == (wrap64 (a1_0 - 1))) = true := beq_iff_eq.mpr c18
                    have c18b1 : (((rd_T59 l0 t125).f2) != (wrap64 (a1_0 - 1))) = false := bne_eq_false_iff_eq.mpr c18
                    clear c18
                    obtain rfl := Option.some.inj H
                    have p124 : 0 ≤ (t122 : Int) := of_decide_eq_true (by first | (with_reducible assumption) | assumption)
                    have q124 : t122 < (l0.length : Int) := of_decide_eq_true (by first | (with_reducible assumption) | assumption)
                    obtain ⟨ad124, A124_6, c124_6, A124_8, c124_8, A124_9, c124_9, A124_10, c124_10, A124_12, c124_12, e124, hx124_0, hx124_1, hx124_2, hx124_3, hx124_4, hx124_5, hx124_6, hx124_7, hx124_8, hx124_9, hx124_10, hx124_11, hx124_12, hx124_13, hl124_6, hi124_6, hl124_8, hi124_8, hl124_9, hi124_9, hl124_10, hi124_10, hl124_12, hi124_12⟩ := at_T59 HR0.out t122 p124 q124
                    cases e124
                    replace hx124_0 := (HB.out.cell (World.block_lt_of_cell? w _ hx124_0)).trans hx124_0
                    replace hx124_1 := (HB.out.cell (World.block_lt_of_cell? w _ hx124_1)).trans hx124_1
                    replace hx124_2 := (HB.out.cell (World.block_lt_of_cell? w _ hx124_2)).trans hx124_2
                    replace hx124_3 := (HB.out.cell (World.block_lt_of_cell? w _ hx124_3)).trans hx124_3
                    replace hx124_4 := (HB.out.cell (World.block_lt_of_cell? w _ hx124_4)).trans hx124_4
                    replace hx124_5 := (HB.out.cell (World.block_lt_of_cell? w _ hx124_5)).trans hx124_5
                    replace hx124_6 := (HB.out.cell (World.block_lt_of_cell? w _ hx124_6)).trans hx124_6
                    replace hx124_7 := (HB.out.cell (World.block_lt_of_cell? w _ hx124_7)).trans hx124_7
                    replace hx124_8 := (HB.out.cell (World.block_lt_of_cell? w _ hx124_8)).trans hx124_8
                    replace hx124_9 := (HB.out.cell (World.block_lt_of_cell? w _ hx124_9)).trans hx124_9
                    replace hx124_10 := (HB.out.cell (World.block_lt_of_cell? w _ hx124_10)).trans hx124_10
                    replace hx124_11 := (HB.out.cell (World.block_lt_of_cell? w _ hx124_11)).trans hx124_11
                    replace hx124_12 := (HB.out.cell (World.block_lt_of_cell? w _ hx124_12)).trans hx124_12
                    replace hx124_13 := (HB.out.cell (World.block_lt_of_cell? w _ hx124_13)).trans hx124_13
                    have HR124_6 := Aside0.mk hi124_6
                    have HC124_6 := Aside0.mk hl124_6
                    clear hi124_6 hl124_6
                    have HR124_8 := Aside0.mk hi124_8
                    have HC124_8 := Aside0.mk hl124_8
                    clear hi124_8 hl124_8
                    have HR124_9 := Aside0.mk hi124_9
                    have HC124_9 := Aside0.mk hl124_9
                    clear hi124_9 hl124_9
                    have HR124_10 := Aside0.mk hi124_10
                    have HC124_10 := Aside0.mk hl124_10
                    clear hi124_10 hl124_10
                    have HR124_12 := Aside0.mk hi124_12
                    have HC124_12 := Aside0.mk hl124_12
                    clear hi124_12 hl124_12
                    replace p124 := eq_true p124
                    replace q124 := eq_true q124
                    go_wp2_with (first | (go_at_call 54; (with_reducible refine (spec_l10At.calls kj3 _ _ l0 ((rd_T59 l0 t122).f4.f1) t125 _ ?side1 ?side2 A14.out).mono ?_); (case side1 => repeat (first | exact (Kd.C_below HR0.out HB.out) | (with_reducible refine Kd.C_alloc ?_ _) | (with_reducible refine Kd.C_drewN ?_ _) | (with_reducible refine Kd.C_drew ?_))); (case side2 => exact HC0.out); rintro e w' ⟨rfl, ⟨nd, rfl⟩⟩; (try first | exact ⟨rfl, _, World.drewN_drewN _ _ _⟩ | exact ⟨rfl, _, Eq.trans (World.drewN_drewN _ _ _) (congrArg (World.drewN _) (Nat.add_assoc _ _ _))⟩); have p126 : 0 ≤ (t125 : Int) := of_decide_eq_true (by first | (with_reducible assumption) | assumption); have q126 : t125 < (l0.length : Int) := of_decide_eq_true (by first | (with_reducible assumption) | assumption); obtain ⟨ad126, A126_6, c126_6, A126_8, c126_8, A126_9, c126_9, A126_10, c126_10, A126_12, c126_12, e126, hx126_0, hx126_1, hx126_2, hx126_3, hx126_4, hx126_5, hx126_6, hx126_7, hx126_8, hx126_9, hx126_10, hx126_11, hx126_12, hx126_13, hl126_6, hi126_6, hl126_8, hi126_8, hl126_9, hi126_9, hl126_10, hi126_10, hl126_12, hi126_12⟩ := at_T59 HR0.out t125 p126 q126; obtain rfl : ad124 = ad126 := (by injection e126); replace hx126_0 := (HB.out.cell (World.block_lt_of_cell? w _ hx126_0)).trans hx126_0; replace hx126_1 := (HB.out.cell (World.block_lt_of_cell? w _ hx126_1)).trans hx126_1; replace hx126_2 := (HB.out.cell (World.block_lt_of_cell? w _ hx126_2)).trans hx126_2; replace hx126_3 := (HB.out.cell (World.block_lt_of_cell? w _ hx126_3)).trans hx126_3; replace hx126_4 := (HB.out.cell (World.block_lt_of_cell? w _ hx126_4)).trans hx126_4; replace hx126_5 := (HB.out.cell (World.block_lt_of_cell? w _ hx126_5)).trans hx126_5; replace hx126_6 := (HB.out.cell (World.block_lt_of_cell? w _ hx126_6)).trans hx126_6; replace hx126_7 := (HB.out.cell (World.block_lt_of_cell? w _ hx126_7)).trans hx126_7; replace hx126_8 := (HB.out.cell (World.block_lt_of_cell? w _ hx126_8)).trans hx126_8; replace hx126_9 := (HB.out.cell (World.block_lt_of_cell? w _ hx126_9)).trans hx126_9; replace hx126_10 := (HB.out.cell (World.block_lt_of_cell? w _ hx126_10)).trans hx126_10; replace hx126_11 := (HB.out.cell (World.block_lt_of_cell? w _ hx126_11)).trans hx126_11; replace hx126_12 := (HB.out.cell (World.block_lt_of_cell? w _ hx126_12)).trans hx126_12; replace hx126_13 := (HB.out.cell (World.block_lt_of_cell? w _ hx126_13)).trans hx126_13; have HR126_6 := Aside0.mk hi126_6; have HC126_6 := Aside0.mk hl126_6; clear hi126_6 hl126_6; have HR126_8 := Aside0.mk hi126_8; have HC126_8 := Aside0.mk hl126_8; clear hi126_8 hl126_8; have HR126_9 := Aside0.mk hi126_9; have HC126_9 := Aside0.mk hl126_9; clear hi126_9 hl126_9; have HR126_10 := Aside0.mk hi126_10; have HC126_10 := Aside0.mk hl126_10; clear hi126_10 hl126_10; have HR126_12 := Aside0.mk hi126_12; have HC126_12 := Aside0.mk hl126_12; clear hi126_12 hl126_12; replace p126 := eq_true p126; replace q126 := eq_true q126; obtain ⟨hcz19_0, hcz19_1, hcz19_2⟩ := cells3 BK121.out; obtain ⟨hfz19_0, hfz19_1, hfz19_2⟩ := frozens3 BK121.out; have p127 : 0 ≤ (t125 : Int) := of_decide_eq_true (by first | (with_reducible assumption) | assumption); have q127 : t125 < (l0.length : Int) := of_decide_eq_true (by first | (with_reducible assumption) | assumption); obtain ⟨ad127, A127_6, c127_6, A127_8, c127_8, A127_9, c127_9, A127_10, c127_10, A127_12, c127_12, e127, hx127_0, hx127_1, hx127_2, hx127_3, hx127_4, hx127_5, hx127_6, hx127_7, hx127_8, hx127_9, hx127_10, hx127_11, hx127_12, hx127_13, hl127_6, hi127_6, hl127_8, hi127_8, hl127_9, hi127_9, hl127_10, hi127_10, hl127_12, hi127_12⟩ := at_T59 HR0.out t125 p127 q127; obtain rfl : ad124 = ad127 := (by injection e127); replace hx127_0 := (HB.out.cell (World.block_lt_of_cell? w _ hx127_0)).trans hx127_0; replace hx127_1 := (HB.out.cell (World.block_lt_of_cell? w _ hx127_1)).trans hx127_1; replace hx127_2 := (HB.out.cell (World.block_lt_of_cell? w _ hx127_2)).trans hx127_2; replace hx127_3 := (HB.out.cell (World.block_lt_of_cell? w _ hx127_3)).trans hx127_3; replace hx127_4 := (HB.out.cell (World.block_lt_of_cell? w _ hx127_4)).trans hx127_4; replace hx127_5 := (HB.out.cell (World.block_lt_of_cell? w _ hx127_5)).trans hx127_5; replace hx127_6 := (HB.out.cell (World.block_lt_of_cell? w _ hx127_6)).trans hx127_6; replace hx127_7 := (HB.out.cell (World.block_lt_of_cell? w _ hx127_7)).trans hx127_7; replace hx127_8 := (HB.out.cell (World.block_lt_of_cell? w _ hx127_8)).trans hx127_8; replace hx127_9 := (HB.out.cell (World.block_lt_of_cell? w _ hx127_9)).trans hx127_9; replace hx127_10 := (HB.out.cell (World.block_lt_of_cell? w _ hx127_10)).trans hx127_10; replace hx127_11 := (HB.out.cell (World.block_lt_of_cell? w _ hx127_11)).trans hx127_11; replace hx127_12 := (HB.out.cell (World.block_lt_of_cell? w _ hx127_12)).trans hx127_12; replace hx127_13 := (HB.out.cell (World.block_lt_of_cell? w _ hx127_13)).trans hx127_13; have HR127_6 := Aside0.mk hi127_6; have HC127_6 := Aside0.mk hl127_6; clear hi127_6 hl127_6; have HR127_8 := Aside0.mk hi127_8; have HC127_8 := Aside0.mk hl127_8; clear hi127_8 hl127_8; have HR127_9 := Aside0.mk hi127_9; have HC127_9 := Aside0.mk hl127_9; clear hi127_9 hl127_9; have HR127_10 := Aside0.mk hi127_10; have HC127_10 := Aside0.mk hl127_10; clear hi127_10 hl127_10; have HR127_12 := Aside0.mk hi127_12; have HC127_12 := Aside0.mk hl127_12; clear hi127_12 hl127_12; replace p127 := eq_true p127; replace q127 := eq_true q127; have ea_ := Option.some.inj (hx126_6.symm.trans hx127_6); injection ea_ with ea_ en_ ec_; subst ea_; subst ec_; clear en_; have ea_ := Option.some.inj (hx126_8.symm.trans hx127_8); injection ea_ with ea_ en_ ec_; subst ea_; subst ec_; clear en_; have ea_ := Option.some.inj (hx126_9.symm.trans hx127_9); injection ea_ with ea_ en_ ec_; subst ea_; subst ec_; clear en_; have ea_ := Option.some.inj (hx126_10.symm.trans hx127_10); injection ea_ with ea_ en_ ec_; subst ea_; subst ec_; clear en_; have ea_ := Option.some.inj (hx126_12.symm.trans hx127_12); injection ea_ with ea_ en_ ec_; subst ea_; subst ec_; clear en_))
                    repeat (go_quiet (first | (go_at_call 54; (with_reducible refine (spec_l10At.calls kj3 _ _ l0 ((rd_T59 l0 t122).f4.f1) t125 _ ?side1 ?side2 A14.out).mono ?_); (case side1 => repeat (first | exact (Kd.C_below HR0.out HB.out) | (with_reducible refine Kd.C_alloc ?_ _) | (with_reducible refine Kd.C_drewN ?_ _) | (with_reducible refine Kd.C_drew ?_))); (case side2 => exact HC0.out); rintro e w' ⟨rfl, ⟨nd, rfl⟩⟩; (try first | exact ⟨rfl, _, World.drewN_drewN _ _ _⟩ | exact ⟨rfl, _, Eq.trans (World.drewN_drewN _ _ _) (congrArg (World.drewN _) (Nat.add_assoc _ _ _))⟩); have p126 : 0 ≤ (t125 : Int) := of_decide_eq_true (by first | (with_reducible assumption) | assumption); have q126 : t125 < (l0.length : Int) := of_decide_eq_true (by first | (with_reducible assumption) | assumption); obtain ⟨ad126, A126_6, c126_6, A126_8, c126_8, A126_9, c126_9, A126_10, c126_10, A126_12, c126_12, e126, hx126_0, hx126_1, hx126_2, hx126_3, hx126_4, hx126_5, hx126_6, hx126_7, hx126_8, hx126_9, hx126_10, hx126_11, hx126_12, hx126_13, hl126_6, hi126_6, hl126_8, hi126_8, hl126_9, hi126_9, hl126_10, hi126_10, hl126_12, hi126_12⟩ := at_T59 HR0.out t125 p126 q126; obtain rfl : ad124 = ad126 := (by injection e126); replace hx126_0 := (HB.out.cell (World.block_lt_of_cell? w _ hx126_0)).trans hx126_0; replace hx126_1 := (HB.out.cell (World.block_lt_of_cell? w _ hx126_1)).trans hx126_1; replace hx126_2 := (HB.out.cell (World.block_lt_of_cell? w _ hx126_2)).trans hx126_2; replace hx126_3 := (HB.out.cell (World.block_lt_of_cell? w _ hx126_3)).trans hx126_3; replace hx126_4 := (HB.out.cell (World.block_lt_of_cell? w _ hx126_4)).trans hx126_4; replace hx126_5 := (HB.out.cell (World.block_lt_of_cell? w _ hx126_5)).trans hx126_5; replace hx126_6 := (HB.out.cell (World.block_lt_of_cell? w _ hx126_6)).trans hx126_6; replace hx126_7 := (HB.out.cell (World.block_lt_of_cell? w _ hx126_7)).trans hx126_7; replace hx126_8 := (HB.out.cell (World.block_lt_of_cell? w _ hx126_8)).trans hx126_8; replace hx126_9 := (HB.out.cell (World.block_lt_of_cell? w _ hx126_9)).trans hx126_9; replace hx126_10 := (HB.out.cell (World.block_lt_of_cell? w _ hx126_10)).trans hx126_10; replace hx126_11 := (HB.out.cell (World.block_lt_of_cell? w _ hx126_11)).trans hx126_11; replace hx126_12 := (HB.out.cell (World.block_lt_of_cell? w _ hx126_12)).trans hx126_12; replace hx126_13 := (HB.out.cell (World.block_lt_of_cell? w _ hx126_13)).trans hx126_13; have HR126_6 := Aside0.mk hi126_6; have HC126_6 := Aside0.mk hl126_6; clear hi126_6 hl126_6; have HR126_8 := Aside0.mk hi126_8; have HC126_8 := Aside0.mk hl126_8; clear hi126_8 hl126_8; have HR126_9 := Aside0.mk hi126_9; have HC126_9 := Aside0.mk hl126_9; clear hi126_9 hl126_9; have HR126_10 := Aside0.mk hi126_10; have HC126_10 := Aside0.mk hl126_10; clear hi126_10 hl126_10; have HR126_12 := Aside0.mk hi126_12; have HC126_12 := Aside0.mk hl126_12; clear hi126_12 hl126_12; replace p126 := eq_true p126; replace q126 := eq_true q126; obtain ⟨hcz19_0, hcz19_1, hcz19_2⟩ := cells3 BK121.out; obtain ⟨hfz19_0, hfz19_1, hfz19_2⟩ := frozens3 BK121.out; have p127 : 0 ≤ (t125 : Int) := of_decide_eq_true (by first | (with_reducible assumption) | assumption); have q127 : t125 < (l0.length : Int) := of_decide_eq_true (by first | (with_reducible assumption) | assumption); obtain ⟨ad127, A127_6, c127_6, A127_8, c127_8, A127_9, c127_9, A127_10, c127_10, A127_12, c127_12, e127, hx127_0, hx127_1, hx127_2, hx127_3, hx127_4, hx127_5, hx127_6, hx127_7, hx127_8, hx127_9, hx127_10, hx127_11, hx127_12, hx127_13, hl127_6, hi127_6, hl127_8, hi127_8, hl127_9, hi127_9, hl127_10, hi127_10, hl127_12, hi127_12⟩ := at_T59 HR0.out t125 p127 q127; obtain rfl : ad124 = ad127 := (by injection e127); replace hx127_0 := (HB.out.cell (World.block_lt_of_cell? w _ hx127_0)).trans hx127_0; replace hx127_1 := (HB.out.cell (World.block_lt_of_cell? w _ hx127_1)).trans hx127_1; replace hx127_2 := (HB.out.cell (World.block_lt_of_cell? w _ hx127_2)).trans hx127_2; replace hx127_3 := (HB.out.cell (World.block_lt_of_cell? w _ hx127_3)).trans hx127_3; replace hx127_4 := (HB.out.cell (World.block_lt_of_cell? w _ hx127_4)).trans hx127_4; replace hx127_5 := (HB.out.cell (World.block_lt_of_cell? w _ hx127_5)).trans hx127_5; replace hx127_6 := (HB.out.cell (World.block_lt_of_cell? w _ hx127_6)).trans hx127_6; replace hx127_7 := (HB.out.cell (World.block_lt_of_cell? w _ hx127_7)).trans hx127_7; replace hx127_8 := (HB.out.cell (World.block_lt_of_cell? w _ hx127_8)).trans hx127_8; replace hx127_9 := (HB.out.cell (World.block_lt_of_cell? w _ hx127_9)).trans hx127_9; replace hx127_10 := (HB.out.cell (World.block_lt_of_cell? w _ hx127_10)).trans hx127_10; replace hx127_11 := (HB.out.cell (World.block_lt_of_cell? w _ hx127_11)).trans hx127_11; replace hx127_12 := (HB.out.cell (World.block_lt_of_cell? w _ hx127_12)).trans hx127_12; replace hx127_13 := (HB.out.cell (World.block_lt_of_cell? w _ hx127_13)).trans hx127_13; have HR127_6 := Aside0.mk hi127_6; have HC127_6 := Aside0.mk hl127_6; clear hi127_6 hl127_6; have HR127_8 := Aside0.mk hi127_8; have HC127_8 := Aside0.mk hl127_8; clear hi127_8 hl127_8; have HR127_9 := Aside0.mk hi127_9; have HC127_9 := Aside0.mk hl127_9; clear hi127_9 hl127_9; have HR127_10 := Aside0.mk hi127_10; have HC127_10 := Aside0.mk hl127_10; clear hi127_10 hl127_10; have HR127_12 := Aside0.mk hi127_12; have HC127_12 := Aside0.mk hl127_12; clear hi127_12 hl127_12; replace p127 := eq_true p127; replace q127 := eq_true q127; have ea_ := Option.some.inj (hx126_6.symm.trans hx127_6); injection ea_ with ea_ en_ ec_; subst ea_; subst ec_; clear en_; have ea_ := Option.some.inj (hx126_8.symm.trans hx127_8); injection ea_ with ea_ en_ ec_; subst ea_; subst ec_; clear en_; have ea_ := Option.some.inj (hx126_9.symm.trans hx127_9); injection ea_ with ea_ en_ ec_; subst ea_; subst ec_; clear en_; have ea_ := Option.some.inj (hx126_10.symm.trans hx127_10); injection ea_ with ea_ en_ ec_; subst ea_; subst ec_; clear en_; have ea_ := Option.some.inj (hx126_12.symm.trans hx127_12); injection ea_ with ea_ en_ ec_; subst ea_; subst ec_; clear en_)); try go_wp2_with (first | (go_at_call 54; (with_reducible refine (spec_l10At.calls kj3 _ _ l0 ((rd_T59 l0 t122).f4.f1) t125 _ ?side1 ?side2 A14.out).mono ?_); (case side1 => repeat (first | exact (Kd.C_below HR0.out HB.out) | (with_reducible refine Kd.C_alloc ?_ _) | (with_reducible refine Kd.C_drewN ?_ _) | (with_reducible refine Kd.C_drew ?_))); (case side2 => exact HC0.out); rintro e w' ⟨rfl, ⟨nd, rfl⟩⟩; (try first | exact ⟨rfl, _, World.drewN_drewN _ _ _⟩ | exact ⟨rfl, _, Eq.trans (World.drewN_drewN _ _ _) (congrArg (World.drewN _) (Nat.add_assoc _ _ _))⟩); have p126 : 0 ≤ (t125 : Int) := of_decide_eq_true (by first | (with_reducible assumption) | assumption); have q126 : t125 < (l0.length : Int) := of_decide_eq_true (by first | (with_reducible assumption) | assumption); obtain ⟨ad126, A126_6, c126_6, A126_8, c126_8, A126_9, c126_9, A126_10, c126_10, A126_12, c126_12, e126, hx126_0, hx126_1, hx126_2, hx126_3, hx126_4, hx126_5, hx126_6, hx126_7, hx126_8, hx126_9, hx126_10, hx126_11, hx126_12, hx126_13, hl126_6, hi126_6, hl126_8, hi126_8, hl126_9, hi126_9, hl126_10, hi126_10, hl126_12, hi126_12⟩ := at_T59 HR0.out t125 p126 q126; obtain rfl : ad124 = ad126 := (by injection e126); replace hx126_0 := (HB.out.cell (World.block_lt_of_cell? w _ hx126_0)).trans hx126_0; replace hx126_1 := (HB.out.cell (World.block_lt_of_cell? w _ hx126_1)).trans hx126_1; replace hx126_2 := (HB.out.cell (World.block_lt_of_cell? w _ hx126_2)).trans hx126_2; replace hx126_3 := (HB.out.cell (World.block_lt_of_cell? w _ hx126_3)).trans hx126_3; replace hx126_4 := (HB.out.cell (World.block_lt_of_cell? w _ hx126_4)).trans hx126_4; replace hx126_5 := (HB.out.cell (World.block_lt_of_cell? w _ hx126_5)).trans hx126_5; replace hx126_6 := (HB.out.cell (World.block_lt_of_cell? w _ hx126_6)).trans hx126_6; replace hx126_7 := (HB.out.cell (World.block_lt_of_cell? w _ hx126_7)).trans hx126_7; replace hx126_8 := (HB.out.cell (World.block_lt_of_cell? w _ hx126_8)).trans hx126_8; replace hx126_9 := (HB.out.cell (World.block_lt_of_cell? w _ hx126_9)).trans hx126_9; replace hx126_10 := (HB.out.cell (World.block_lt_of_cell? w _ hx126_10)).trans hx126_10; replace hx126_11 := (HB.out.cell (World.block_lt_of_cell? w _ hx126_11)).trans hx126_11; replace hx126_12 := (HB.out.cell (World.block_lt_of_cell? w _ hx126_12)).trans hx126_12; replace hx126_13 := (HB.out.cell (World.block_lt_of_cell? w _ hx126_13)).trans hx126_13; have HR126_6 := Aside0.mk hi126_6; have HC126_6 := Aside0.mk hl126_6; clear hi126_6 hl126_6; have HR126_8 := Aside0.mk hi126_8; have HC126_8 := Aside0.mk hl126_8; clear hi126_8 hl126_8; have HR126_9 := Aside0.mk hi126_9; have HC126_9 := Aside0.mk hl126_9; clear hi126_9 hl126_9; have HR126_10 := Aside0.mk hi126_10; have HC126_10 := Aside0.mk hl126_10; clear hi126_10 hl126_10; have HR126_12 := Aside0.mk hi126_12; have HC126_12 := Aside0.mk hl126_12; clear hi126_12 hl126_12; replace p126 := eq_true p126; replace q126 := eq_true q126; obtain ⟨hcz19_0, hcz19_1, hcz19_2⟩ := cells3 BK121.out; obtain ⟨hfz19_0, hfz19_1, hfz19_2⟩ := frozens3 BK121.out; have p127 : 0 ≤ (t125 : Int) := of_decide_eq_true (by first | (with_reducible assumption) | assumption); have q127 : t125 < (l0.length : Int) := of_decide_eq_true (by first | (with_reducible assumption) | assumption); obtain ⟨ad127, A127_6, c127_6, A127_8, c127_8, A127_9, c127_9, A127_10, c127_10, A127_12, c127_12, e127, hx127_0, hx127_1, hx127_2, hx127_3, hx127_4, hx127_5, hx127_6, hx127_7, hx127_8, hx127_9, hx127_10, hx127_11, hx127_12, hx127_13, hl127_6, hi127_6, hl127_8, hi127_8, hl127_9, hi127_9, hl127_10, hi127_10, hl127_12, hi127_12⟩ := at_T59 HR0.out t125 p127 q127; obtain rfl : ad124 = ad127 := (by injection e127); replace hx127_0 := (HB.out.cell (World.block_lt_of_cell? w _ hx127_0)).trans hx127_0; replace hx127_1 := (HB.out.cell (World.block_lt_of_cell? w _ hx127_1)).trans hx127_1; replace hx127_2 := (HB.out.cell (World.block_lt_of_cell? w _ hx127_2)).trans hx127_2; replace hx127_3 := (HB.out.cell (World.block_lt_of_cell? w _ hx127_3)).trans hx127_3; replace hx127_4 := (HB.out.cell (World.block_lt_of_cell? w _ hx127_4)).trans hx127_4; replace hx127_5 := (HB.out.cell (World.block_lt_of_cell? w _ hx127_5)).trans hx127_5; replace hx127_6 := (HB.out.cell (World.block_lt_of_cell? w _ hx127_6)).trans hx127_6; replace hx127_7 := (HB.out.cell (World.block_lt_of_cell? w _ hx127_7)).trans hx127_7; replace hx127_8 := (HB.out.cell (World.block_lt_of_cell? w _ hx127_8)).trans hx127_8; replace hx127_9 := (HB.out.cell (World.block_lt_of_cell? w _ hx127_9)).trans hx127_9; replace hx127_10 := (HB.out.cell (World.block_lt_of_cell? w _ hx127_10)).trans hx127_10; replace hx127_11 := (HB.out.cell (World.block_lt_of_cell? w _ hx127_11)).trans hx127_11; replace hx127_12 := (HB.out.cell (World.block_lt_of_cell? w _ hx127_12)).trans hx127_12; replace hx127_13 := (HB.out.cell (World.block_lt_of_cell? w _ hx127_13)).trans hx127_13; have HR127_6 := Aside0.mk hi127_6; have HC127_6 := Aside0.mk hl127_6; clear hi127_6 hl127_6; have HR127_8 := Aside0.mk hi127_8; have HC127_8 := Aside0.mk hl127_8; clear hi127_8 hl127_8; have HR127_9 := Aside0.mk hi127_9; have HC127_9 := Aside0.mk hl127_9; clear hi127_9 hl127_9; have HR127_10 := Aside0.mk hi127_10; have HC127_10 := Aside0.mk hl127_10; clear hi127_10 hl127_10; have HR127_12 := Aside0.mk hi127_12; have HC127_12 := Aside0.mk hl127_12; clear hi127_12 hl127_12; replace p127 := eq_true p127; replace q127 := eq_true q127; have ea_ := Option.some.inj (hx126_6.symm.trans hx127_6); injection ea_ with ea_ en_ ec_; subst ea_; subst ec_; clear en_; have ea_ := Option.some.inj (hx126_8.symm.trans hx127_8); injection ea_ with ea_ en_ ec_; subst ea_; subst ec_; clear en_; have ea_ := Option.some.inj (hx126_9.symm.trans hx127_9); injection ea_ with ea_ en_ ec_; subst ea_; subst ec_; clear en_; have ea_ := Option.some.inj (hx126_10.symm.trans hx127_10); injection ea_ with ea_ en_ ec_; subst ea_; subst ec_; clear en_; have ea_ := Option.some.inj (hx126_12.symm.trans hx127_12); injection ea_ with ea_ en_ ec_; subst ea_; subst ec_; clear en_)))
                    go_ret
                    exact ⟨by first | rfl | (simp [errW_none, errW_some] <;> rfl) | (simp [*, errW_none, errW_some] <;> rfl), by repeat (first | (with_reducible first | exact HB.out | apply below_alloc | apply pw_below_drewN | apply below_drew1 | refine below_set ?_ GE121.out) | exact HB.out)⟩
                  · rw [if_neg c18] at H
                    have c18b0 : (((rd_T59 l0 t125).f2) == (wrap64 (a1_0 - 1))) = false := beq_eq_false_iff_ne.mpr c18
                    have c18b1 : (((rd_T59 l0 t125).f2) != (wrap64 (a1_0 - 1))) = true := bne_iff_ne.mpr c18
                    obtain rfl := Option.some.inj H
                    have p124 : 0 ≤ (t122 : Int) := of_decide_eq_true (by first | (with_reducible assumption) | assumption)
                    have q124 : t122 < (l0.length : Int) := of_decide_eq_true (by first | (with_reducible assumption) | assumption)
                    obtain ⟨ad124, A124_6, c124_6, A124_8, c124_8, A124_9, c124_9, A124_10, c124_10, A124_12, c124_12, e124, hx124_0, hx124_1, hx124_2, hx124_3, hx124_4, hx124_5, hx124_6, hx124_7, hx124_8, hx124_9, hx124_10, hx124_11, hx124_12, hx124_13, hl124_6, hi124_6, hl124_8, hi124_8, hl124_9, hi124_9, hl124_10, hi124_10, hl124_12, hi124_12⟩ := at_T59 HR0.out t122 p124 q124
                    cases e124
                    replace hx124_0 := (HB.out.cell (World.block_lt_of_cell? w _ hx124_0)).trans hx124_0
                    replace hx124_1 := (HB.out.cell (World.block_lt_of_cell? w _ hx124_1)).trans hx124_1
                    replace hx124_2 := (HB.out.cell (World.block_lt_of_cell? w _ hx124_2)).trans hx124_2
                    replace hx124_3 := (HB.out.cell (World.block_lt_of_cell? w _ hx124_3)).trans hx124_3
                    replace hx124_4 := (HB.out.cell (World.block_lt_of_cell? w _ hx124_4)).trans hx124_4
                    replace hx124_5 := (HB.out.cell (World.block_lt_of_cell? w _ hx124_5)).trans hx124_5
                    replace hx124_6 := (HB.out.cell (World.block_lt_of_cell? w _ hx124_6)).trans hx124_6
                    replace hx124_7 := (HB.out.cell (World.block_lt_of_cell? w _ hx124_7)).trans hx124_7
                    replace hx124_8 := (HB.out.cell (World.block_lt_of_cell? w _ hx124_8)).trans hx124_8
                    replace hx124_9 := (HB.out.cell (World.block_lt_of_cell? w _ hx124_9)).trans hx124_9
                    replace hx124_10 := (HB.out.cell (World.block_lt_of_cell? w _ hx124_10)).trans hx124_10
                    replace hx124_11 := (HB.out.cell (World.block_lt_of_cell? w _ hx124_11)).trans hx124_11
                    replace hx124_12 := (HB.out.cell (World.block_lt_of_cell? w _ hx124_12)).trans hx124_12
                    replace hx124_13 := (HB.out.cell (World.block_lt_of_cell? w _ hx124_13)).trans hx124_13
                    have HR124_6 := Aside0.mk hi124_6
                    have HC124_6 := Aside0.mk hl124_6
                    clear hi124_6 hl124_6
                    have HR124_8 := Aside0.mk hi124_8
                    have HC124_8 := Aside0.mk hl124_8
                    clear hi124_8 hl124_8
                    have HR124_9 := Aside0.mk hi124_9
                    have HC124_9 := Aside0.mk hl124_9
                    clear hi124_9 hl124_9
                    have HR124_10 := Aside0.mk hi124_10
                    have HC124_10 := Aside0.mk hl124_10
                    clear hi124_10 hl124_10
                    have HR124_12 := Aside0.mk hi124_12
                    have HC124_12 := Aside0.mk hl124_12
                    clear hi124_12 hl124_12
                    replace p124 := eq_true p124
                    replace q124 := eq_true q124
                    go_wp2_with (first | (go_at_call 54; (with_reducible refine (spec_l10At.calls kj3 _ _ l0 ((rd_T59 l0 t122).f4.f1) t125 _ ?side1 ?side2 A14.out).mono ?_); (case side1 => repeat (first | exact (Kd.C_below HR0.out HB.out) | (with_reducible refine Kd.C_alloc ?_ _) | (with_reducible refine Kd.C_drewN ?_ _) | (with_reducible refine Kd.C_drew ?_))); (case side2 => exact HC0.out); rintro e w' ⟨rfl, ⟨nd, rfl⟩⟩; (try first | exact ⟨rfl, _, World.drewN_drewN _ _ _⟩ | exact ⟨rfl, _, Eq.trans (World.drewN_drewN _ _ _) (congrArg (World.drewN _) (Nat.add_assoc _ _ _))⟩); have p126 : 0 ≤ (t125 : Int) := of_decide_eq_true (by first | (with_reducible assumption) | assumption); have q126 : t125 < (l0.length : Int) := of_decide_eq_true (by first | (with_reducible assumption) | assumption); obtain ⟨ad126, A126_6, c126_6, A126_8, c126_8, A126_9, c126_9, A126_10, c126_10, A126_12, c126_12, e126, hx126_0, hx126_1, hx126_2, hx126_3, hx126_4, hx126_5, hx126_6, hx126_7, hx126_8, hx126_9, hx126_10, hx126_11, hx126_12, hx126_13, hl126_6, hi126_6, hl126_8, hi126_8, hl126_9, hi126_9, hl126_10, hi126_10, hl126_12, hi126_12⟩ := at_T59 HR0.out t125 p126 q126; obtain rfl : ad124 = ad126 := (by injection e126); replace hx126_0 := (HB.out.cell (World.block_lt_of_cell? w _ hx126_0)).trans hx126_0; replace hx126_1 := (HB.out.cell (World.block_lt_of_cell? w _ hx126_1)).trans hx126_1; replace hx126_2 := (HB.out.cell (World.block_lt_of_cell? w _ hx126_2)).trans hx126_2; replace hx126_3 := (HB.out.cell (World.block_lt_of_cell? w _ hx126_3)).trans hx126_3; replace hx126_4 := (HB.out.cell (World.block_lt_of_cell? w _ hx126_4)).trans hx126_4; replace hx126_5 := (HB.out.cell (World.block_lt_of_cell? w _ hx126_5)).trans hx126_5; replace hx126_6 := (HB.out.cell (World.block_lt_of_cell? w _ hx126_6)).trans hx126_6; replace hx126_7 := (HB.out.cell (World.block_lt_of_cell? w _ hx126_7)).trans hx126_7; replace hx126_8 := (HB.out.cell (World.block_lt_of_cell? w _ hx126_8)).trans hx126_8; replace hx126_9 := (HB.out.cell (World.block_lt_of_cell? w _ hx126_9)).trans hx126_9; replace hx126_10 := (HB.out.cell (World.block_lt_of_cell? w _ hx126_10)).trans hx126_10; replace hx126_11 := (HB.out.cell (World.block_lt_of_cell? w _ hx126_11)).trans hx126_11; replace hx126_12 := (HB.out.cell (World.block_lt_of_cell? w _ hx126_12)).trans hx126_12; replace hx126_13 := (HB.out.cell (World.block_lt_of_cell? w _ hx126_13)).trans hx126_13; have HR126_6 := Aside0.mk hi126_6; have HC126_6 := Aside0.mk hl126_6; clear hi126_6 hl126_6; have HR126_8 := Aside0.mk hi126_8; have HC126_8 := Aside0.mk hl126_8; clear hi126_8 hl126_8; have HR126_9 := Aside0.mk hi126_9; have HC126_9 := Aside0.mk hl126_9; clear hi126_9 hl126_9; have HR126_10 := Aside0.mk hi126_10; have HC126_10 := Aside0.mk hl126_10; clear hi126_10 hl126_10; have HR126_12 := Aside0.mk hi126_12; have HC126_12 := Aside0.mk hl126_12; clear hi126_12 hl126_12; replace p126 := eq_true p126; replace q126 := eq_true q126; obtain ⟨hcz20_0, hcz20_1, hcz20_2⟩ := cells3 BK121.out; obtain ⟨hfz20_0, hfz20_1, hfz20_2⟩ := frozens3 BK121.out))
                    repeat (go_quiet (first | (go_at_call 54; (with_reducible refine (spec_l10At.calls kj3 _ _ l0 ((rd_T59 l0 t122).f4.f1) t125 _ ?side1 ?side2 A14.out).mono ?_); (case side1 => repeat (first | exact (Kd.C_below HR0.out HB.out) | (with_reducible refine Kd.C_alloc ?_ _) | (with_reducible refine Kd.C_drewN ?_ _) | (with_reducible refine Kd.C_drew ?_))); (case side2 => exact HC0.out); rintro e w' ⟨rfl, ⟨nd, rfl⟩⟩; (try first | exact ⟨rfl, _, World.drewN_drewN _ _ _⟩ | exact ⟨rfl, _, Eq.trans (World.drewN_drewN _ _ _) (congrArg (World.drewN _) (Nat.add_assoc _ _ _))⟩); have p126 : 0 ≤ (t125 : Int) := of_decide_eq_true (by first | (with_reducible assumption) | assumption); have q126 : t125 < (l0.length : Int) := of_decide_eq_true (by first | (with_reducible assumption) | assumption); obtain ⟨ad126, A126_6, c126_6, A126_8, c126_8, A126_9, c126_9, A126_10, c126_10, A126_12, c126_12, e126, hx126_0, hx126_1, hx126_2, hx126_3, hx126_4, hx126_5, hx126_6, hx126_7, hx126_8, hx126_9, hx126_10, hx126_11, hx126_12, hx126_13, hl126_6, hi126_6, hl126_8, hi126_8, hl126_9, hi126_9, hl126_10, hi126_10, hl126_12, hi126_12⟩ := at_T59 HR0.out t125 p126 q126; obtain rfl : ad124 = ad126 := (by injection e126); replace hx126_0 := (HB.out.cell (World.block_lt_of_cell? w _ hx126_0)).trans hx126_0; replace hx126_1 := (HB.out.cell (World.block_lt_of_cell? w _ hx126_1)).trans hx126_1; replace hx126_2 := (HB.out.cell (World.block_lt_of_cell? w _ hx126_2)).trans hx126_2; replace hx126_3 := (HB.out.cell (World.block_lt_of_cell? w _ hx126_3)).trans hx126_3; replace hx126_4 := (HB.out.cell (World.block_lt_of_cell? w _ hx126_4)).trans hx126_4; replace hx126_5 := (HB.out.cell (World.block_lt_of_cell? w _ hx126_5)).trans hx126_5; replace hx126_6 := (HB.out.cell (World.block_lt_of_cell? w _ hx126_6)).trans hx126_6; replace hx126_7 := (HB.out.cell (World.block_lt_of_cell? w _ hx126_7)).trans hx126_7; replace hx126_8 := (HB.out.cell (World.block_lt_of_cell? w _ hx126_8)).trans hx126_8; replace hx126_9 := (HB.out.cell (World.block_lt_of_cell? w _ hx126_9)).trans hx126_9; replace hx126_10 := (HB.out.cell (World.block_lt_of_cell? w _ hx126_10)).trans hx126_10; replace hx126_11 := (HB.out.cell (World.block_lt_of_cell? w _ hx126_11)).trans hx126_11; replace hx126_12 := (HB.out.cell (World.block_lt_of_cell? w _ hx126_12)).trans hx126_12; replace hx126_13 := (HB.out.cell (World.block_lt_of_cell? w _ hx126_13)).trans hx126_13; have HR126_6 := Aside0.mk hi126_6; have HC126_6 := Aside0.mk hl126_6; clear hi126_6 hl126_6; have HR126_8 := Aside0.mk hi126_8; have HC126_8 := Aside0.mk hl126_8; clear hi126_8 hl126_8; have HR126_9 := Aside0.mk hi126_9; have HC126_9 := Aside0.mk hl126_9; clear hi126_9 hl126_9; have HR126_10 := Aside0.mk hi126_10; have HC126_10 := Aside0.mk hl126_10; clear hi126_10 hl126_10; have HR126_12 := Aside0.mk hi126_12; have HC126_12 := Aside0.mk hl126_12; clear hi126_12 hl126_12; replace p126 := eq_true p126; replace q126 := eq_true q126; obtain ⟨hcz20_0, hcz20_1, hcz20_2⟩ := cells3 BK121.out; obtain ⟨hfz20_0, hfz20_1, hfz20_2⟩ := frozens3 BK121.out)); try go_wp2_with (first | (go_at_call 54; (with_reducible refine (spec_l10At.calls kj3 _ _ l0 ((rd_T59 l0 t122).f4.f1) t125 _ ?side1 ?side2 A14.out).mono ?_); (case side1 => repeat (first | exact (Kd.C_below HR0.out HB.out) | (with_reducible refine Kd.C_alloc ?_ _) | (with_reducible refine Kd.C_drewN ?_ _) | (with_reducible refine Kd.C_drew ?_))); (case side2 => exact HC0.out); rintro e w' ⟨rfl, ⟨nd, rfl⟩⟩; (try first | exact ⟨rfl, _, World.drewN_drewN _ _ _⟩ | exact ⟨rfl, _, Eq.trans (World.drewN_drewN _ _ _) (congrArg (World.drewN _) (Nat.add_assoc _ _ _))⟩); have p126 : 0 ≤ (t125 : Int) := of_decide_eq_true (by first | (with_reducible assumption) | assumption); have q126 : t125 < (l0.length : Int) := of_decide_eq_true (by first | (with_reducible assumption) | assumption); obtain ⟨ad126, A126_6, c126_6, A126_8, c126_8, A126_9, c126_9, A126_10, c126_10, A126_12, c126_12, e126, hx126_0, hx126_1, hx126_2, hx126_3, hx126_4, hx126_5, hx126_6, hx126_7, hx126_8, hx126_9, hx126_10, hx126_11, hx126_12, hx126_13, hl126_6, hi126_6, hl126_8, hi126_8, hl126_9, hi126_9, hl126_10, hi126_10, hl126_12, hi126_12⟩ := at_T59 HR0.out t125 p126 q126; obtain rfl : ad124 = ad126 := (by injection e126); replace hx126_0 := (HB.out.cell (World.block_lt_of_cell? w _ hx126_0)).trans hx126_0; replace hx126_1 := (HB.out.cell (World.block_lt_of_cell? w _ hx126_1)).trans hx126_1; replace hx126_2 := (HB.out.cell (World.block_lt_of_cell? w _ hx126_2)).trans hx126_2; replace hx126_3 := (HB.out.cell (World.block_lt_of_cell? w _ hx126_3)).trans hx126_3; replace hx126_4 := (HB.out.cell (World.block_lt_of_cell? w _ hx126_4)).trans hx126_4; replace hx126_5 := (HB.out.cell (World.block_lt_of_cell? w _ hx126_5)).trans hx126_5; replace hx126_6 := (HB.out.cell (World.block_lt_of_cell? w _ hx126_6)).trans hx126_6; replace hx126_7 := (HB.out.cell (World.block_lt_of_cell? w _ hx126_7)).trans hx126_7; replace hx126_8 := (HB.out.cell (World.block_lt_of_cell? w _ hx126_8)).trans hx126_8; replace hx126_9 := (HB.out.cell (World.block_lt_of_cell? w _ hx126_9)).trans hx126_9; replace hx126_10 := (HB.out.cell (World.block_lt_of_cell? w _ hx126_10)).trans hx126_10; replace hx126_11 := (HB.out.cell (World.block_lt_of_cell? w _ hx126_11)).trans hx126_11; replace hx126_12 := (HB.out.cell (World.block_lt_of_cell? w _ hx126_12)).trans hx126_12; replace hx126_13 := (HB.out.cell (World.block_lt_of_cell? w _ hx126_13)).trans hx126_13; have HR126_6 := Aside0.mk hi126_6; have HC126_6 := Aside0.mk hl126_6; clear hi126_6 hl126_6; have HR126_8 := Aside0.mk hi126_8; have HC126_8 := Aside0.mk hl126_8; clear hi126_8 hl126_8; have HR126_9 := Aside0.mk hi126_9; have HC126_9 := Aside0.mk hl126_9; clear hi126_9 hl126_9; have HR126_10 := Aside0.mk hi126_10; have HC126_10 := Aside0.mk hl126_10; clear hi126_10 hl126_10; have HR126_12 := Aside0.mk hi126_12; have HC126_12 := Aside0.mk hl126_12; clear hi126_12 hl126_12; replace p126 := eq_true p126; replace q126 := eq_true q126; obtain ⟨hcz20_0, hcz20_1, hcz20_2⟩ := cells3 BK121.out; obtain ⟨hfz20_0, hfz20_1, hfz20_2⟩ := frozens3 BK121.out)))
                    go_ret
                    exact ⟨by first | rfl | (simp [errW_none, errW_some] <;> rfl) | (simp [*, errW_none, errW_some] <;> rfl), by repeat (first | (with_reducible first | exact HB.out | apply below_alloc | apply pw_below_drewN | apply below_drew1 | refine below_set ?_ GE121.out) | exact HB.out)⟩
                · rw [if_neg c17] at H
                  exact absurd H (by simp)
              · rw [if_neg c16] at H
                exact absurd H (by simp)
          · rw [if_neg c13] at H
            exact absurd H (by simp)
        · rw [if_neg c12] at H
          exact absurd H (by simp)

theorem spec_CommitOf.is {l : List S59} {r b : Int} {who : List ByteArray} (hl : l.length ≤ maxLen) : Ev (fun k => spec_CommitOf.f k l r b who) (commitOf l r b) := by
  have h0 := idAt_lo l b
  have h1 := idAt_hi l b
  have h2 := idAt_lo l (aheadOf l (idAt l b))
  have h3 := idAt_hi l (aheadOf l (idAt l b))
  unfold spec_CommitOf.f commitOf
  refine Ev.bind (spec_l10At.is hl) (Ev.cond (fun hc => ?_) (fun hc => ?_))
  · rw [if_neg (by omega)]
    refine Ev.up ?_
    simp only [spec_CommitOf.j0]
    exact Ev.yes (by first | trivial | rfl) (Ev.now _)
  · refine Ev.yes (by omega) (Ev.yes (by omega) (Ev.up ?_))
    simp only [spec_CommitOf.j0, bne_iff_ne, ne_eq]
    refine Ev.cond (fun hd => ?_) (fun hd => ?_)
    · rw [if_neg (fun h => hd h.2)]
      exact Ev.now _
    · have hd := Classical.not_not.1 hd
      rw [if_pos ⟨by omega, hd⟩]
      refine Ev.yes (by omega) (Ev.yes (by omega) (Ev.bind (spec_l10At.is hl) ?_))
      show Ev (fun _ => if idAt l (aheadOf l (idAt l b)) < 0 then some (-1) else (if 0 ≤ idAt l (aheadOf l (idAt l b)) then (if idAt l (aheadOf l (idAt l b)) < (l.length : Int) then (if (rd_T59 l (idAt l (aheadOf l (idAt l b)))).f2 = wrap64 (r - 1) then some (rd_T59 l (idAt l (aheadOf l (idAt l b)))).f0 else some (-1)) else none) else none)) _
      refine Ev.cond (fun he => Ev.is (by rw [if_neg (by omega)])) (fun he => Ev.yes (by omega) (Ev.yes (by omega) (Ev.cond (fun hf => Ev.is ?_) (fun hf => Ev.is ?_))))
      · rw [if_pos ⟨by omega, hf⟩]
        rfl
      · rw [if_neg (fun h => hf h.2)]

end Go.Proofs.Ytnldeeefiidcaaa.F
