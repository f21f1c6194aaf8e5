/-
Functions of the program, what they come to, and that Go comes to just that: slices_Clone_int_int, impl_copyTc, impl_Tx, impl_Val_213, impl_copyBlock, impl_BlockAt, laws_heldBlock.
Conditions: those that each theorem names.
-/
import Derived.Test.YtadkhkpchankjaaFAbs
import Derived.Test.YtadkhkpchankjaaF40
import Derived.Test.YtadkhkpchankjaaF42
import Derived.Test.YtadkhkpchankjaaF43
import Derived.Test.YtadkhkpchankjaaF47
import Derived.Test.YtadkhkpchankjaaF48
import Derived.Test.YtadkhkpchankjaaF50
import Derived.Test.YtadkhkpchankjaaF51
import Derived.Test.YtadkhkpchankjaaF54
import Derived.Test.YtadkhkpchankjaaF56
import Derived.Test.YtadkhkpchankjaaF60
import Derived.Test.YtadkhkpchankjaaF65
import Derived.Test.YtadkhkpchankjaaF69
import Derived.Test.YtadkhkpchankjaaF75
import Derived.Test.YtadkhkpchankjaaWApart
import Derived.Test.YtadkhkpchankjaaWN
import Derived.Test.YtadkhkpchankjaaWMore
import Derived.Lib.SliceRun
set_option linter.unusedVariables false
set_option linter.unusedSimpArgs false
namespace Go.Proofs.Ytadkhkpchankjaa.F
open Go.RowKit Go.Proofs.YtadkhkpchankjaaW.PrintWords Go.Proofs.YtadkhkpchankjaaW.PrintLast Go.Proofs.Ytadkhkpchankjaa.Base Go.Proofs.Ytadkhkpchankjaa.BW
open Go.Proofs.YtadkhkpchankjaaW.PrintMore
attribute [local go_sem] max2_int min2_int max_two min_two max_three min_three max_four min_four   -- for this text's walks alone

/-! ### slices_Clone_int_int: function 232 -/
def slices_Clone_int_int.f (l0 : List Int) : Option (List Int) := (some (([] : List Int) : List Int)).bind fun y1982 => (if y1982.length + l0.length < 17592186044416 then (some (y1982 ++ l0)) else (none))
set_option maxHeartbeats 8000000 in
set_option maxRecDepth 100000 in
theorem slices_Clone_int_int.calls (A0 : Option Addr) (c0 : Nat) (l0 : List Int) (r : List Int) (w : World) (hr0 : Kd.C (Kd.int .i64) w A0 l0.length l0) (hc0 : l0.length ≤ c0) (h : slices_Clone_int_int.f l0 = some r) :
    Calls Try.prog 232 #[.slice A0 l0.length c0] w fun e w' => ∃ v0_ : Value, e = .returned (v0_) ∧ Kd.R (Kd.int .i64) 3 w' w.heap.size (fun _ => True) v0_ r ∧ Below w.heap.size w w' := by
  rcases A0 with _ | ad0
  · obtain rfl : l0 = [] := by
      cases l0 with
      | nil => rfl
      | cons x xs =>
        obtain ⟨_, _, e, _⟩ := Kd.C_get hr0 x 0 (Int.le_refl _) (by simp)
        cases e
    obtain rfl : r = [] := (Option.some.inj ((show slices_Clone_int_int.f [] = some [] from rfl).symm.trans h)).symm
    clear hr0 hc0 h
    have q_ : ∀ (w : World) (n c n' c' : Nat), (binOp .eql 58 (.slice none n c) (.slice none n' c')).run Try.prog w = .ok (.bool true) w := fun w n c n' c' => Lib.run_eql_slice_nil w _ _ none n c n' c' Try.underlying58
    go_enter Try.func232, Try.ntmps232
    go_wp2
    go_ret
    exact ⟨.slice none 0 0, rfl, Kd.R_nil _ _ _ _ _, Below.refl _ _⟩
  have q_ : ∀ (w : World) (n c n' c' : Nat), (binOp .eql 58 (.slice (some ad0) n c) (.slice none n' c')).run Try.prog w = .ok (.bool false) w := fun w n c n' c' => Lib.run_eql_slice_nil w _ _ (some ad0) n c n' c' Try.underlying58
  have HR0 := Aside0.mk hr0
  have HC0 := Aside0.mk hc0
  clear hr0 hc0
  have HB := Aside0.mk (Below.refl w.heap.size w)
  have H : ((some (([] : List Int) : List Int)).bind fun y1982 => (if y1982.length + l0.length < 17592186044416 then (some (y1982 ++ l0)) else (none))) = some r := h
  clear h
  obtain ⟨y1982, hy1982⟩ : ∃ y_ : List Int, y_ = (([] : List Int)) := ⟨_, rfl⟩
  replace H : (if y1982.length + l0.length < 17592186044416 then (some (y1982 ++ l0)) else (none)) = some r := by first | (rw [hy1982]; with_reducible exact H) | (have H2_ := (Option.bind_some _ _).symm.trans H; rw [hy1982]; with_reducible exact H2_) | (have H2_ := (Option.bind_some _ _).symm.trans H; with_reducible exact H2_) | with_reducible exact H | (rw [hy1982]; exact H) | exact H
  have Ny1982 := Aside0.mk hy1982
  clear hy1982
  by_cases c2 : y1982.length + l0.length < 17592186044416
  · rw [if_pos c2] at H
    have LMc2 := Aside0.mk c2
    clear c2
    obtain ⟨y1985, hy1985⟩ : ∃ y_ : List Int, y_ = (y1982 ++ l0) := ⟨_, rfl⟩
    replace H : (some y1985) = some r := by first | (rw [hy1985]; with_reducible exact H) | (have H2_ := (Option.bind_some _ _).symm.trans H; rw [hy1985]; with_reducible exact H2_) | (have H2_ := (Option.bind_some _ _).symm.trans H; with_reducible exact H2_) | with_reducible exact H | (rw [hy1985]; exact H) | exact H
    have Ny1985 := Aside0.mk hy1985
    clear hy1985
    obtain rfl := Option.some.inj H
    go_enter Try.func232, Try.ntmps232
    go_wp2_with (first | ((with_reducible refine gate_dst (N := 5) rfl ?_); refine Kd.R_lit (Kd.int .i64) _ 3 ?hg (N := 5) ?hd (xs := ([] : List Int)) (inner := []) (ok := fun _ => True) (okp := fun _ => True) ?hr ?hp (fun _ hk => hk) trivial (Below.refl _ _) (Nat.le_refl _) (by simp) ?_; (case hd => rfl); (case hg => rfl); (case hr => (try clear q_); first | (go_simp; done) | (go_simp; rfl)); (case hp => exact (Reps.none _ _)); (try clear q_); intro v1983 w3 ho4 hb hg_ hnew_; clear hg_ hnew_; (first | rw [← Ny1982.out] at ho4 | (simp only [Int.reduceToNat] at ho4; rw [← Ny1982.out] at ho4)); have n0_ := Aside0.mk (Kd.R_lower ho4 (below_size (by repeat (first | (with_reducible first | exact HB.out | apply below_alloc | apply pw_below_drewN | apply below_drew1) | exact HB.out)))); have n1_ := Aside0.mk (below_step (by repeat (first | (with_reducible first | exact HB.out | apply below_alloc | apply pw_below_drewN | apply below_drew1) | exact HB.out)) hb); clear HB; have HO1984 := n0_; have HB := n1_; clear n0_ n1_; clear hb ho4) | ((with_reducible refine gate_builtin (b := .append) (xs := #[.tmp 5, .tmp 6]) rfl ?_); at_builtin; refine Kd.R_append_rows (Kd.int .i64) (w0 := w) w.heap.size rfl (.tmp 5) (.tmp 6) 58 3 (.int .i64 0) 8 rfl Try.underlying58 info3 rfl (by decide) (by omega) v1983 y1982 l0 _ _ _ (fun _ => True) (fun _ => False) rfl rfl ?aO ?aR (fun _ _ h => h) (fun _ h => h.elim) ?aF ?aB ?aS ?aL ?_; (case aR => repeat (first | exact (Kd.C_below HR0.out HB.out) | (with_reducible refine Kd.C_alloc ?_ _) | (with_reducible refine Kd.C_drewN ?_ _) | (with_reducible refine Kd.C_drew ?_))); (case aB => exact (by repeat (first | (with_reducible first | exact HB.out | apply below_alloc | apply pw_below_drewN | apply below_drew1) | exact HB.out))); (case aF => exact (fun _ _ => trivial)); (case aO => exact (by (with_reducible repeat (first | apply Kd.R_alloc | apply Kd.R_drewN | apply Kd.R_drew)); exact HO1984.out)); (case aS => exact (below_size (by repeat (first | (with_reducible first | exact HB.out | apply below_alloc | apply pw_below_drewN | apply below_drew1) | exact HB.out)))); (case aL => have := LMc2.out; omega); (try clear q_); intro v1986 w5 ho hb hg hat; rw [← Ny1985.out] at ho; have n0_ := Aside0.mk (hb); have n1_ := Aside0.mk (ho); clear HB; clear HO1984; have HB := n0_; have HO1987 := n1_; clear n0_ n1_; clear ho hb hg hat))
    go_ret
    exact ⟨_, by first | rfl | (simp [errW_none, errW_some] <;> rfl) | (simp [*, errW_none, errW_some] <;> rfl), by (with_reducible repeat (first | apply Kd.R_alloc | apply Kd.R_drewN | apply Kd.R_drew)); exact HO1987.out, by repeat (first | (with_reducible first | exact HB.out | apply below_alloc | apply pw_below_drewN | apply below_drew1) | exact HB.out)⟩
  · rw [if_neg c2] at H
    exact absurd H (by simp)

/-! ### impl_copyTc: function 211 -/
def impl_copyTc.f (a0_0 : Int) (l0_1 : List ByteArray) (l0_2 : List Int) : Option (Int × List ByteArray × List Int) := (slices_Clone_string_string.f l0_1).bind fun t1990 => ((slices_Clone_int_int.f l0_2).bind fun t1993 => (some (a0_0, t1990, t1993)))
def impl_copyTc.T1 : Bool × List (List Nat × List Nat) := (true, [([], []), ([0], [0]), ([1], [1]), ([], []), ([3], [3]), ([4, 2], [4]), ([0, 1, 2, 3, 4], []), ([6, 2, 5, 0, 1, 2, 3, 4], [2, 6]), ([0, 1, 2, 3, 4, 5, 6, 7], []), ([8, 5, 7, 0, 1, 2, 3, 4, 5, 6, 7], [5, 8])])
def impl_copyTc.B1 : List Nat := [0, 1, 3, 0, 8, 31, 31, 127, 255, 511]
theorem impl_copyTc.tab1 : rtab .any (opsOf Try.f211 1) = impl_copyTc.T1 := by kernel_rfl
theorem impl_copyTc.bits1 : waitsOk impl_copyTc.T1.2 impl_copyTc.B1 = true := by kernel_rfl
set_option maxHeartbeats 8000000 in
set_option maxRecDepth 100000 in
theorem impl_copyTc.calls (a0_0 : Int) (A0_1 : Option Addr) (c0_1 : Nat) (l0_1 : List ByteArray) (A0_2 : Option Addr) (c0_2 : Nat) (l0_2 : List Int) (r1 : Int) (r2 : List ByteArray) (r3 : List Int) (w : World) (hr0_1 : Kd.C Kd.string w A0_1 l0_1.length l0_1) (hc0_1 : l0_1.length ≤ c0_1) (hr0_2 : Kd.C (Kd.int .i64) w A0_2 l0_2.length l0_2) (hc0_2 : l0_2.length ≤ c0_2) (h : impl_copyTc.f a0_0 l0_1 l0_2 = some (r1, r2, r3)) :
    Calls Try.prog 211 #[.agg #[.int .i64 a0_0, .slice A0_1 l0_1.length c0_1, .slice A0_2 l0_2.length c0_2]] w fun e w' => ∃ v1_ v2_ : Value, e = .returned (.agg #[.int .i64 r1, v1_, v2_]) ∧ Kd.R Kd.string 9 w' w.heap.size (fun _ => True) v1_ r2 ∧ Kd.R (Kd.int .i64) 3 w' w.heap.size (fun _ => True) v2_ r3 ∧ Below w.heap.size w w' := by
  have hu60 := Try.underlying60
  have HR0_1 := Aside0.mk hr0_1
  have HC0_1 := Aside0.mk hc0_1
  clear hr0_1 hc0_1
  have HR0_2 := Aside0.mk hr0_2
  have HC0_2 := Aside0.mk hc0_2
  clear hr0_2 hc0_2
  have HB := Aside0.mk (Below.refl w.heap.size w)
  have H : ((slices_Clone_string_string.f l0_1).bind fun t1990 => ((slices_Clone_int_int.f l0_2).bind fun t1993 => (some (a0_0, t1990, t1993)))) = some (r1, r2, r3) := h
  clear h
  replace H := Option.bind_eq_some_iff.mp H
  obtain ⟨t1990, A20, H⟩ := H
  replace H : ((slices_Clone_int_int.f l0_2).bind fun t1993 => (some (a0_0, t1990, t1993))) = some (r1, r2, r3) := H
  have A2 := Aside0.mk A20
  clear A20
  replace H := Option.bind_eq_some_iff.mp H
  obtain ⟨t1993, A30, H⟩ := H
  replace H : (some (a0_0, t1990, t1993)) = some (r1, r2, r3) := H
  have A3 := Aside0.mk A30
  clear A30
  simp only [Option.some.injEq, Prod.mk.injEq] at H
  obtain ⟨rfl, rfl, rfl⟩ := H
  go_enter Try.func211, Try.ntmps211
  try go_wp2_with (first | ((with_reducible refine gate_dst (N := 1) rfl ?_); refine box_event ?hg (N := 1) ?hd (cs := #[.int .i64 a0_0, .slice A0_1 l0_1.length c0_1, .slice A0_2 l0_2.length c0_2]) (t := 60) ?hr ?_; (case hd => rfl); (case hg => rfl); (case hr => first | (go_simp; done) | (go_simp; rfl)); intro gb1988 hg w4 hbox hb; have n0_ := Aside0.mk (below_step (by repeat (first | (with_reducible first | exact HB.out | apply below_alloc | apply pw_below_drewN | apply below_drew1) | exact HB.out)) hb); have n1_ := Aside0.mk (hbox); have n2_ := Aside0.mk ((by rw [hg]; exact (below_size (by repeat (first | (with_reducible first | exact HB.out | apply below_alloc | apply pw_below_drewN | apply below_drew1) | exact HB.out))) : w.heap.size ≤ gb1988)); have n3_ := n2_; clear HB; have HB := n0_; have BK1988 := n1_; have GW1988 := n2_; have GE1988 := n3_; clear n0_ n1_ n2_ n3_; clear hb hbox hg) | ((with_reducible refine gate_dst (N := 2) rfl ?_); refine box_event ?hg (N := 2) ?hd (cs := #[.int .i64 0, .slice none 0 0, .slice none 0 0]) (t := 60) ?hr ?_; (case hd => rfl); (case hg => rfl); (case hr => first | (go_simp; done) | (go_simp; rfl)); intro gb1989 hg w5 hbox hb; have n0_ := Aside0.mk (blk_below (g := gb1988) (by (with_reducible repeat (first | refine blk_drewN ?_ _ | refine blk_drew ?_ | refine blk_alloc ?_ _)); exact BK1988.out) hb); have n1_ := Aside0.mk (below_step (by repeat (first | (with_reducible first | exact HB.out | apply below_alloc | apply pw_below_drewN | apply below_drew1 | refine below_set ?_ GE1988.out) | exact HB.out)) hb); have n2_ := Aside0.mk (hbox); have n3_ := Aside0.mk ((by rw [hg]; exact (below_size (by repeat (first | (with_reducible first | exact HB.out | apply below_alloc | apply pw_below_drewN | apply below_drew1 | refine below_set ?_ GE1988.out) | exact HB.out))) : w.heap.size ≤ gb1989)); have n4_ := Aside0.mk ((by rw [hg]; exact (below_size (by repeat (first | (with_reducible first | exact HB.out | apply below_alloc | apply pw_below_drewN | apply below_drew1 | refine below_set ?_ GE1988.out) | exact HB.out))) : w.heap.size ≤ gb1989)); have n5_ := Aside0.mk ((by rw [hg]; exact Nat.ne_of_lt (blk_lt (g := gb1988) (o := .cells #[.int .i64 a0_0, .slice A0_1 l0_1.length c0_1, .slice A0_2 l0_2.length c0_2] 60 (0, 0)) (by (with_reducible repeat (first | refine blk_drewN ?_ _ | refine blk_drew ?_ | refine blk_alloc ?_ _)); exact BK1988.out)) : gb1988 ≠ gb1989)); have n6_ := Aside0.mk ((by rw [hg]; exact Nat.ne_of_gt (blk_lt (g := gb1988) (o := .cells #[.int .i64 a0_0, .slice A0_1 l0_1.length c0_1, .slice A0_2 l0_2.length c0_2] 60 (0, 0)) (by (with_reducible repeat (first | refine blk_drewN ?_ _ | refine blk_drew ?_ | refine blk_alloc ?_ _)); exact BK1988.out)) : gb1989 ≠ gb1988)); clear BK1988; clear HB; have BK1988 := n0_; have HB := n1_; have BK1989 := n2_; have GW1989 := n3_; have GE1989 := n4_; have NB1988_1989 := n5_; have NB1989_1988 := n6_; clear n0_ n1_ n2_ n3_ n4_ n5_ n6_; clear hb hbox hg))
  have n0_ := Aside0.mk (blk_drew BK1988.out)
  have n1_ := Aside0.mk (blk_drew BK1989.out)
  have n2_ := Aside0.mk (below_drew1 HB.out)
  clear BK1988
  clear BK1989
  clear HB
  have BK1988 := n0_
  have BK1989 := n1_
  have HB := n2_
  clear n0_ n1_ n2_
  refine start_ (n := 10) (S := fun w' => w'.cell? ⟨gb1988, 0, none⟩ = some (.int .i64 a0_0) ∧ w'.cell? ⟨gb1988, 1, none⟩ = some (.slice A0_1 l0_1.length c0_1) ∧ w'.cell? ⟨gb1988, 2, none⟩ = some (.slice A0_2 l0_2.length c0_2)) (ds := [7, 9]) #[false, false, false, false, false, false, false, false, false, false] (by kernel_rfl) rfl rfl ⟨(blk_cell BK1988.out 0).trans rfl, (blk_cell BK1988.out 1).trans rfl, (blk_cell BK1988.out 2).trans rfl⟩ (fun hHeld => ?_); refine with_tabW impl_copyTc.tab1 impl_copyTc.bits1 (fun HT_ HW_ => ?_)
  generalize w5.drew = w6 at BK1988 BK1989 HB hHeld ⊢
  refine pure_ (i := 0) (N := some 3) (v := ?_) (a' := ?_) #[true, false, false, false, false, false, false, false, false, false] rfl rfl (any_of HT_.out (by kernel_rfl)) (fun _ _ _ h => h) (Or.inl ⟨by rfl, ?_⟩) ?_ ?_
  rotate_left
  · intro w'
    go_simp
    with_reducible rfl
  rotate_left
  · simp only [Act.put, List.setIfInBounds_toArray, List.set_cons_zero, List.set_cons_succ, i64_w, i32_w]
    rfl
  refine pure_ (i := 3) (N := some 6) (v := ?_) (a' := ?_) #[true, false, false, true, false, false, false, false, false, false] rfl rfl (any_of HT_.out (by kernel_rfl)) (fun _ _ _ h => h) (Or.inl ⟨by rfl, ?_⟩) ?_ ?_
  rotate_left
  · intro w'
    go_simp
    with_reducible rfl
  rotate_left
  · simp only [Act.put, List.setIfInBounds_toArray, List.set_cons_zero, List.set_cons_succ, i64_w, i32_w]
    rfl
  refine take_ (i := 1) (N := some 4) (v := ?_) (a' := ?_) #[true, true, false, true, false, false, false, false, false, false] rfl rfl (take_ofW HT_.out HW_.out (by kernel_rfl)) (fun _ _ _ h => h) (Or.inl ⟨by rfl, ?_⟩) hHeld ?_ ?_
  rotate_left
  · rintro w' ⟨s0, s1, s2⟩
    go_simp
    with_reducible rfl
  rotate_left
  · simp only [Act.put, List.setIfInBounds_toArray, List.set_cons_zero, List.set_cons_succ, i64_w, i32_w]
    rfl
  refine take_ (i := 4) (N := some 7) (v := ?_) (a' := ?_) #[true, true, false, true, true, false, false, false, false, false] rfl rfl (take_ofW HT_.out HW_.out (by kernel_rfl)) (fun _ _ _ h => h) (Or.inl ⟨by rfl, ?_⟩) hHeld ?_ ?_
  rotate_left
  · rintro w' ⟨s0, s1, s2⟩
    go_simp
    with_reducible rfl
  rotate_left
  · simp only [Act.put, List.setIfInBounds_toArray, List.set_cons_zero, List.set_cons_succ, i64_w, i32_w]
    rfl
  refine one_ (i := 2) (N := some 5) #[true, true, true, true, true, false, false, false, false, false] rfl rfl (one_of HT_.out (by kernel_rfl)) (by decide) (fun K hK => ?_)
  refine goes_ Try.func231 (by kernel_rfl) rfl #[.slice A0_1 l0_1.length c0_1] (by rfl) rfl rfl (by (try simp only [List.map_toArray, List.map_cons, List.map_nil]); first | done | rfl | (simp only [List.length_drop, List.length_take]; rfl)) ?_
  with_reducible refine (slices_Clone_string_string.calls _ _ l0_1 t1990 _ ?side1 ?side2 A2.out).mono ?_
  (case side1 => repeat (first | exact (Kd.C_below HR0_1.out HB.out) | (with_reducible refine Kd.C_alloc ?_ _) | (with_reducible refine Kd.C_drewN ?_ _) | (with_reducible refine Kd.C_drew ?_)))
  (case side2 => exact HC0_1.out)
  rintro e w7 ⟨v1991, rfl, ho0, hb⟩
  refine ⟨_, rfl, ?_⟩
  have n0_ := Aside0.mk (Kd.R_lower ho0 (below_size (by repeat (first | (with_reducible first | exact HB.out | apply below_alloc | apply pw_below_drewN | apply below_drew1 | refine below_set ?_ GE1988.out | refine below_set ?_ GE1989.out) | exact HB.out))))
  have n1_ := Aside0.mk (blk_below (g := gb1988) (by (with_reducible repeat (first | refine blk_drewN ?_ _ | refine blk_drew ?_ | refine blk_alloc ?_ _)); exact BK1988.out) hb)
  have n2_ := Aside0.mk (blk_below (g := gb1989) (by (with_reducible repeat (first | refine blk_drewN ?_ _ | refine blk_drew ?_ | refine blk_alloc ?_ _)); exact BK1989.out) hb)
  have n3_ := Aside0.mk (below_step (by repeat (first | (with_reducible first | exact HB.out | apply below_alloc | apply pw_below_drewN | apply below_drew1 | refine below_set ?_ GE1988.out | refine below_set ?_ GE1989.out) | exact HB.out)) hb)
  clear BK1988
  clear BK1989
  clear HB
  have HO1992 := n0_
  have BK1988 := n1_
  have BK1989 := n2_
  have HB := n3_
  clear n0_ n1_ n2_ n3_
  (try clear hb)
  (try clear hb2)
  (try clear hk)
  (try clear hi)
  (try clear ho0)
  refine hK.out _ _ ⟨(blk_cell BK1988.out 0).trans rfl, (blk_cell BK1988.out 1).trans rfl, (blk_cell BK1988.out 2).trans rfl⟩ (fun hHeld => ?_)
  clear hK K
  refine norm_ (a' := ?_) ?_ ?_
  rotate_left
  · show Act.put _ (some 5) _ = _
    simp only [Act.put, List.setIfInBounds_toArray, List.set_cons_zero, List.set_cons_succ, i64_w, i32_w]
    rfl
  refine pure_ (i := 6) (N := some 9) (v := ?_) (a' := ?_) #[true, true, true, true, true, false, true, false, false, false] rfl rfl (any_of HT_.out (by kernel_rfl)) (fun _ _ _ h => h) (Or.inl ⟨by rfl, ?_⟩) ?_ ?_
  rotate_left
  · intro w'
    go_simp
    with_reducible rfl
  rotate_left
  · simp only [Act.put, List.setIfInBounds_toArray, List.set_cons_zero, List.set_cons_succ, i64_w, i32_w]
    rfl
  refine one_ (i := 5) (N := some 8) #[true, true, true, true, true, true, true, false, false, false] rfl rfl (one_of HT_.out (by kernel_rfl)) (by decide) (fun K hK => ?_)
  refine goes_ Try.func232 (by kernel_rfl) rfl #[.slice A0_2 l0_2.length c0_2] (by rfl) rfl rfl (by (try simp only [List.map_toArray, List.map_cons, List.map_nil]); first | done | rfl | (simp only [List.length_drop, List.length_take]; rfl)) ?_
  with_reducible refine (slices_Clone_int_int.calls _ _ l0_2 t1993 _ ?side1 ?side2 A3.out).mono ?_
  (case side1 => repeat (first | exact (Kd.C_below HR0_2.out HB.out) | (with_reducible refine Kd.C_alloc ?_ _) | (with_reducible refine Kd.C_drewN ?_ _) | (with_reducible refine Kd.C_drew ?_)))
  (case side2 => exact HC0_2.out)
  rintro e w8 ⟨v1994, rfl, ho0, hb⟩
  refine ⟨_, rfl, ?_⟩
  have n0_ := Aside0.mk (Kd.R_below (by (with_reducible repeat (first | apply Kd.R_alloc | apply Kd.R_drewN | apply Kd.R_drew)); exact HO1992.out) hb)
  have n1_ := Aside0.mk (Kd.R_lower ho0 (below_size (by repeat (first | (with_reducible first | exact HB.out | apply below_alloc | apply pw_below_drewN | apply below_drew1 | refine below_set ?_ GE1988.out | refine below_set ?_ GE1989.out) | exact HB.out))))
  have n2_ := Aside0.mk (blk_below (g := gb1988) (by (with_reducible repeat (first | refine blk_drewN ?_ _ | refine blk_drew ?_ | refine blk_alloc ?_ _)); exact BK1988.out) hb)
  have n3_ := Aside0.mk (blk_below (g := gb1989) (by (with_reducible repeat (first | refine blk_drewN ?_ _ | refine blk_drew ?_ | refine blk_alloc ?_ _)); exact BK1989.out) hb)
  have n4_ := Aside0.mk (below_step (by repeat (first | (with_reducible first | exact HB.out | apply below_alloc | apply pw_below_drewN | apply below_drew1 | refine below_set ?_ GE1988.out | refine below_set ?_ GE1989.out) | exact HB.out)) hb)
  clear HO1992
  clear BK1988
  clear BK1989
  clear HB
  have HO1992 := n0_
  have HO1995 := n1_
  have BK1988 := n2_
  have BK1989 := n3_
  have HB := n4_
  clear n0_ n1_ n2_ n3_ n4_
  (try clear hb)
  (try clear hb2)
  (try clear hk)
  (try clear hi)
  (try clear ho0)
  obtain ⟨Ao9, co9, eo9⟩ := Kd.R_slice HO1992.out
  (first | subst eo9 | (injection eo9 with f1_ f2_ f3_; have f4_ := f1_.symm; have f5_ := f3_.symm; clear f1_ f2_ f3_; subst f4_; subst f5_))
  obtain ⟨Ao11, co11, eo11⟩ := Kd.R_slice HO1995.out
  (first | subst eo11 | (injection eo11 with f1_ f2_ f3_; have f4_ := f1_.symm; have f5_ := f3_.symm; clear f1_ f2_ f3_; subst f4_; subst f5_))
  refine hK.out _ _ ⟨(blk_cell BK1988.out 0).trans rfl, (blk_cell BK1988.out 1).trans rfl, (blk_cell BK1988.out 2).trans rfl⟩ (fun hHeld => ?_)
  clear hK K
  refine norm_ (a' := ?_) ?_ ?_
  rotate_left
  · show Act.put _ (some 8) _ = _
    simp only [Act.put, List.setIfInBounds_toArray, List.set_cons_zero, List.set_cons_succ, i64_w, i32_w]
    rfl
  refine last_ (i := 7) (N := none) #[true, true, true, true, true, true, true, true, false, false] rfl rfl (one_of HT_.out (by kernel_rfl)) (by decide) (fun K hK => ?_)
  have hs10 : w8.cell? ⟨gb1988, 1, none⟩ = some (.slice A0_1 l0_1.length c0_1) := (blk_cell BK1988.out 1).trans rfl
  have hfs10 := blk_frozen BK1988.out 1
  have hns10_1 := NB1989_1988.out
  have hms10_1 := NB1988_1989.out
  refine skip_ (w1 := ?_) (by rfl) rfl ?_ ?_
  rotate_left
  · go_simp
    rfl
  refine hK.out _ _ ?_
  clear hK K
  refine pure_ (i := 8) (N := some 10) (v := ?_) (a' := ?_) #[true, true, true, true, true, true, true, true, true, false] rfl rfl (any_of HT_.out (by kernel_rfl)) (fun _ _ _ h => h) (Or.inl ⟨by rfl, ?_⟩) ?_ ?_
  rotate_left
  · intro w'
    go_simp
    with_reducible rfl
  rotate_left
  · simp only [Act.put, List.setIfInBounds_toArray, List.set_cons_zero, List.set_cons_succ, i64_w, i32_w]
    rfl
  refine last_ (i := 9) (N := none) #[true, true, true, true, true, true, true, true, true, true] rfl rfl (one_of HT_.out (by kernel_rfl)) (by decide) (fun K hK => ?_)
  have hs12 : w8.cell? ⟨gb1988, 2, none⟩ = some (.slice A0_2 l0_2.length c0_2) := (blk_cell BK1988.out 2).trans rfl
  have hfs12 := blk_frozen BK1988.out 2
  have hns12_1 := NB1989_1988.out
  have hms12_1 := NB1988_1989.out
  refine skip_ (w1 := ?_) (by rfl) rfl ?_ ?_
  rotate_left
  · go_simp
    rfl
  refine hK.out _ _ ?_
  clear hK K
  refine done_ (done_of HT_.out (by kernel_rfl)) ?_
  have hnb13 := NB1988_1989.out
  have hnc13 := NB1989_1988.out
  obtain ⟨hcz14_0, hcz14_1, hcz14_2⟩ := cells3 BK1988.out
  obtain ⟨hfz14_0, hfz14_1, hfz14_2⟩ := frozens3 BK1988.out
  obtain ⟨hcz15_0, hcz15_1, hcz15_2⟩ := cells3 BK1989.out
  obtain ⟨hfz15_0, hfz15_1, hfz15_2⟩ := frozens3 BK1989.out
  try go_wp2
  refine bodyPost_ret (results_cell_row rfl _ _ gb1989 60 #[.int .i64 a0_0, .slice Ao9 t1990.length co9, .slice Ao11 t1993.length co11] (0, 0) _ rfl (by (with_reducible repeat (first | refine blk_drewN ?_ _ | refine blk_drew ?_ | refine blk_alloc ?_ _)); refine blk_put (cs := #[.int .i64 a0_0, .slice Ao9 t1990.length co9, .slice none 0 0]) ?_ 2 _ rfl; (with_reducible repeat (first | refine blk_drewN ?_ _ | refine blk_drew ?_ | refine blk_alloc ?_ _)); refine blk_put (cs := #[.int .i64 a0_0, .slice none 0 0, .slice none 0 0]) ?_ 1 _ rfl; (with_reducible repeat (first | refine blk_drewN ?_ _ | refine blk_drew ?_ | refine blk_alloc ?_ _)); refine blk_put (cs := #[.int .i64 0, .slice none 0 0, .slice none 0 0]) ?_ 0 _ rfl; (with_reducible repeat (first | refine blk_drewN ?_ _ | refine blk_drew ?_ | refine blk_alloc ?_ _)); refine blk_far ?_ NB1989_1988.out _; (with_reducible repeat (first | refine blk_drewN ?_ _ | refine blk_drew ?_ | refine blk_alloc ?_ _)); refine blk_far ?_ NB1989_1988.out _; (with_reducible repeat (first | refine blk_drewN ?_ _ | refine blk_drew ?_ | refine blk_alloc ?_ _)); exact BK1989.out) Try.underlying60 rfl (by kernel_rfl)) rfl ?_
  exact ⟨_, _, by first | rfl | (simp [errW_none, errW_some] <;> rfl) | (simp [*, errW_none, errW_some] <;> rfl), by (with_reducible repeat (first | apply Kd.R_alloc | apply Kd.R_drewN | apply Kd.R_drew)); exact Kd.R_mono (Kd.R_far (p := ⟨gb1989, 2, none⟩) (Kd.R_far (p := ⟨gb1989, 1, none⟩) (Kd.R_far (p := ⟨gb1989, 0, none⟩) (Kd.R_far (p := ⟨gb1988, 2, none⟩) (Kd.R_far (p := ⟨gb1988, 1, none⟩) (Kd.R_types (Kd.R_types HO1992.out BK1988.out (by decide)) BK1989.out (by decide)) (fun _ hk => hk.1.2) (.slice Ao9 t1990.length co9)) (fun _ hk => hk.1.2) (.slice Ao11 t1993.length co11)) (fun _ hk => hk.2) (.int .i64 a0_0)) (fun _ hk => hk.2) (.slice Ao9 t1990.length co9)) (fun _ hk => hk.2) (.slice Ao11 t1993.length co11)) (fun _ hk => trivial), by (with_reducible repeat (first | apply Kd.R_alloc | apply Kd.R_drewN | apply Kd.R_drew)); exact Kd.R_mono (Kd.R_far (p := ⟨gb1989, 2, none⟩) (Kd.R_far (p := ⟨gb1989, 1, none⟩) (Kd.R_far (p := ⟨gb1989, 0, none⟩) (Kd.R_far (p := ⟨gb1988, 2, none⟩) (Kd.R_far (p := ⟨gb1988, 1, none⟩) (Kd.R_types (Kd.R_types HO1995.out BK1988.out (by decide)) BK1989.out (by decide)) (fun _ hk => hk.1.2) (.slice Ao9 t1990.length co9)) (fun _ hk => hk.1.2) (.slice Ao11 t1993.length co11)) (fun _ hk => hk.2) (.int .i64 a0_0)) (fun _ hk => hk.2) (.slice Ao9 t1990.length co9)) (fun _ hk => hk.2) (.slice Ao11 t1993.length co11)) (fun _ hk => trivial), by repeat (first | (with_reducible first | exact HB.out | apply below_alloc | apply pw_below_drewN | apply below_drew1 | refine below_set ?_ GE1988.out | refine below_set ?_ GE1989.out) | exact HB.out)⟩

/-! ### impl_Tx: function 212 -/
def impl_Tx.f (l0 : List (S186)) : Option ((List (S186))) := (some (([] : List (S186)) : List (S186))).bind fun y1996 => (if y1996.length + l0.length < 2513169434916 then (some (y1996 ++ l0)) else (none))
set_option maxHeartbeats 8000000 in
set_option maxRecDepth 100000 in
theorem impl_Tx.calls (A0 : Option Addr) (c0 : Nat) (l0 : List (S186)) (r : List (S186)) (w : World) (hr0 : Kd.C k186 w A0 l0.length l0) (hc0 : l0.length ≤ c0) (h : impl_Tx.f l0 = some r) :
    Calls Try.prog 212 #[.slice A0 l0.length c0] w fun e w' => ∃ v0_ : Value, e = .returned (v0_) ∧ Kd.R k186 186 w' w.heap.size (fun _ => True) v0_ r ∧ Below w.heap.size w w' := by
  rcases A0 with _ | ad0
  · obtain rfl : l0 = [] := by
      cases l0 with
      | nil => rfl
      | cons x xs =>
        obtain ⟨_, _, e, _⟩ := Kd.C_get hr0 x 0 (Int.le_refl _) (by simp)
        cases e
    obtain rfl : r = [] := (Option.some.inj ((show impl_Tx.f [] = some [] from rfl).symm.trans h)).symm
    clear hr0 hc0 h
    have q_ : ∀ (w : World) (n c n' c' : Nat), (binOp .eql 97 (.slice none n c) (.slice none n' c')).run Try.prog w = .ok (.bool true) w := fun w n c n' c' => Lib.run_eql_slice_nil w _ _ none n c n' c' Try.underlying97
    go_enter Try.func212, Try.ntmps212
    go_wp2
    go_ret
    exact ⟨.slice none 0 0, rfl, Kd.R_nil _ _ _ _ _, Below.refl _ _⟩
  have q_ : ∀ (w : World) (n c n' c' : Nat), (binOp .eql 97 (.slice (some ad0) n c) (.slice none n' c')).run Try.prog w = .ok (.bool false) w := fun w n c n' c' => Lib.run_eql_slice_nil w _ _ (some ad0) n c n' c' Try.underlying97
  have HR0 := Aside0.mk hr0
  have HC0 := Aside0.mk hc0
  clear hr0 hc0
  have HB := Aside0.mk (Below.refl w.heap.size w)
  have H : ((some (([] : List (S186)) : List (S186))).bind fun y1996 => (if y1996.length + l0.length < 2513169434916 then (some (y1996 ++ l0)) else (none))) = some r := h
  clear h
  obtain ⟨y1996, hy1996⟩ : ∃ y_ : List (S186), y_ = (([] : List (S186))) := ⟨_, rfl⟩
  replace H : (if y1996.length + l0.length < 2513169434916 then (some (y1996 ++ l0)) else (none)) = some r := by first | (rw [hy1996]; with_reducible exact H) | (have H2_ := (Option.bind_some _ _).symm.trans H; rw [hy1996]; with_reducible exact H2_) | (have H2_ := (Option.bind_some _ _).symm.trans H; with_reducible exact H2_) | with_reducible exact H | (rw [hy1996]; exact H) | exact H
  have Ny1996 := Aside0.mk hy1996
  clear hy1996
  by_cases c2 : y1996.length + l0.length < 2513169434916
  · rw [if_pos c2] at H
    have LMc2 := Aside0.mk c2
    clear c2
    obtain ⟨y1999, hy1999⟩ : ∃ y_ : List (S186), y_ = (y1996 ++ l0) := ⟨_, rfl⟩
    replace H : (some y1999) = some r := by first | (rw [hy1999]; with_reducible exact H) | (have H2_ := (Option.bind_some _ _).symm.trans H; rw [hy1999]; with_reducible exact H2_) | (have H2_ := (Option.bind_some _ _).symm.trans H; with_reducible exact H2_) | with_reducible exact H | (rw [hy1999]; exact H) | exact H
    have Ny1999 := Aside0.mk hy1999
    clear hy1999
    obtain rfl := Option.some.inj H
    go_enter Try.func212, Try.ntmps212
    go_wp2_with (first | ((with_reducible refine gate_dst (N := 5) rfl ?_); refine Kd.R_lit k186 _ 186 ?hg (N := 5) ?hd (xs := ([] : List (S186))) (inner := []) (ok := fun _ => True) (okp := fun _ => True) ?hr ?hp (fun _ hk => hk) trivial (Below.refl _ _) (Nat.le_refl _) (by simp) ?_; (case hd => rfl); (case hg => rfl); (case hr => (try clear q_); first | (go_simp; done) | (go_simp; rfl)); (case hp => exact (Reps.none _ _)); (try clear q_); intro v1997 w3 ho4 hb hg_ hnew_; clear hg_ hnew_; (first | rw [← Ny1996.out] at ho4 | (simp only [Int.reduceToNat] at ho4; rw [← Ny1996.out] at ho4)); have n0_ := Aside0.mk (Kd.R_lower ho4 (below_size (by repeat (first | (with_reducible first | exact HB.out | apply below_alloc | apply pw_below_drewN | apply below_drew1) | exact HB.out)))); have n1_ := Aside0.mk (below_step (by repeat (first | (with_reducible first | exact HB.out | apply below_alloc | apply pw_below_drewN | apply below_drew1) | exact HB.out)) hb); clear HB; have HO1998 := n0_; have HB := n1_; clear n0_ n1_; clear hb ho4) | ((with_reducible refine gate_builtin (b := .append) (xs := #[.tmp 5, .tmp 6]) rfl ?_); at_builtin; refine Kd.R_append_rows k186 (w0 := w) w.heap.size rfl (.tmp 5) (.tmp 6) 97 186 (.agg #[(.int .i64 0), (.string ⟨#[]⟩), (.string ⟨#[]⟩), (.int .i64 0), (.int .i64 0)]) 56 rfl Try.underlying97 info186 rfl (by decide) (by omega) v1997 y1996 l0 _ _ _ (fun _ => True) (fun _ => False) rfl rfl ?aO ?aR (fun _ _ h => h) (fun _ h => h.elim) ?aF ?aB ?aS ?aL ?_; (case aR => repeat (first | exact (Kd.C_below HR0.out HB.out) | (with_reducible refine Kd.C_alloc ?_ _) | (with_reducible refine Kd.C_drewN ?_ _) | (with_reducible refine Kd.C_drew ?_))); (case aB => exact (by repeat (first | (with_reducible first | exact HB.out | apply below_alloc | apply pw_below_drewN | apply below_drew1) | exact HB.out))); (case aF => exact (fun _ _ => trivial)); (case aO => exact (by (with_reducible repeat (first | apply Kd.R_alloc | apply Kd.R_drewN | apply Kd.R_drew)); exact HO1998.out)); (case aS => exact (below_size (by repeat (first | (with_reducible first | exact HB.out | apply below_alloc | apply pw_below_drewN | apply below_drew1) | exact HB.out)))); (case aL => have := LMc2.out; omega); (try clear q_); intro v2000 w5 ho hb hg hat; rw [← Ny1999.out] at ho; have n0_ := Aside0.mk (hb); have n1_ := Aside0.mk (ho); clear HB; clear HO1998; have HB := n0_; have HO2001 := n1_; clear n0_ n1_; clear ho hb hg hat))
    go_ret
    exact ⟨_, by first | rfl | (simp [errW_none, errW_some] <;> rfl) | (simp [*, errW_none, errW_some] <;> rfl), by (with_reducible repeat (first | apply Kd.R_alloc | apply Kd.R_drewN | apply Kd.R_drew)); exact HO2001.out, by repeat (first | (with_reducible first | exact HB.out | apply below_alloc | apply pw_below_drewN | apply below_drew1) | exact HB.out)⟩
  · rw [if_neg c2] at H
    exact absurd H (by simp)

/-! ### impl_Val_213: function 213 -/
def impl_Val_213.f (l0 : List (S138)) : Option ((List (S138))) := (some (([] : List (S138)) : List (S138))).bind fun y2002 => (if y2002.length + l0.length < 5864062014805 then (some (y2002 ++ l0)) else (none))
set_option maxHeartbeats 8000000 in
set_option maxRecDepth 100000 in
theorem impl_Val_213.calls (A0 : Option Addr) (c0 : Nat) (l0 : List (S138)) (r : List (S138)) (w : World) (hr0 : Kd.C k138 w A0 l0.length l0) (hc0 : l0.length ≤ c0) (h : impl_Val_213.f l0 = some r) :
    Calls Try.prog 213 #[.slice A0 l0.length c0] w fun e w' => ∃ v0_ : Value, e = .returned (v0_) ∧ Kd.R k138 138 w' w.heap.size (fun _ => True) v0_ r ∧ Below w.heap.size w w' := by
  rcases A0 with _ | ad0
  · obtain rfl : l0 = [] := by
      cases l0 with
      | nil => rfl
      | cons x xs =>
        obtain ⟨_, _, e, _⟩ := Kd.C_get hr0 x 0 (Int.le_refl _) (by simp)
        cases e
    obtain rfl : r = [] := (Option.some.inj ((show impl_Val_213.f [] = some [] from rfl).symm.trans h)).symm
    clear hr0 hc0 h
    have q_ : ∀ (w : World) (n c n' c' : Nat), (binOp .eql 24 (.slice none n c) (.slice none n' c')).run Try.prog w = .ok (.bool true) w := fun w n c n' c' => Lib.run_eql_slice_nil w _ _ none n c n' c' Try.underlying24
    go_enter Try.func213, Try.ntmps213
    go_wp2
    go_ret
    exact ⟨.slice none 0 0, rfl, Kd.R_nil _ _ _ _ _, Below.refl _ _⟩
  have q_ : ∀ (w : World) (n c n' c' : Nat), (binOp .eql 24 (.slice (some ad0) n c) (.slice none n' c')).run Try.prog w = .ok (.bool false) w := fun w n c n' c' => Lib.run_eql_slice_nil w _ _ (some ad0) n c n' c' Try.underlying24
  have HR0 := Aside0.mk hr0
  have HC0 := Aside0.mk hc0
  clear hr0 hc0
  have HB := Aside0.mk (Below.refl w.heap.size w)
  have H : ((some (([] : List (S138)) : List (S138))).bind fun y2002 => (if y2002.length + l0.length < 5864062014805 then (some (y2002 ++ l0)) else (none))) = some r := h
  clear h
  obtain ⟨y2002, hy2002⟩ : ∃ y_ : List (S138), y_ = (([] : List (S138))) := ⟨_, rfl⟩
  replace H : (if y2002.length + l0.length < 5864062014805 then (some (y2002 ++ l0)) else (none)) = some r := by first | (rw [hy2002]; with_reducible exact H) | (have H2_ := (Option.bind_some _ _).symm.trans H; rw [hy2002]; with_reducible exact H2_) | (have H2_ := (Option.bind_some _ _).symm.trans H; with_reducible exact H2_) | with_reducible exact H | (rw [hy2002]; exact H) | exact H
  have Ny2002 := Aside0.mk hy2002
  clear hy2002
  by_cases c2 : y2002.length + l0.length < 5864062014805
  · rw [if_pos c2] at H
    have LMc2 := Aside0.mk c2
    clear c2
    obtain ⟨y2005, hy2005⟩ : ∃ y_ : List (S138), y_ = (y2002 ++ l0) := ⟨_, rfl⟩
    replace H : (some y2005) = some r := by first | (rw [hy2005]; with_reducible exact H) | (have H2_ := (Option.bind_some _ _).symm.trans H; rw [hy2005]; with_reducible exact H2_) | (have H2_ := (Option.bind_some _ _).symm.trans H; with_reducible exact H2_) | with_reducible exact H | (rw [hy2005]; exact H) | exact H
    have Ny2005 := Aside0.mk hy2005
    clear hy2005
    obtain rfl := Option.some.inj H
    go_enter Try.func213, Try.ntmps213
    go_wp2_with (first | ((with_reducible refine gate_dst (N := 5) rfl ?_); refine Kd.R_lit k138 _ 138 ?hg (N := 5) ?hd (xs := ([] : List (S138))) (inner := []) (ok := fun _ => True) (okp := fun _ => True) ?hr ?hp (fun _ hk => hk) trivial (Below.refl _ _) (Nat.le_refl _) (by simp) ?_; (case hd => rfl); (case hg => rfl); (case hr => (try clear q_); first | (go_simp; done) | (go_simp; rfl)); (case hp => exact (Reps.none _ _)); (try clear q_); intro v2003 w3 ho4 hb hg_ hnew_; clear hg_ hnew_; (first | rw [← Ny2002.out] at ho4 | (simp only [Int.reduceToNat] at ho4; rw [← Ny2002.out] at ho4)); have n0_ := Aside0.mk (Kd.R_lower ho4 (below_size (by repeat (first | (with_reducible first | exact HB.out | apply below_alloc | apply pw_below_drewN | apply below_drew1) | exact HB.out)))); have n1_ := Aside0.mk (below_step (by repeat (first | (with_reducible first | exact HB.out | apply below_alloc | apply pw_below_drewN | apply below_drew1) | exact HB.out)) hb); clear HB; have HO2004 := n0_; have HB := n1_; clear n0_ n1_; clear hb ho4) | ((with_reducible refine gate_builtin (b := .append) (xs := #[.tmp 5, .tmp 6]) rfl ?_); at_builtin; refine Kd.R_append_rows k138 (w0 := w) w.heap.size rfl (.tmp 5) (.tmp 6) 24 138 (.agg #[(.string ⟨#[]⟩), (.int .i64 0)]) 24 rfl Try.underlying24 info138 rfl (by decide) (by omega) v2003 y2002 l0 _ _ _ (fun _ => True) (fun _ => False) rfl rfl ?aO ?aR (fun _ _ h => h) (fun _ h => h.elim) ?aF ?aB ?aS ?aL ?_; (case aR => repeat (first | exact (Kd.C_below HR0.out HB.out) | (with_reducible refine Kd.C_alloc ?_ _) | (with_reducible refine Kd.C_drewN ?_ _) | (with_reducible refine Kd.C_drew ?_))); (case aB => exact (by repeat (first | (with_reducible first | exact HB.out | apply below_alloc | apply pw_below_drewN | apply below_drew1) | exact HB.out))); (case aF => exact (fun _ _ => trivial)); (case aO => exact (by (with_reducible repeat (first | apply Kd.R_alloc | apply Kd.R_drewN | apply Kd.R_drew)); exact HO2004.out)); (case aS => exact (below_size (by repeat (first | (with_reducible first | exact HB.out | apply below_alloc | apply pw_below_drewN | apply below_drew1) | exact HB.out)))); (case aL => have := LMc2.out; omega); (try clear q_); intro v2006 w5 ho hb hg hat; rw [← Ny2005.out] at ho; have n0_ := Aside0.mk (hb); have n1_ := Aside0.mk (ho); clear HB; clear HO2004; have HB := n0_; have HO2007 := n1_; clear n0_ n1_; clear ho hb hg hat))
    go_ret
    exact ⟨_, by first | rfl | (simp [errW_none, errW_some] <;> rfl) | (simp [*, errW_none, errW_some] <;> rfl), by (with_reducible repeat (first | apply Kd.R_alloc | apply Kd.R_drewN | apply Kd.R_drew)); exact HO2007.out, by repeat (first | (with_reducible first | exact HB.out | apply below_alloc | apply pw_below_drewN | apply below_drew1) | exact HB.out)⟩
  · rw [if_neg c2] at H
    exact absurd H (by simp)

/-! ### impl_copyBlock: function 164 -/
def impl_copyBlock.f (a0_0 : Int) (a0_1 : Int) (a0_2 : Int) (a0_3 : ByteArray) (a0_4 : Int) (a0_5 : Int) (l0_6 : List ByteArray) (a0_7 : Int) (l0_8 : List ByteArray) (l0_9 : List Int) (l0_10 : List (S186)) (a0_11 : Bool) (l0_12 : List (S138)) (a0_13 : ByteArray) : Option (Int × Int × Int × ByteArray × Int × Int × List ByteArray × Int × List ByteArray × List Int × (List (S186)) × Bool × (List (S138)) × ByteArray) := (impl_copyQc.f a0_4 a0_5 l0_6).bind fun bt2010 => ((impl_copyTc.f a0_7 l0_8 l0_9).bind fun bt2015 => ((impl_Tx.f l0_10).bind fun t2022 => ((impl_Val_213.f l0_12).bind fun t2025 => (some (a0_0, a0_1, a0_2, a0_3, bt2010.1, bt2010.2.1, bt2010.2.2, bt2015.1, bt2015.2.1, bt2015.2.2, t2022, a0_11, t2025, a0_13)))))
def impl_copyBlock.T1 : Bool × List (List Nat × List Nat) := (true, [([], []), ([0], [0]), ([1], [1]), ([], []), ([3], [3]), ([4, 2], [4]), ([0, 1, 2, 3, 4], []), ([6, 2, 5, 0, 1, 2, 3, 4], [2, 6]), ([0, 1, 2, 3, 4, 5, 6, 7], []), ([8, 5, 7, 0, 1, 2, 3, 4, 5, 6, 7], [5, 8])])
def impl_copyBlock.B1 : List Nat := [0, 1, 3, 0, 8, 31, 31, 127, 255, 511]
theorem impl_copyBlock.tab1 : rtab .any (opsOf Try.f164 1) = impl_copyBlock.T1 := by kernel_rfl
theorem impl_copyBlock.bits1 : waitsOk impl_copyBlock.T1.2 impl_copyBlock.B1 = true := by kernel_rfl
def impl_copyBlock.T2 : Bool × List (List Nat × List Nat) := (true, [([], []), ([0], [0]), ([1], [1]), ([], []), ([3], [3]), ([4, 2], [4]), ([0, 1, 2, 3, 4], []), ([6, 2, 5, 0, 1, 2, 3, 4], [2, 6]), ([0, 1, 2, 3, 4, 5, 6, 7], []), ([8, 5, 7, 0, 1, 2, 3, 4, 5, 6, 7], [5, 8])])
def impl_copyBlock.B2 : List Nat := [0, 1, 3, 0, 8, 31, 31, 127, 255, 511]
theorem impl_copyBlock.tab2 : rtab .any (opsOf Try.f164 2) = impl_copyBlock.T2 := by kernel_rfl
theorem impl_copyBlock.bits2 : waitsOk impl_copyBlock.T2.2 impl_copyBlock.B2 = true := by kernel_rfl
set_option maxHeartbeats 8000000 in
set_option maxRecDepth 100000 in
theorem impl_copyBlock.calls (a0_0 : Int) (a0_1 : Int) (a0_2 : Int) (a0_3 : ByteArray) (a0_4 : Int) (a0_5 : Int) (A0_6 : Option Addr) (c0_6 : Nat) (l0_6 : List ByteArray) (a0_7 : Int) (A0_8 : Option Addr) (c0_8 : Nat) (l0_8 : List ByteArray) (A0_9 : Option Addr) (c0_9 : Nat) (l0_9 : List Int) (A0_10 : Option Addr) (c0_10 : Nat) (l0_10 : List (S186)) (a0_11 : Bool) (A0_12 : Option Addr) (c0_12 : Nat) (l0_12 : List (S138)) (a0_13 : ByteArray) (r1 : Int) (r2 : Int) (r3 : Int) (r4 : ByteArray) (r5 : Int) (r6 : Int) (r7 : List ByteArray) (r8 : Int) (r9 : List ByteArray) (r10 : List Int) (r11 : List (S186)) (r12 : Bool) (r13 : List (S138)) (r14 : ByteArray) (w : World) (hr0_6 : Kd.C Kd.string w A0_6 l0_6.length l0_6) (hc0_6 : l0_6.length ≤ c0_6) (hr0_8 : Kd.C Kd.string w A0_8 l0_8.length l0_8) (hc0_8 : l0_8.length ≤ c0_8) (hr0_9 : Kd.C (Kd.int .i64) w A0_9 l0_9.length l0_9) (hc0_9 : l0_9.length ≤ c0_9) (hr0_10 : Kd.C k186 w A0_10 l0_10.length l0_10) (hc0_10 : l0_10.length ≤ c0_10) (hr0_12 : Kd.C k138 w A0_12 l0_12.length l0_12) (hc0_12 : l0_12.length ≤ c0_12) (h : impl_copyBlock.f a0_0 a0_1 a0_2 a0_3 a0_4 a0_5 l0_6 a0_7 l0_8 l0_9 l0_10 a0_11 l0_12 a0_13 = some (r1, r2, r3, r4, r5, r6, r7, r8, r9, r10, r11, r12, r13, r14)) :
    Calls Try.prog 164 #[.agg #[.int .i64 a0_0, .int .i64 a0_1, .int .i64 a0_2, .string a0_3, .int .i64 a0_4, .int .i64 a0_5, .slice A0_6 l0_6.length c0_6, .int .i64 a0_7, .slice A0_8 l0_8.length c0_8, .slice A0_9 l0_9.length c0_9, .slice A0_10 l0_10.length c0_10, .bool a0_11, .slice A0_12 l0_12.length c0_12, .string a0_13]] w fun e w' => ∃ v6_ v8_ v9_ v10_ v12_ : Value, e = .returned (.agg #[.int .i64 r1, .int .i64 r2, .int .i64 r3, .string r4, .int .i64 r5, .int .i64 r6, v6_, .int .i64 r8, v8_, v9_, v10_, .bool r12, v12_, .string r14]) ∧ Kd.R Kd.string 9 w' w.heap.size (fun k_ => some k_ ≠ (v8_ : Value).ownBlock) v6_ r7 ∧ Kd.R Kd.string 9 w' w.heap.size (fun k_ => some k_ ≠ (v6_ : Value).ownBlock) v8_ r9 ∧ Kd.R (Kd.int .i64) 3 w' w.heap.size (fun _ => True) v9_ r10 ∧ Kd.R k186 186 w' w.heap.size (fun _ => True) v10_ r11 ∧ Kd.R k138 138 w' w.heap.size (fun _ => True) v12_ r13 ∧ Below w.heap.size w w' := by
  have hu113 := Try.underlying113
  have hu49 := Try.underlying49
  have hu60 := Try.underlying60
  have HR0_6 := Aside0.mk hr0_6
  have HC0_6 := Aside0.mk hc0_6
  clear hr0_6 hc0_6
  have HR0_8 := Aside0.mk hr0_8
  have HC0_8 := Aside0.mk hc0_8
  clear hr0_8 hc0_8
  have HR0_9 := Aside0.mk hr0_9
  have HC0_9 := Aside0.mk hc0_9
  clear hr0_9 hc0_9
  have HR0_10 := Aside0.mk hr0_10
  have HC0_10 := Aside0.mk hc0_10
  clear hr0_10 hc0_10
  have HR0_12 := Aside0.mk hr0_12
  have HC0_12 := Aside0.mk hc0_12
  clear hr0_12 hc0_12
  have HB := Aside0.mk (Below.refl w.heap.size w)
  have H : ((impl_copyQc.f a0_4 a0_5 l0_6).bind fun bt2010 => ((impl_copyTc.f a0_7 l0_8 l0_9).bind fun bt2015 => ((impl_Tx.f l0_10).bind fun t2022 => ((impl_Val_213.f l0_12).bind fun t2025 => (some (a0_0, a0_1, a0_2, a0_3, bt2010.1, bt2010.2.1, bt2010.2.2, bt2015.1, bt2015.2.1, bt2015.2.2, t2022, a0_11, t2025, a0_13)))))) = some (r1, r2, r3, r4, r5, r6, r7, r8, r9, r10, r11, r12, r13, r14) := h
  clear h
  replace H := Option.bind_eq_some_iff.mp H
  obtain ⟨⟨t2010, t2011, t2012⟩, A20, H⟩ := H
  replace H : ((impl_copyTc.f a0_7 l0_8 l0_9).bind fun bt2015 => ((impl_Tx.f l0_10).bind fun t2022 => ((impl_Val_213.f l0_12).bind fun t2025 => (some (a0_0, a0_1, a0_2, a0_3, t2010, t2011, t2012, bt2015.1, bt2015.2.1, bt2015.2.2, t2022, a0_11, t2025, a0_13))))) = some (r1, r2, r3, r4, r5, r6, r7, r8, r9, r10, r11, r12, r13, r14) := H
  have A2 := Aside0.mk A20
  clear A20
  replace H := Option.bind_eq_some_iff.mp H
  obtain ⟨⟨t2015, t2016, t2019⟩, A30, H⟩ := H
  replace H : ((impl_Tx.f l0_10).bind fun t2022 => ((impl_Val_213.f l0_12).bind fun t2025 => (some (a0_0, a0_1, a0_2, a0_3, t2010, t2011, t2012, t2015, t2016, t2019, t2022, a0_11, t2025, a0_13)))) = some (r1, r2, r3, r4, r5, r6, r7, r8, r9, r10, r11, r12, r13, r14) := H
  have A3 := Aside0.mk A30
  clear A30
  replace H := Option.bind_eq_some_iff.mp H
  obtain ⟨t2022, A40, H⟩ := H
  replace H : ((impl_Val_213.f l0_12).bind fun t2025 => (some (a0_0, a0_1, a0_2, a0_3, t2010, t2011, t2012, t2015, t2016, t2019, t2022, a0_11, t2025, a0_13))) = some (r1, r2, r3, r4, r5, r6, r7, r8, r9, r10, r11, r12, r13, r14) := H
  have A4 := Aside0.mk A40
  clear A40
  replace H := Option.bind_eq_some_iff.mp H
  obtain ⟨t2025, A50, H⟩ := H
  replace H : (some (a0_0, a0_1, a0_2, a0_3, t2010, t2011, t2012, t2015, t2016, t2019, t2022, a0_11, t2025, a0_13)) = some (r1, r2, r3, r4, r5, r6, r7, r8, r9, r10, r11, r12, r13, r14) := H
  have A5 := Aside0.mk A50
  clear A50
  simp only [Option.some.injEq, Prod.mk.injEq] at H
  obtain ⟨rfl, rfl, rfl, rfl, rfl, rfl, rfl, rfl, rfl, rfl, rfl, rfl, rfl, rfl⟩ := H
  go_enter Try.func164, Try.ntmps164
  try go_wp2_with (first | ((with_reducible refine gate_dst (N := 1) rfl ?_); refine box_event ?hg (N := 1) ?hd (cs := #[.int .i64 a0_0, .int .i64 a0_1, .int .i64 a0_2, .string a0_3, .int .i64 a0_4, .int .i64 a0_5, .slice A0_6 l0_6.length c0_6, .int .i64 a0_7, .slice A0_8 l0_8.length c0_8, .slice A0_9 l0_9.length c0_9, .slice A0_10 l0_10.length c0_10, .bool a0_11, .slice A0_12 l0_12.length c0_12, .string a0_13]) (t := 113) ?hr ?_; (case hd => rfl); (case hg => rfl); (case hr => first | (go_simp; done) | (go_simp; rfl)); intro gb2008 hg w6 hbox hb; have n0_ := Aside0.mk (below_step (by repeat (first | (with_reducible first | exact HB.out | apply below_alloc | apply pw_below_drewN | apply below_drew1) | exact HB.out)) hb); have n1_ := Aside0.mk (hbox); have n2_ := Aside0.mk ((by rw [hg]; exact (below_size (by repeat (first | (with_reducible first | exact HB.out | apply below_alloc | apply pw_below_drewN | apply below_drew1) | exact HB.out))) : w.heap.size ≤ gb2008)); have n3_ := n2_; clear HB; have HB := n0_; have BK2008 := n1_; have GW2008 := n2_; have GE2008 := n3_; clear n0_ n1_ n2_ n3_; clear hb hbox hg) | ((with_reducible refine gate_dst (N := 2) rfl ?_); refine box_event ?hg (N := 2) ?hd (cs := #[.int .i64 0, .int .i64 0, .int .i64 0, .string (⟨#[]⟩ : ByteArray), .int .i64 0, .int .i64 0, .slice none 0 0, .int .i64 0, .slice none 0 0, .slice none 0 0, .slice none 0 0, .bool false, .slice none 0 0, .string (⟨#[]⟩ : ByteArray)]) (t := 113) ?hr ?_; (case hd => rfl); (case hg => rfl); (case hr => first | (go_simp; done) | (go_simp; rfl)); intro gb2009 hg w7 hbox hb; have n0_ := Aside0.mk (blk_below (g := gb2008) (by (with_reducible repeat (first | refine blk_drewN ?_ _ | refine blk_drew ?_ | refine blk_alloc ?_ _)); exact BK2008.out) hb); have n1_ := Aside0.mk (below_step (by repeat (first | (with_reducible first | exact HB.out | apply below_alloc | apply pw_below_drewN | apply below_drew1 | refine below_set ?_ GE2008.out) | exact HB.out)) hb); have n2_ := Aside0.mk (hbox); have n3_ := Aside0.mk ((by rw [hg]; exact (below_size (by repeat (first | (with_reducible first | exact HB.out | apply below_alloc | apply pw_below_drewN | apply below_drew1 | refine below_set ?_ GE2008.out) | exact HB.out))) : w.heap.size ≤ gb2009)); have n4_ := Aside0.mk ((by rw [hg]; exact (below_size (by repeat (first | (with_reducible first | exact HB.out | apply below_alloc | apply pw_below_drewN | apply below_drew1 | refine below_set ?_ GE2008.out) | exact HB.out))) : w.heap.size ≤ gb2009)); have n5_ := Aside0.mk ((by rw [hg]; exact Nat.ne_of_lt (blk_lt (g := gb2008) (o := .cells #[.int .i64 a0_0, .int .i64 a0_1, .int .i64 a0_2, .string a0_3, .int .i64 a0_4, .int .i64 a0_5, .slice A0_6 l0_6.length c0_6, .int .i64 a0_7, .slice A0_8 l0_8.length c0_8, .slice A0_9 l0_9.length c0_9, .slice A0_10 l0_10.length c0_10, .bool a0_11, .slice A0_12 l0_12.length c0_12, .string a0_13] 113 (0, 0)) (by (with_reducible repeat (first | refine blk_drewN ?_ _ | refine blk_drew ?_ | refine blk_alloc ?_ _)); exact BK2008.out)) : gb2008 ≠ gb2009)); have n6_ := Aside0.mk ((by rw [hg]; exact Nat.ne_of_gt (blk_lt (g := gb2008) (o := .cells #[.int .i64 a0_0, .int .i64 a0_1, .int .i64 a0_2, .string a0_3, .int .i64 a0_4, .int .i64 a0_5, .slice A0_6 l0_6.length c0_6, .int .i64 a0_7, .slice A0_8 l0_8.length c0_8, .slice A0_9 l0_9.length c0_9, .slice A0_10 l0_10.length c0_10, .bool a0_11, .slice A0_12 l0_12.length c0_12, .string a0_13] 113 (0, 0)) (by (with_reducible repeat (first | refine blk_drewN ?_ _ | refine blk_drew ?_ | refine blk_alloc ?_ _)); exact BK2008.out)) : gb2009 ≠ gb2008)); clear BK2008; clear HB; have BK2008 := n0_; have HB := n1_; have BK2009 := n2_; have GW2009 := n3_; have GE2009 := n4_; have NB2008_2009 := n5_; have NB2009_2008 := n6_; clear n0_ n1_ n2_ n3_ n4_ n5_ n6_; clear hb hbox hg))
  have n0_ := Aside0.mk (blk_drew BK2008.out)
  have n1_ := Aside0.mk (blk_drew BK2009.out)
  have n2_ := Aside0.mk (below_drew1 HB.out)
  clear BK2008
  clear BK2009
  clear HB
  have BK2008 := n0_
  have BK2009 := n1_
  have HB := n2_
  clear n0_ n1_ n2_
  refine start_ (n := 10) (S := fun w' => w'.cell? ⟨gb2008, 0, none⟩ = some (.int .i64 a0_0) ∧ w'.cell? ⟨gb2008, 1, none⟩ = some (.int .i64 a0_1) ∧ w'.cell? ⟨gb2008, 2, none⟩ = some (.int .i64 a0_2) ∧ w'.cell? ⟨gb2008, 3, none⟩ = some (.string a0_3) ∧ w'.cell? ⟨gb2008, 4, none⟩ = some (.int .i64 a0_4) ∧ w'.cell? ⟨gb2008, 5, none⟩ = some (.int .i64 a0_5) ∧ w'.cell? ⟨gb2008, 6, none⟩ = some (.slice A0_6 l0_6.length c0_6) ∧ w'.cell? ⟨gb2008, 7, none⟩ = some (.int .i64 a0_7) ∧ w'.cell? ⟨gb2008, 8, none⟩ = some (.slice A0_8 l0_8.length c0_8) ∧ w'.cell? ⟨gb2008, 9, none⟩ = some (.slice A0_9 l0_9.length c0_9) ∧ w'.cell? ⟨gb2008, 10, none⟩ = some (.slice A0_10 l0_10.length c0_10) ∧ w'.cell? ⟨gb2008, 11, none⟩ = some (.bool a0_11) ∧ w'.cell? ⟨gb2008, 12, none⟩ = some (.slice A0_12 l0_12.length c0_12) ∧ w'.cell? ⟨gb2008, 13, none⟩ = some (.string a0_13)) (ds := [7, 9]) #[false, false, false, false, false, false, false, false, false, false] (by kernel_rfl) rfl rfl ⟨(blk_cell BK2008.out 0).trans rfl, (blk_cell BK2008.out 1).trans rfl, (blk_cell BK2008.out 2).trans rfl, (blk_cell BK2008.out 3).trans rfl, (blk_cell BK2008.out 4).trans rfl, (blk_cell BK2008.out 5).trans rfl, (blk_cell BK2008.out 6).trans rfl, (blk_cell BK2008.out 7).trans rfl, (blk_cell BK2008.out 8).trans rfl, (blk_cell BK2008.out 9).trans rfl, (blk_cell BK2008.out 10).trans rfl, (blk_cell BK2008.out 11).trans rfl, (blk_cell BK2008.out 12).trans rfl, (blk_cell BK2008.out 13).trans rfl⟩ (fun hHeld => ?_); refine with_tabW impl_copyBlock.tab1 impl_copyBlock.bits1 (fun HT_ HW_ => ?_)
  generalize w7.drew = w8 at BK2008 BK2009 HB hHeld ⊢
  refine pure_ (i := 0) (N := some 3) (v := ?_) (a' := ?_) #[true, false, false, false, false, false, false, false, false, false] rfl rfl (any_of HT_.out (by kernel_rfl)) (fun _ _ _ h => h) (Or.inl ⟨by rfl, ?_⟩) ?_ ?_
  rotate_left
  · intro w'
    go_simp
    with_reducible rfl
  rotate_left
  · simp only [Act.put, List.setIfInBounds_toArray, List.set_cons_zero, List.set_cons_succ, i64_w, i32_w]
    rfl
  refine pure_ (i := 3) (N := some 6) (v := ?_) (a' := ?_) #[true, false, false, true, false, false, false, false, false, false] rfl rfl (any_of HT_.out (by kernel_rfl)) (fun _ _ _ h => h) (Or.inl ⟨by rfl, ?_⟩) ?_ ?_
  rotate_left
  · intro w'
    go_simp
    with_reducible rfl
  rotate_left
  · simp only [Act.put, List.setIfInBounds_toArray, List.set_cons_zero, List.set_cons_succ, i64_w, i32_w]
    rfl
  refine take_ (i := 1) (N := some 4) (v := ?_) (a' := ?_) #[true, true, false, true, false, false, false, false, false, false] rfl rfl (take_ofW HT_.out HW_.out (by kernel_rfl)) (fun _ _ _ h => h) (Or.inl ⟨by rfl, ?_⟩) hHeld ?_ ?_
  rotate_left
  · rintro w' ⟨s0, s1, s2, s3, s4, s5, s6, s7, s8, s9, s10, s11, s12, s13⟩
    go_simp
    with_reducible rfl
  rotate_left
  · simp only [Act.put, List.setIfInBounds_toArray, List.set_cons_zero, List.set_cons_succ, i64_w, i32_w]
    rfl
  refine take_ (i := 4) (N := some 7) (v := ?_) (a' := ?_) #[true, true, false, true, true, false, false, false, false, false] rfl rfl (take_ofW HT_.out HW_.out (by kernel_rfl)) (fun _ _ _ h => h) (Or.inl ⟨by rfl, ?_⟩) hHeld ?_ ?_
  rotate_left
  · rintro w' ⟨s0, s1, s2, s3, s4, s5, s6, s7, s8, s9, s10, s11, s12, s13⟩
    go_simp
    with_reducible rfl
  rotate_left
  · simp only [Act.put, List.setIfInBounds_toArray, List.set_cons_zero, List.set_cons_succ, i64_w, i32_w]
    rfl
  refine one_ (i := 2) (N := some 5) #[true, true, true, true, true, false, false, false, false, false] rfl rfl (one_of HT_.out (by kernel_rfl)) (by decide) (fun K hK => ?_)
  refine goes_ Try.func210 (by kernel_rfl) rfl #[.agg #[.int .i64 a0_4, .int .i64 a0_5, .slice A0_6 l0_6.length c0_6]] (by rfl) rfl rfl (by (try simp only [List.map_toArray, List.map_cons, List.map_nil]); first | done | rfl | (simp only [List.length_drop, List.length_take]; rfl)) ?_
  with_reducible refine (impl_copyQc.calls a0_4 a0_5 _ _ l0_6 t2010 t2011 t2012 _ ?side1 ?side2 A2.out).mono ?_
  (case side1 => repeat (first | exact (Kd.C_below HR0_6.out HB.out) | (with_reducible refine Kd.C_alloc ?_ _) | (with_reducible refine Kd.C_drewN ?_ _) | (with_reducible refine Kd.C_drew ?_)))
  (case side2 => exact HC0_6.out)
  rintro e w9 ⟨v2013, rfl, ho0, hb⟩
  refine ⟨_, rfl, ?_⟩
  have n0_ := Aside0.mk (Kd.R_lower ho0 (below_size (by repeat (first | (with_reducible first | exact HB.out | apply below_alloc | apply pw_below_drewN | apply below_drew1 | refine below_set ?_ GE2008.out | refine below_set ?_ GE2009.out) | exact HB.out))))
  have n1_ := Aside0.mk (blk_below (g := gb2008) (by (with_reducible repeat (first | refine blk_drewN ?_ _ | refine blk_drew ?_ | refine blk_alloc ?_ _)); exact BK2008.out) hb)
  have n2_ := Aside0.mk (blk_below (g := gb2009) (o := .cells #[.int .i64 0, .int .i64 0, .int .i64 0, .string (⟨#[]⟩ : ByteArray), .int .i64 0, .int .i64 0, .slice none 0 0, .int .i64 0, .slice none 0 0, .slice none 0 0, .slice none 0 0, .bool false, .slice none 0 0, .string (⟨#[]⟩ : ByteArray)] 113 (0, 0)) (by (with_reducible repeat (first | refine blk_drewN ?_ _ | refine blk_drew ?_ | refine blk_alloc ?_ _)); exact BK2009.out) hb)
  have n3_ := Aside0.mk (below_step (by repeat (first | (with_reducible first | exact HB.out | apply below_alloc | apply pw_below_drewN | apply below_drew1 | refine below_set ?_ GE2008.out | refine below_set ?_ GE2009.out) | exact HB.out)) hb)
  clear BK2008
  clear BK2009
  clear HB
  have HO2014 := n0_
  have BK2008 := n1_
  have BK2009 := n2_
  have HB := n3_
  clear n0_ n1_ n2_ n3_
  (try clear hb)
  (try clear hb2)
  (try clear hk)
  (try clear hi)
  (try clear ho0)
  refine hK.out _ _ ⟨(blk_cell BK2008.out 0).trans rfl, (blk_cell BK2008.out 1).trans rfl, (blk_cell BK2008.out 2).trans rfl, (blk_cell BK2008.out 3).trans rfl, (blk_cell BK2008.out 4).trans rfl, (blk_cell BK2008.out 5).trans rfl, (blk_cell BK2008.out 6).trans rfl, (blk_cell BK2008.out 7).trans rfl, (blk_cell BK2008.out 8).trans rfl, (blk_cell BK2008.out 9).trans rfl, (blk_cell BK2008.out 10).trans rfl, (blk_cell BK2008.out 11).trans rfl, (blk_cell BK2008.out 12).trans rfl, (blk_cell BK2008.out 13).trans rfl⟩ (fun hHeld => ?_)
  clear hK K
  refine norm_ (a' := ?_) ?_ ?_
  rotate_left
  · show Act.put _ (some 5) _ = _
    simp only [Act.put, List.setIfInBounds_toArray, List.set_cons_zero, List.set_cons_succ, i64_w, i32_w]
    rfl
  refine pure_ (i := 6) (N := some 9) (v := ?_) (a' := ?_) #[true, true, true, true, true, false, true, false, false, false] rfl rfl (any_of HT_.out (by kernel_rfl)) (fun _ _ _ h => h) (Or.inl ⟨by rfl, ?_⟩) ?_ ?_
  rotate_left
  · intro w'
    go_simp
    with_reducible rfl
  rotate_left
  · simp only [Act.put, List.setIfInBounds_toArray, List.set_cons_zero, List.set_cons_succ, i64_w, i32_w]
    rfl
  refine one_ (i := 5) (N := some 8) #[true, true, true, true, true, true, true, false, false, false] rfl rfl (one_of HT_.out (by kernel_rfl)) (by decide) (fun K hK => ?_)
  refine goes_ Try.func211 (by kernel_rfl) rfl #[.agg #[.int .i64 a0_7, .slice A0_8 l0_8.length c0_8, .slice A0_9 l0_9.length c0_9]] (by rfl) rfl rfl (by (try simp only [List.map_toArray, List.map_cons, List.map_nil]); first | done | rfl | (simp only [List.length_drop, List.length_take]; rfl)) ?_
  with_reducible refine (impl_copyTc.calls a0_7 _ _ l0_8 _ _ l0_9 t2015 t2016 t2019 _ ?side1 ?side2 ?side3 ?side4 A3.out).mono ?_
  (case side1 => repeat (first | exact (Kd.C_below HR0_8.out HB.out) | (with_reducible refine Kd.C_alloc ?_ _) | (with_reducible refine Kd.C_drewN ?_ _) | (with_reducible refine Kd.C_drew ?_)))
  (case side2 => exact HC0_8.out)
  (case side3 => repeat (first | exact (Kd.C_below HR0_9.out HB.out) | (with_reducible refine Kd.C_alloc ?_ _) | (with_reducible refine Kd.C_drewN ?_ _) | (with_reducible refine Kd.C_drew ?_)))
  (case side4 => exact HC0_9.out)
  rintro e w10 ⟨v2017, v2020, rfl, ho0, ho1, hb⟩
  refine ⟨_, rfl, ?_⟩
  have n0_ := Aside0.mk (Kd.R_elder' (by (with_reducible repeat (first | apply Kd.R_alloc | apply Kd.R_drewN | apply Kd.R_drew)); exact HO2014.out) (Kd.R_base ho0) hb)
  have n1_ := Aside0.mk (Kd.R_lower (Kd.R_new' ho0 (Kd.R_lt (by (with_reducible repeat (first | apply Kd.R_alloc | apply Kd.R_drewN | apply Kd.R_drew)); exact HO2014.out))) (below_size (by repeat (first | (with_reducible first | exact HB.out | apply below_alloc | apply pw_below_drewN | apply below_drew1 | refine below_set ?_ GE2008.out | refine below_set ?_ GE2009.out) | exact HB.out))))
  have n2_ := Aside0.mk (Kd.R_lower ho1 (below_size (by repeat (first | (with_reducible first | exact HB.out | apply below_alloc | apply pw_below_drewN | apply below_drew1 | refine below_set ?_ GE2008.out | refine below_set ?_ GE2009.out) | exact HB.out))))
  have n3_ := Aside0.mk (blk_below (g := gb2008) (by (with_reducible repeat (first | refine blk_drewN ?_ _ | refine blk_drew ?_ | refine blk_alloc ?_ _)); exact BK2008.out) hb)
  have n4_ := Aside0.mk (blk_below (g := gb2009) (o := .cells #[.int .i64 0, .int .i64 0, .int .i64 0, .string (⟨#[]⟩ : ByteArray), .int .i64 0, .int .i64 0, .slice none 0 0, .int .i64 0, .slice none 0 0, .slice none 0 0, .slice none 0 0, .bool false, .slice none 0 0, .string (⟨#[]⟩ : ByteArray)] 113 (0, 0)) (by (with_reducible repeat (first | refine blk_drewN ?_ _ | refine blk_drew ?_ | refine blk_alloc ?_ _)); exact BK2009.out) hb)
  have n5_ := Aside0.mk (below_step (by repeat (first | (with_reducible first | exact HB.out | apply below_alloc | apply pw_below_drewN | apply below_drew1 | refine below_set ?_ GE2008.out | refine below_set ?_ GE2009.out) | exact HB.out)) hb)
  clear HO2014
  clear BK2008
  clear BK2009
  clear HB
  have HO2014 := n0_
  have HO2018 := n1_
  have HO2021 := n2_
  have BK2008 := n3_
  have BK2009 := n4_
  have HB := n5_
  clear n0_ n1_ n2_ n3_ n4_ n5_
  (try clear hb)
  (try clear hb2)
  (try clear hk)
  (try clear hi)
  (try clear ho0)
  (try clear ho1)
  obtain ⟨Ao13, co13, eo13⟩ := Kd.R_slice HO2014.out
  (first | subst eo13 | (injection eo13 with f1_ f2_ f3_; have f4_ := f1_.symm; have f5_ := f3_.symm; clear f1_ f2_ f3_; subst f4_; subst f5_))
  obtain ⟨Ao16, co16, eo16⟩ := Kd.R_slice HO2018.out
  (first | subst eo16 | (injection eo16 with f1_ f2_ f3_; have f4_ := f1_.symm; have f5_ := f3_.symm; clear f1_ f2_ f3_; subst f4_; subst f5_))
  obtain ⟨Ao18, co18, eo18⟩ := Kd.R_slice HO2021.out
  (first | subst eo18 | (injection eo18 with f1_ f2_ f3_; have f4_ := f1_.symm; have f5_ := f3_.symm; clear f1_ f2_ f3_; subst f4_; subst f5_))
  refine hK.out _ _ ⟨(blk_cell BK2008.out 0).trans rfl, (blk_cell BK2008.out 1).trans rfl, (blk_cell BK2008.out 2).trans rfl, (blk_cell BK2008.out 3).trans rfl, (blk_cell BK2008.out 4).trans rfl, (blk_cell BK2008.out 5).trans rfl, (blk_cell BK2008.out 6).trans rfl, (blk_cell BK2008.out 7).trans rfl, (blk_cell BK2008.out 8).trans rfl, (blk_cell BK2008.out 9).trans rfl, (blk_cell BK2008.out 10).trans rfl, (blk_cell BK2008.out 11).trans rfl, (blk_cell BK2008.out 12).trans rfl, (blk_cell BK2008.out 13).trans rfl⟩ (fun hHeld => ?_)
  clear hK K
  refine norm_ (a' := ?_) ?_ ?_
  rotate_left
  · show Act.put _ (some 8) _ = _
    simp only [Act.put, List.setIfInBounds_toArray, List.set_cons_zero, List.set_cons_succ, i64_w, i32_w]
    rfl
  refine last_ (i := 7) (N := none) #[true, true, true, true, true, true, true, true, false, false] rfl rfl (one_of HT_.out (by kernel_rfl)) (by decide) (fun K hK => ?_)
  have hs11 : w10.cell? ⟨gb2008, 4, none⟩ = some (.int .i64 a0_4) := (blk_cell BK2008.out 4).trans rfl
  have hfs11 := blk_frozen BK2008.out 4
  have hns11_1 := NB2009_2008.out
  have hms11_1 := NB2008_2009.out
  have hs12 : w10.cell? ⟨gb2008, 5, none⟩ = some (.int .i64 a0_5) := (blk_cell BK2008.out 5).trans rfl
  have hfs12 := blk_frozen BK2008.out 5
  have hns12_1 := NB2009_2008.out
  have hms12_1 := NB2008_2009.out
  have hs14 : w10.cell? ⟨gb2008, 6, none⟩ = some (.slice A0_6 l0_6.length c0_6) := (blk_cell BK2008.out 6).trans rfl
  have hfs14 := blk_frozen BK2008.out 6
  have hns14_1 := NB2009_2008.out
  have hms14_1 := NB2008_2009.out
  refine skip_ (w1 := ?_) (by rfl) rfl ?_ ?_
  rotate_left
  · go_simp
    rfl
  refine hK.out _ _ ?_
  clear hK K
  refine pure_ (i := 8) (N := some 10) (v := ?_) (a' := ?_) #[true, true, true, true, true, true, true, true, true, false] rfl rfl (any_of HT_.out (by kernel_rfl)) (fun _ _ _ h => h) (Or.inl ⟨by rfl, ?_⟩) ?_ ?_
  rotate_left
  · intro w'
    go_simp
    with_reducible rfl
  rotate_left
  · simp only [Act.put, List.setIfInBounds_toArray, List.set_cons_zero, List.set_cons_succ, i64_w, i32_w]
    rfl
  refine last_ (i := 9) (N := none) #[true, true, true, true, true, true, true, true, true, true] rfl rfl (one_of HT_.out (by kernel_rfl)) (by decide) (fun K hK => ?_)
  have hs15 : w10.cell? ⟨gb2008, 7, none⟩ = some (.int .i64 a0_7) := (blk_cell BK2008.out 7).trans rfl
  have hfs15 := blk_frozen BK2008.out 7
  have hns15_1 := NB2009_2008.out
  have hms15_1 := NB2008_2009.out
  have hs17 : w10.cell? ⟨gb2008, 8, none⟩ = some (.slice A0_8 l0_8.length c0_8) := (blk_cell BK2008.out 8).trans rfl
  have hfs17 := blk_frozen BK2008.out 8
  have hns17_1 := NB2009_2008.out
  have hms17_1 := NB2008_2009.out
  have hs19 : w10.cell? ⟨gb2008, 9, none⟩ = some (.slice A0_9 l0_9.length c0_9) := (blk_cell BK2008.out 9).trans rfl
  have hfs19 := blk_frozen BK2008.out 9
  have hns19_1 := NB2009_2008.out
  have hms19_1 := NB2008_2009.out
  refine skip_ (w1 := ?_) (by rfl) rfl ?_ ?_
  rotate_left
  · go_simp
    rfl
  refine hK.out _ _ ?_
  clear hK K
  refine done_ (done_of HT_.out (by kernel_rfl)) ?_
  try go_wp2
  have n0_ : Aside0 (Kd.R Kd.string 9 ((((((w10.setCell ⟨gb2008, 4, none⟩ (.int .i64 t2010)).setCell ⟨gb2008, 5, none⟩ (.int .i64 t2011)).setCell ⟨gb2008, 6, none⟩ (.slice Ao13 t2012.length co13)).setCell ⟨gb2008, 7, none⟩ (.int .i64 t2015)).setCell ⟨gb2008, 8, none⟩ (.slice Ao16 t2016.length co16)).setCell ⟨gb2008, 9, none⟩ (.slice Ao18 t2019.length co18)) w.heap.size (fun k_ => some k_ ≠ (.slice Ao16 t2016.length co16 : Value).ownBlock) (.slice Ao13 t2012.length co13) t2012) := ⟨by (with_reducible repeat (first | apply Kd.R_alloc | apply Kd.R_drewN | apply Kd.R_drew)); exact Kd.R_mono (Kd.R_far (p := ⟨gb2008, 9, none⟩) (Kd.R_far (p := ⟨gb2008, 8, none⟩) (Kd.R_far (p := ⟨gb2008, 7, none⟩) (Kd.R_far (p := ⟨gb2008, 6, none⟩) (Kd.R_far (p := ⟨gb2008, 5, none⟩) (Kd.R_far (p := ⟨gb2008, 4, none⟩) (Kd.R_types HO2014.out BK2008.out (by decide)) (fun _ hk => hk.2) (.int .i64 t2010)) (fun _ hk => hk.2) (.int .i64 t2011)) (fun _ hk => hk.2) (.slice Ao13 t2012.length co13)) (fun _ hk => hk.2) (.int .i64 t2015)) (fun _ hk => hk.2) (.slice Ao16 t2016.length co16)) (fun _ hk => hk.2) (.slice Ao18 t2019.length co18)) (fun _ hk => hk.1.2)⟩
  have n1_ : Aside0 (Kd.R Kd.string 9 ((((((w10.setCell ⟨gb2008, 4, none⟩ (.int .i64 t2010)).setCell ⟨gb2008, 5, none⟩ (.int .i64 t2011)).setCell ⟨gb2008, 6, none⟩ (.slice Ao13 t2012.length co13)).setCell ⟨gb2008, 7, none⟩ (.int .i64 t2015)).setCell ⟨gb2008, 8, none⟩ (.slice Ao16 t2016.length co16)).setCell ⟨gb2008, 9, none⟩ (.slice Ao18 t2019.length co18)) w.heap.size (fun k_ => some k_ ≠ (.slice Ao13 t2012.length co13 : Value).ownBlock) (.slice Ao16 t2016.length co16) t2016) := ⟨by (with_reducible repeat (first | apply Kd.R_alloc | apply Kd.R_drewN | apply Kd.R_drew)); exact Kd.R_mono (Kd.R_far (p := ⟨gb2008, 9, none⟩) (Kd.R_far (p := ⟨gb2008, 8, none⟩) (Kd.R_far (p := ⟨gb2008, 7, none⟩) (Kd.R_far (p := ⟨gb2008, 6, none⟩) (Kd.R_far (p := ⟨gb2008, 5, none⟩) (Kd.R_far (p := ⟨gb2008, 4, none⟩) (Kd.R_types HO2018.out BK2008.out (by decide)) (fun _ hk => hk.2) (.int .i64 t2010)) (fun _ hk => hk.2) (.int .i64 t2011)) (fun _ hk => hk.2) (.slice Ao13 t2012.length co13)) (fun _ hk => hk.2) (.int .i64 t2015)) (fun _ hk => hk.2) (.slice Ao16 t2016.length co16)) (fun _ hk => hk.2) (.slice Ao18 t2019.length co18)) (fun _ hk => hk.1.2)⟩
  have n2_ : Aside0 (Kd.R (Kd.int .i64) 3 ((((((w10.setCell ⟨gb2008, 4, none⟩ (.int .i64 t2010)).setCell ⟨gb2008, 5, none⟩ (.int .i64 t2011)).setCell ⟨gb2008, 6, none⟩ (.slice Ao13 t2012.length co13)).setCell ⟨gb2008, 7, none⟩ (.int .i64 t2015)).setCell ⟨gb2008, 8, none⟩ (.slice Ao16 t2016.length co16)).setCell ⟨gb2008, 9, none⟩ (.slice Ao18 t2019.length co18)) w.heap.size (fun _ => True) (.slice Ao18 t2019.length co18) t2019) := ⟨by (with_reducible repeat (first | apply Kd.R_alloc | apply Kd.R_drewN | apply Kd.R_drew)); exact Kd.R_mono (Kd.R_far (p := ⟨gb2008, 9, none⟩) (Kd.R_far (p := ⟨gb2008, 8, none⟩) (Kd.R_far (p := ⟨gb2008, 7, none⟩) (Kd.R_far (p := ⟨gb2008, 6, none⟩) (Kd.R_far (p := ⟨gb2008, 5, none⟩) (Kd.R_far (p := ⟨gb2008, 4, none⟩) (Kd.R_types HO2021.out BK2008.out (by decide)) (fun _ hk => hk.2) (.int .i64 t2010)) (fun _ hk => hk.2) (.int .i64 t2011)) (fun _ hk => hk.2) (.slice Ao13 t2012.length co13)) (fun _ hk => hk.2) (.int .i64 t2015)) (fun _ hk => hk.2) (.slice Ao16 t2016.length co16)) (fun _ hk => hk.2) (.slice Ao18 t2019.length co18)) (fun _ hk => trivial)⟩
  have n3_ : Aside0 (((((((w10.setCell ⟨gb2008, 4, none⟩ (.int .i64 t2010)).setCell ⟨gb2008, 5, none⟩ (.int .i64 t2011)).setCell ⟨gb2008, 6, none⟩ (.slice Ao13 t2012.length co13)).setCell ⟨gb2008, 7, none⟩ (.int .i64 t2015)).setCell ⟨gb2008, 8, none⟩ (.slice Ao16 t2016.length co16)).setCell ⟨gb2008, 9, none⟩ (.slice Ao18 t2019.length co18)).heap[gb2008]? = some (.cells #[.int .i64 a0_0, .int .i64 a0_1, .int .i64 a0_2, .string a0_3, .int .i64 t2010, .int .i64 t2011, .slice Ao13 t2012.length co13, .int .i64 t2015, .slice Ao16 t2016.length co16, .slice Ao18 t2019.length co18, .slice A0_10 l0_10.length c0_10, .bool a0_11, .slice A0_12 l0_12.length c0_12, .string a0_13] 113 (0, 0))) := ⟨by (with_reducible repeat (first | refine blk_drewN ?_ _ | refine blk_drew ?_ | refine blk_alloc ?_ _)); refine blk_put (cs := #[.int .i64 a0_0, .int .i64 a0_1, .int .i64 a0_2, .string a0_3, .int .i64 t2010, .int .i64 t2011, .slice Ao13 t2012.length co13, .int .i64 t2015, .slice Ao16 t2016.length co16, .slice A0_9 l0_9.length c0_9, .slice A0_10 l0_10.length c0_10, .bool a0_11, .slice A0_12 l0_12.length c0_12, .string a0_13]) ?_ 9 _ rfl; (with_reducible repeat (first | refine blk_drewN ?_ _ | refine blk_drew ?_ | refine blk_alloc ?_ _)); refine blk_put (cs := #[.int .i64 a0_0, .int .i64 a0_1, .int .i64 a0_2, .string a0_3, .int .i64 t2010, .int .i64 t2011, .slice Ao13 t2012.length co13, .int .i64 t2015, .slice A0_8 l0_8.length c0_8, .slice A0_9 l0_9.length c0_9, .slice A0_10 l0_10.length c0_10, .bool a0_11, .slice A0_12 l0_12.length c0_12, .string a0_13]) ?_ 8 _ rfl; (with_reducible repeat (first | refine blk_drewN ?_ _ | refine blk_drew ?_ | refine blk_alloc ?_ _)); refine blk_put (cs := #[.int .i64 a0_0, .int .i64 a0_1, .int .i64 a0_2, .string a0_3, .int .i64 t2010, .int .i64 t2011, .slice Ao13 t2012.length co13, .int .i64 a0_7, .slice A0_8 l0_8.length c0_8, .slice A0_9 l0_9.length c0_9, .slice A0_10 l0_10.length c0_10, .bool a0_11, .slice A0_12 l0_12.length c0_12, .string a0_13]) ?_ 7 _ rfl; (with_reducible repeat (first | refine blk_drewN ?_ _ | refine blk_drew ?_ | refine blk_alloc ?_ _)); refine blk_put (cs := #[.int .i64 a0_0, .int .i64 a0_1, .int .i64 a0_2, .string a0_3, .int .i64 t2010, .int .i64 t2011, .slice A0_6 l0_6.length c0_6, .int .i64 a0_7, .slice A0_8 l0_8.length c0_8, .slice A0_9 l0_9.length c0_9, .slice A0_10 l0_10.length c0_10, .bool a0_11, .slice A0_12 l0_12.length c0_12, .string a0_13]) ?_ 6 _ rfl; (with_reducible repeat (first | refine blk_drewN ?_ _ | refine blk_drew ?_ | refine blk_alloc ?_ _)); refine blk_put (cs := #[.int .i64 a0_0, .int .i64 a0_1, .int .i64 a0_2, .string a0_3, .int .i64 t2010, .int .i64 a0_5, .slice A0_6 l0_6.length c0_6, .int .i64 a0_7, .slice A0_8 l0_8.length c0_8, .slice A0_9 l0_9.length c0_9, .slice A0_10 l0_10.length c0_10, .bool a0_11, .slice A0_12 l0_12.length c0_12, .string a0_13]) ?_ 5 _ rfl; (with_reducible repeat (first | refine blk_drewN ?_ _ | refine blk_drew ?_ | refine blk_alloc ?_ _)); refine blk_put (cs := #[.int .i64 a0_0, .int .i64 a0_1, .int .i64 a0_2, .string a0_3, .int .i64 a0_4, .int .i64 a0_5, .slice A0_6 l0_6.length c0_6, .int .i64 a0_7, .slice A0_8 l0_8.length c0_8, .slice A0_9 l0_9.length c0_9, .slice A0_10 l0_10.length c0_10, .bool a0_11, .slice A0_12 l0_12.length c0_12, .string a0_13]) ?_ 4 _ rfl; (with_reducible repeat (first | refine blk_drewN ?_ _ | refine blk_drew ?_ | refine blk_alloc ?_ _)); exact BK2008.out⟩
  have n4_ : Aside0 (((((((w10.setCell ⟨gb2008, 4, none⟩ (.int .i64 t2010)).setCell ⟨gb2008, 5, none⟩ (.int .i64 t2011)).setCell ⟨gb2008, 6, none⟩ (.slice Ao13 t2012.length co13)).setCell ⟨gb2008, 7, none⟩ (.int .i64 t2015)).setCell ⟨gb2008, 8, none⟩ (.slice Ao16 t2016.length co16)).setCell ⟨gb2008, 9, none⟩ (.slice Ao18 t2019.length co18)).heap[gb2009]? = some (.cells #[.int .i64 0, .int .i64 0, .int .i64 0, .string (⟨#[]⟩ : ByteArray), .int .i64 0, .int .i64 0, .slice none 0 0, .int .i64 0, .slice none 0 0, .slice none 0 0, .slice none 0 0, .bool false, .slice none 0 0, .string (⟨#[]⟩ : ByteArray)] 113 (0, 0))) := ⟨by (with_reducible repeat (first | refine blk_drewN ?_ _ | refine blk_drew ?_ | refine blk_alloc ?_ _)); refine blk_far ?_ NB2009_2008.out _; (with_reducible repeat (first | refine blk_drewN ?_ _ | refine blk_drew ?_ | refine blk_alloc ?_ _)); refine blk_far ?_ NB2009_2008.out _; (with_reducible repeat (first | refine blk_drewN ?_ _ | refine blk_drew ?_ | refine blk_alloc ?_ _)); refine blk_far ?_ NB2009_2008.out _; (with_reducible repeat (first | refine blk_drewN ?_ _ | refine blk_drew ?_ | refine blk_alloc ?_ _)); refine blk_far ?_ NB2009_2008.out _; (with_reducible repeat (first | refine blk_drewN ?_ _ | refine blk_drew ?_ | refine blk_alloc ?_ _)); refine blk_far ?_ NB2009_2008.out _; (with_reducible repeat (first | refine blk_drewN ?_ _ | refine blk_drew ?_ | refine blk_alloc ?_ _)); refine blk_far ?_ NB2009_2008.out _; (with_reducible repeat (first | refine blk_drewN ?_ _ | refine blk_drew ?_ | refine blk_alloc ?_ _)); exact BK2009.out⟩
  have n5_ : Aside0 (Below w.heap.size w ((((((w10.setCell ⟨gb2008, 4, none⟩ (.int .i64 t2010)).setCell ⟨gb2008, 5, none⟩ (.int .i64 t2011)).setCell ⟨gb2008, 6, none⟩ (.slice Ao13 t2012.length co13)).setCell ⟨gb2008, 7, none⟩ (.int .i64 t2015)).setCell ⟨gb2008, 8, none⟩ (.slice Ao16 t2016.length co16)).setCell ⟨gb2008, 9, none⟩ (.slice Ao18 t2019.length co18))) := ⟨by repeat (first | (with_reducible first | exact HB.out | apply below_alloc | apply pw_below_drewN | apply below_drew1 | refine below_set ?_ GE2008.out | refine below_set ?_ GE2009.out) | exact HB.out)⟩
  (try clear HO2014)
  (try clear HO2018)
  (try clear HO2021)
  (try clear BK2008)
  (try clear BK2009)
  (try clear HB)
  generalize ((((((w10.setCell ⟨gb2008, 4, none⟩ (.int .i64 t2010)).setCell ⟨gb2008, 5, none⟩ (.int .i64 t2011)).setCell ⟨gb2008, 6, none⟩ (.slice Ao13 t2012.length co13)).setCell ⟨gb2008, 7, none⟩ (.int .i64 t2015)).setCell ⟨gb2008, 8, none⟩ (.slice Ao16 t2016.length co16)).setCell ⟨gb2008, 9, none⟩ (.slice Ao18 t2019.length co18)) = w20 at n0_ n1_ n2_ n3_ n4_ n5_ ⊢
  have HO2014 := n0_
  have HO2018 := n1_
  have HO2021 := n2_
  have BK2008 := n3_
  have BK2009 := n4_
  have HB := n5_
  clear n0_ n1_ n2_ n3_ n4_ n5_
  have n0_ := Aside0.mk (Kd.R_drew HO2014.out)
  have n1_ := Aside0.mk (Kd.R_drew HO2018.out)
  have n2_ := Aside0.mk (Kd.R_drew HO2021.out)
  have n3_ := Aside0.mk (blk_drew BK2008.out)
  have n4_ := Aside0.mk (blk_drew BK2009.out)
  have n5_ := Aside0.mk (below_drew1 HB.out)
  clear HO2014
  clear HO2018
  clear HO2021
  clear BK2008
  clear BK2009
  clear HB
  have HO2014 := n0_
  have HO2018 := n1_
  have HO2021 := n2_
  have BK2008 := n3_
  have BK2009 := n4_
  have HB := n5_
  clear n0_ n1_ n2_ n3_ n4_ n5_
  refine start_ (n := 10) (S := fun w' => w'.cell? ⟨gb2008, 0, none⟩ = some (.int .i64 a0_0) ∧ w'.cell? ⟨gb2008, 1, none⟩ = some (.int .i64 a0_1) ∧ w'.cell? ⟨gb2008, 2, none⟩ = some (.int .i64 a0_2) ∧ w'.cell? ⟨gb2008, 3, none⟩ = some (.string a0_3) ∧ w'.cell? ⟨gb2008, 4, none⟩ = some (.int .i64 t2010) ∧ w'.cell? ⟨gb2008, 5, none⟩ = some (.int .i64 t2011) ∧ w'.cell? ⟨gb2008, 6, none⟩ = some (.slice Ao13 t2012.length co13) ∧ w'.cell? ⟨gb2008, 7, none⟩ = some (.int .i64 t2015) ∧ w'.cell? ⟨gb2008, 8, none⟩ = some (.slice Ao16 t2016.length co16) ∧ w'.cell? ⟨gb2008, 9, none⟩ = some (.slice Ao18 t2019.length co18) ∧ w'.cell? ⟨gb2008, 10, none⟩ = some (.slice A0_10 l0_10.length c0_10) ∧ w'.cell? ⟨gb2008, 11, none⟩ = some (.bool a0_11) ∧ w'.cell? ⟨gb2008, 12, none⟩ = some (.slice A0_12 l0_12.length c0_12) ∧ w'.cell? ⟨gb2008, 13, none⟩ = some (.string a0_13)) (ds := [7, 9]) #[false, false, false, false, false, false, false, false, false, false] (by kernel_rfl) rfl rfl ⟨(blk_cell BK2008.out 0).trans rfl, (blk_cell BK2008.out 1).trans rfl, (blk_cell BK2008.out 2).trans rfl, (blk_cell BK2008.out 3).trans rfl, (blk_cell BK2008.out 4).trans rfl, (blk_cell BK2008.out 5).trans rfl, (blk_cell BK2008.out 6).trans rfl, (blk_cell BK2008.out 7).trans rfl, (blk_cell BK2008.out 8).trans rfl, (blk_cell BK2008.out 9).trans rfl, (blk_cell BK2008.out 10).trans rfl, (blk_cell BK2008.out 11).trans rfl, (blk_cell BK2008.out 12).trans rfl, (blk_cell BK2008.out 13).trans rfl⟩ (fun hHeld => ?_); refine with_tabW impl_copyBlock.tab2 impl_copyBlock.bits2 (fun HT_ HW_ => ?_)
  generalize w20.drew = w21 at HO2014 HO2018 HO2021 BK2008 BK2009 HB hHeld ⊢
  refine pure_ (i := 0) (N := some 11) (v := ?_) (a' := ?_) #[true, false, false, false, false, false, false, false, false, false] rfl rfl (any_of HT_.out (by kernel_rfl)) (fun _ _ _ h => h) (Or.inl ⟨by rfl, ?_⟩) ?_ ?_
  rotate_left
  · intro w'
    go_simp
    with_reducible rfl
  rotate_left
  · simp only [Act.put, List.setIfInBounds_toArray, List.set_cons_zero, List.set_cons_succ, i64_w, i32_w]
    rfl
  refine pure_ (i := 3) (N := some 14) (v := ?_) (a' := ?_) #[true, false, false, true, false, false, false, false, false, false] rfl rfl (any_of HT_.out (by kernel_rfl)) (fun _ _ _ h => h) (Or.inl ⟨by rfl, ?_⟩) ?_ ?_
  rotate_left
  · intro w'
    go_simp
    with_reducible rfl
  rotate_left
  · simp only [Act.put, List.setIfInBounds_toArray, List.set_cons_zero, List.set_cons_succ, i64_w, i32_w]
    rfl
  refine take_ (i := 1) (N := some 12) (v := ?_) (a' := ?_) #[true, true, false, true, false, false, false, false, false, false] rfl rfl (take_ofW HT_.out HW_.out (by kernel_rfl)) (fun _ _ _ h => h) (Or.inl ⟨by rfl, ?_⟩) hHeld ?_ ?_
  rotate_left
  · rintro w' ⟨s0, s1, s2, s3, s4, s5, s6, s7, s8, s9, s10, s11, s12, s13⟩
    go_simp
    with_reducible rfl
  rotate_left
  · simp only [Act.put, List.setIfInBounds_toArray, List.set_cons_zero, List.set_cons_succ, i64_w, i32_w]
    rfl
  refine take_ (i := 4) (N := some 15) (v := ?_) (a' := ?_) #[true, true, false, true, true, false, false, false, false, false] rfl rfl (take_ofW HT_.out HW_.out (by kernel_rfl)) (fun _ _ _ h => h) (Or.inl ⟨by rfl, ?_⟩) hHeld ?_ ?_
  rotate_left
  · rintro w' ⟨s0, s1, s2, s3, s4, s5, s6, s7, s8, s9, s10, s11, s12, s13⟩
    go_simp
    with_reducible rfl
  rotate_left
  · simp only [Act.put, List.setIfInBounds_toArray, List.set_cons_zero, List.set_cons_succ, i64_w, i32_w]
    rfl
  refine one_ (i := 2) (N := some 13) #[true, true, true, true, true, false, false, false, false, false] rfl rfl (one_of HT_.out (by kernel_rfl)) (by decide) (fun K hK => ?_)
  refine goes_ Try.func212 (by kernel_rfl) rfl #[.slice A0_10 l0_10.length c0_10] (by rfl) rfl rfl (by (try simp only [List.map_toArray, List.map_cons, List.map_nil]); first | done | rfl | (simp only [List.length_drop, List.length_take]; rfl)) ?_
  with_reducible refine (impl_Tx.calls _ _ l0_10 t2022 _ ?side1 ?side2 A4.out).mono ?_
  (case side1 => repeat (first | exact (Kd.C_below HR0_10.out HB.out) | (with_reducible refine Kd.C_alloc ?_ _) | (with_reducible refine Kd.C_drewN ?_ _) | (with_reducible refine Kd.C_drew ?_)))
  (case side2 => exact HC0_10.out)
  rintro e w22 ⟨v2023, rfl, ho0, hb⟩
  refine ⟨_, rfl, ?_⟩
  have n0_ := Aside0.mk (Kd.R_below (by (with_reducible repeat (first | apply Kd.R_alloc | apply Kd.R_drewN | apply Kd.R_drew)); exact HO2014.out) hb)
  have n1_ := Aside0.mk (Kd.R_below (by (with_reducible repeat (first | apply Kd.R_alloc | apply Kd.R_drewN | apply Kd.R_drew)); exact HO2018.out) hb)
  have n2_ := Aside0.mk (Kd.R_below (by (with_reducible repeat (first | apply Kd.R_alloc | apply Kd.R_drewN | apply Kd.R_drew)); exact HO2021.out) hb)
  have n3_ := Aside0.mk (Kd.R_lower ho0 (below_size (by repeat (first | (with_reducible first | exact HB.out | apply below_alloc | apply pw_below_drewN | apply below_drew1 | refine below_set ?_ GE2008.out | refine below_set ?_ GE2009.out) | exact HB.out))))
  have n4_ := Aside0.mk (blk_below (g := gb2008) (by (with_reducible repeat (first | refine blk_drewN ?_ _ | refine blk_drew ?_ | refine blk_alloc ?_ _)); exact BK2008.out) hb)
  have n5_ := Aside0.mk (blk_below (g := gb2009) (o := .cells #[.int .i64 0, .int .i64 0, .int .i64 0, .string (⟨#[]⟩ : ByteArray), .int .i64 0, .int .i64 0, .slice none 0 0, .int .i64 0, .slice none 0 0, .slice none 0 0, .slice none 0 0, .bool false, .slice none 0 0, .string (⟨#[]⟩ : ByteArray)] 113 (0, 0)) (by (with_reducible repeat (first | refine blk_drewN ?_ _ | refine blk_drew ?_ | refine blk_alloc ?_ _)); exact BK2009.out) hb)
  have n6_ := Aside0.mk (below_step (by repeat (first | (with_reducible first | exact HB.out | apply below_alloc | apply pw_below_drewN | apply below_drew1 | refine below_set ?_ GE2008.out | refine below_set ?_ GE2009.out) | exact HB.out)) hb)
  clear HO2014
  clear HO2018
  clear HO2021
  clear BK2008
  clear BK2009
  clear HB
  have HO2014 := n0_
  have HO2018 := n1_
  have HO2021 := n2_
  have HO2024 := n3_
  have BK2008 := n4_
  have BK2009 := n5_
  have HB := n6_
  clear n0_ n1_ n2_ n3_ n4_ n5_ n6_
  (try clear hb)
  (try clear hb2)
  (try clear hk)
  (try clear hi)
  (try clear ho0)
  refine hK.out _ _ ⟨(blk_cell BK2008.out 0).trans rfl, (blk_cell BK2008.out 1).trans rfl, (blk_cell BK2008.out 2).trans rfl, (blk_cell BK2008.out 3).trans rfl, (blk_cell BK2008.out 4).trans rfl, (blk_cell BK2008.out 5).trans rfl, (blk_cell BK2008.out 6).trans rfl, (blk_cell BK2008.out 7).trans rfl, (blk_cell BK2008.out 8).trans rfl, (blk_cell BK2008.out 9).trans rfl, (blk_cell BK2008.out 10).trans rfl, (blk_cell BK2008.out 11).trans rfl, (blk_cell BK2008.out 12).trans rfl, (blk_cell BK2008.out 13).trans rfl⟩ (fun hHeld => ?_)
  clear hK K
  refine norm_ (a' := ?_) ?_ ?_
  rotate_left
  · show Act.put _ (some 13) _ = _
    simp only [Act.put, List.setIfInBounds_toArray, List.set_cons_zero, List.set_cons_succ, i64_w, i32_w]
    rfl
  refine pure_ (i := 6) (N := some 17) (v := ?_) (a' := ?_) #[true, true, true, true, true, false, true, false, false, false] rfl rfl (any_of HT_.out (by kernel_rfl)) (fun _ _ _ h => h) (Or.inl ⟨by rfl, ?_⟩) ?_ ?_
  rotate_left
  · intro w'
    go_simp
    with_reducible rfl
  rotate_left
  · simp only [Act.put, List.setIfInBounds_toArray, List.set_cons_zero, List.set_cons_succ, i64_w, i32_w]
    rfl
  refine one_ (i := 5) (N := some 16) #[true, true, true, true, true, true, true, false, false, false] rfl rfl (one_of HT_.out (by kernel_rfl)) (by decide) (fun K hK => ?_)
  refine goes_ Try.func213 (by kernel_rfl) rfl #[.slice A0_12 l0_12.length c0_12] (by rfl) rfl rfl (by (try simp only [List.map_toArray, List.map_cons, List.map_nil]); first | done | rfl | (simp only [List.length_drop, List.length_take]; rfl)) ?_
  with_reducible refine (impl_Val_213.calls _ _ l0_12 t2025 _ ?side1 ?side2 A5.out).mono ?_
  (case side1 => repeat (first | exact (Kd.C_below HR0_12.out HB.out) | (with_reducible refine Kd.C_alloc ?_ _) | (with_reducible refine Kd.C_drewN ?_ _) | (with_reducible refine Kd.C_drew ?_)))
  (case side2 => exact HC0_12.out)
  rintro e w23 ⟨v2026, rfl, ho0, hb⟩
  refine ⟨_, rfl, ?_⟩
  have n0_ := Aside0.mk (Kd.R_below (by (with_reducible repeat (first | apply Kd.R_alloc | apply Kd.R_drewN | apply Kd.R_drew)); exact HO2014.out) hb)
  have n1_ := Aside0.mk (Kd.R_below (by (with_reducible repeat (first | apply Kd.R_alloc | apply Kd.R_drewN | apply Kd.R_drew)); exact HO2018.out) hb)
  have n2_ := Aside0.mk (Kd.R_below (by (with_reducible repeat (first | apply Kd.R_alloc | apply Kd.R_drewN | apply Kd.R_drew)); exact HO2021.out) hb)
  have n3_ := Aside0.mk (Kd.R_below (by (with_reducible repeat (first | apply Kd.R_alloc | apply Kd.R_drewN | apply Kd.R_drew)); exact HO2024.out) hb)
  have n4_ := Aside0.mk (Kd.R_lower ho0 (below_size (by repeat (first | (with_reducible first | exact HB.out | apply below_alloc | apply pw_below_drewN | apply below_drew1 | refine below_set ?_ GE2008.out | refine below_set ?_ GE2009.out) | exact HB.out))))
  have n5_ := Aside0.mk (blk_below (g := gb2008) (by (with_reducible repeat (first | refine blk_drewN ?_ _ | refine blk_drew ?_ | refine blk_alloc ?_ _)); exact BK2008.out) hb)
  have n6_ := Aside0.mk (blk_below (g := gb2009) (o := .cells #[.int .i64 0, .int .i64 0, .int .i64 0, .string (⟨#[]⟩ : ByteArray), .int .i64 0, .int .i64 0, .slice none 0 0, .int .i64 0, .slice none 0 0, .slice none 0 0, .slice none 0 0, .bool false, .slice none 0 0, .string (⟨#[]⟩ : ByteArray)] 113 (0, 0)) (by (with_reducible repeat (first | refine blk_drewN ?_ _ | refine blk_drew ?_ | refine blk_alloc ?_ _)); exact BK2009.out) hb)
  have n7_ := Aside0.mk (below_step (by repeat (first | (with_reducible first | exact HB.out | apply below_alloc | apply pw_below_drewN | apply below_drew1 | refine below_set ?_ GE2008.out | refine below_set ?_ GE2009.out) | exact HB.out)) hb)
  clear HO2014
  clear HO2018
  clear HO2021
  clear HO2024
  clear BK2008
  clear BK2009
  clear HB
  have HO2014 := n0_
  have HO2018 := n1_
  have HO2021 := n2_
  have HO2024 := n3_
  have HO2027 := n4_
  have BK2008 := n5_
  have BK2009 := n6_
  have HB := n7_
  clear n0_ n1_ n2_ n3_ n4_ n5_ n6_ n7_
  (try clear hb)
  (try clear hb2)
  (try clear hk)
  (try clear hi)
  (try clear ho0)
  obtain ⟨Ao24, co24, eo24⟩ := Kd.R_slice HO2024.out
  (first | subst eo24 | (injection eo24 with f1_ f2_ f3_; have f4_ := f1_.symm; have f5_ := f3_.symm; clear f1_ f2_ f3_; subst f4_; subst f5_))
  obtain ⟨Ao26, co26, eo26⟩ := Kd.R_slice HO2027.out
  (first | subst eo26 | (injection eo26 with f1_ f2_ f3_; have f4_ := f1_.symm; have f5_ := f3_.symm; clear f1_ f2_ f3_; subst f4_; subst f5_))
  refine hK.out _ _ ⟨(blk_cell BK2008.out 0).trans rfl, (blk_cell BK2008.out 1).trans rfl, (blk_cell BK2008.out 2).trans rfl, (blk_cell BK2008.out 3).trans rfl, (blk_cell BK2008.out 4).trans rfl, (blk_cell BK2008.out 5).trans rfl, (blk_cell BK2008.out 6).trans rfl, (blk_cell BK2008.out 7).trans rfl, (blk_cell BK2008.out 8).trans rfl, (blk_cell BK2008.out 9).trans rfl, (blk_cell BK2008.out 10).trans rfl, (blk_cell BK2008.out 11).trans rfl, (blk_cell BK2008.out 12).trans rfl, (blk_cell BK2008.out 13).trans rfl⟩ (fun hHeld => ?_)
  clear hK K
  refine norm_ (a' := ?_) ?_ ?_
  rotate_left
  · show Act.put _ (some 16) _ = _
    simp only [Act.put, List.setIfInBounds_toArray, List.set_cons_zero, List.set_cons_succ, i64_w, i32_w]
    rfl
  refine last_ (i := 7) (N := none) #[true, true, true, true, true, true, true, true, false, false] rfl rfl (one_of HT_.out (by kernel_rfl)) (by decide) (fun K hK => ?_)
  have hs25 : w23.cell? ⟨gb2008, 10, none⟩ = some (.slice A0_10 l0_10.length c0_10) := (blk_cell BK2008.out 10).trans rfl
  have hfs25 := blk_frozen BK2008.out 10
  have hns25_1 := NB2009_2008.out
  have hms25_1 := NB2008_2009.out
  refine skip_ (w1 := ?_) (by rfl) rfl ?_ ?_
  rotate_left
  · go_simp
    rfl
  refine hK.out _ _ ?_
  clear hK K
  refine pure_ (i := 8) (N := some 18) (v := ?_) (a' := ?_) #[true, true, true, true, true, true, true, true, true, false] rfl rfl (any_of HT_.out (by kernel_rfl)) (fun _ _ _ h => h) (Or.inl ⟨by rfl, ?_⟩) ?_ ?_
  rotate_left
  · intro w'
    go_simp
    with_reducible rfl
  rotate_left
  · simp only [Act.put, List.setIfInBounds_toArray, List.set_cons_zero, List.set_cons_succ, i64_w, i32_w]
    rfl
  refine last_ (i := 9) (N := none) #[true, true, true, true, true, true, true, true, true, true] rfl rfl (one_of HT_.out (by kernel_rfl)) (by decide) (fun K hK => ?_)
  have hs27 : w23.cell? ⟨gb2008, 12, none⟩ = some (.slice A0_12 l0_12.length c0_12) := (blk_cell BK2008.out 12).trans rfl
  have hfs27 := blk_frozen BK2008.out 12
  have hns27_1 := NB2009_2008.out
  have hms27_1 := NB2008_2009.out
  refine skip_ (w1 := ?_) (by rfl) rfl ?_ ?_
  rotate_left
  · go_simp
    rfl
  refine hK.out _ _ ?_
  clear hK K
  refine done_ (done_of HT_.out (by kernel_rfl)) ?_
  have hnb28 := NB2008_2009.out
  have hnc28 := NB2009_2008.out
  obtain ⟨hcz29_0, hcz29_1, hcz29_2, hcz29_3, hcz29_4, hcz29_5, hcz29_6, hcz29_7, hcz29_8, hcz29_9, hcz29_10, hcz29_11, hcz29_12, hcz29_13⟩ := cells14 BK2008.out
  obtain ⟨hfz29_0, hfz29_1, hfz29_2, hfz29_3, hfz29_4, hfz29_5, hfz29_6, hfz29_7, hfz29_8, hfz29_9, hfz29_10, hfz29_11, hfz29_12, hfz29_13⟩ := frozens14 BK2008.out
  obtain ⟨hcz30_0, hcz30_1, hcz30_2, hcz30_3, hcz30_4, hcz30_5, hcz30_6, hcz30_7, hcz30_8, hcz30_9, hcz30_10, hcz30_11, hcz30_12, hcz30_13⟩ := cells14 BK2009.out
  obtain ⟨hfz30_0, hfz30_1, hfz30_2, hfz30_3, hfz30_4, hfz30_5, hfz30_6, hfz30_7, hfz30_8, hfz30_9, hfz30_10, hfz30_11, hfz30_12, hfz30_13⟩ := frozens14 BK2009.out
  try go_wp2
  refine bodyPost_ret (results_cell_row rfl _ _ gb2009 113 #[.int .i64 a0_0, .int .i64 a0_1, .int .i64 a0_2, .string a0_3, .int .i64 t2010, .int .i64 t2011, .slice Ao13 t2012.length co13, .int .i64 t2015, .slice Ao16 t2016.length co16, .slice Ao18 t2019.length co18, .slice Ao24 t2022.length co24, .bool a0_11, .slice Ao26 t2025.length co26, .string a0_13] (0, 0) _ rfl (by (with_reducible repeat (first | refine blk_drewN ?_ _ | refine blk_drew ?_ | refine blk_alloc ?_ _)); refine blk_put (cs := #[.int .i64 a0_0, .int .i64 a0_1, .int .i64 a0_2, .string a0_3, .int .i64 t2010, .int .i64 t2011, .slice Ao13 t2012.length co13, .int .i64 t2015, .slice Ao16 t2016.length co16, .slice Ao18 t2019.length co18, .slice Ao24 t2022.length co24, .bool a0_11, .slice Ao26 t2025.length co26, .string (⟨#[]⟩ : ByteArray)]) ?_ 13 _ rfl; (with_reducible repeat (first | refine blk_drewN ?_ _ | refine blk_drew ?_ | refine blk_alloc ?_ _)); refine blk_put (cs := #[.int .i64 a0_0, .int .i64 a0_1, .int .i64 a0_2, .string a0_3, .int .i64 t2010, .int .i64 t2011, .slice Ao13 t2012.length co13, .int .i64 t2015, .slice Ao16 t2016.length co16, .slice Ao18 t2019.length co18, .slice Ao24 t2022.length co24, .bool a0_11, .slice none 0 0, .string (⟨#[]⟩ : ByteArray)]) ?_ 12 _ rfl; (with_reducible repeat (first | refine blk_drewN ?_ _ | refine blk_drew ?_ | refine blk_alloc ?_ _)); refine blk_put (cs := #[.int .i64 a0_0, .int .i64 a0_1, .int .i64 a0_2, .string a0_3, .int .i64 t2010, .int .i64 t2011, .slice Ao13 t2012.length co13, .int .i64 t2015, .slice Ao16 t2016.length co16, .slice Ao18 t2019.length co18, .slice Ao24 t2022.length co24, .bool false, .slice none 0 0, .string (⟨#[]⟩ : ByteArray)]) ?_ 11 _ rfl; (with_reducible repeat (first | refine blk_drewN ?_ _ | refine blk_drew ?_ | refine blk_alloc ?_ _)); refine blk_put (cs := #[.int .i64 a0_0, .int .i64 a0_1, .int .i64 a0_2, .string a0_3, .int .i64 t2010, .int .i64 t2011, .slice Ao13 t2012.length co13, .int .i64 t2015, .slice Ao16 t2016.length co16, .slice Ao18 t2019.length co18, .slice none 0 0, .bool false, .slice none 0 0, .string (⟨#[]⟩ : ByteArray)]) ?_ 10 _ rfl; (with_reducible repeat (first | refine blk_drewN ?_ _ | refine blk_drew ?_ | refine blk_alloc ?_ _)); refine blk_put (cs := #[.int .i64 a0_0, .int .i64 a0_1, .int .i64 a0_2, .string a0_3, .int .i64 t2010, .int .i64 t2011, .slice Ao13 t2012.length co13, .int .i64 t2015, .slice Ao16 t2016.length co16, .slice none 0 0, .slice none 0 0, .bool false, .slice none 0 0, .string (⟨#[]⟩ : ByteArray)]) ?_ 9 _ rfl; (with_reducible repeat (first | refine blk_drewN ?_ _ | refine blk_drew ?_ | refine blk_alloc ?_ _)); refine blk_put (cs := #[.int .i64 a0_0, .int .i64 a0_1, .int .i64 a0_2, .string a0_3, .int .i64 t2010, .int .i64 t2011, .slice Ao13 t2012.length co13, .int .i64 t2015, .slice none 0 0, .slice none 0 0, .slice none 0 0, .bool false, .slice none 0 0, .string (⟨#[]⟩ : ByteArray)]) ?_ 8 _ rfl; (with_reducible repeat (first | refine blk_drewN ?_ _ | refine blk_drew ?_ | refine blk_alloc ?_ _)); refine blk_put (cs := #[.int .i64 a0_0, .int .i64 a0_1, .int .i64 a0_2, .string a0_3, .int .i64 t2010, .int .i64 t2011, .slice Ao13 t2012.length co13, .int .i64 0, .slice none 0 0, .slice none 0 0, .slice none 0 0, .bool false, .slice none 0 0, .string (⟨#[]⟩ : ByteArray)]) ?_ 7 _ rfl; (with_reducible repeat (first | refine blk_drewN ?_ _ | refine blk_drew ?_ | refine blk_alloc ?_ _)); refine blk_put (cs := #[.int .i64 a0_0, .int .i64 a0_1, .int .i64 a0_2, .string a0_3, .int .i64 t2010, .int .i64 t2011, .slice none 0 0, .int .i64 0, .slice none 0 0, .slice none 0 0, .slice none 0 0, .bool false, .slice none 0 0, .string (⟨#[]⟩ : ByteArray)]) ?_ 6 _ rfl; (with_reducible repeat (first | refine blk_drewN ?_ _ | refine blk_drew ?_ | refine blk_alloc ?_ _)); refine blk_put (cs := #[.int .i64 a0_0, .int .i64 a0_1, .int .i64 a0_2, .string a0_3, .int .i64 t2010, .int .i64 0, .slice none 0 0, .int .i64 0, .slice none 0 0, .slice none 0 0, .slice none 0 0, .bool false, .slice none 0 0, .string (⟨#[]⟩ : ByteArray)]) ?_ 5 _ rfl; (with_reducible repeat (first | refine blk_drewN ?_ _ | refine blk_drew ?_ | refine blk_alloc ?_ _)); refine blk_put (cs := #[.int .i64 a0_0, .int .i64 a0_1, .int .i64 a0_2, .string a0_3, .int .i64 0, .int .i64 0, .slice none 0 0, .int .i64 0, .slice none 0 0, .slice none 0 0, .slice none 0 0, .bool false, .slice none 0 0, .string (⟨#[]⟩ : ByteArray)]) ?_ 4 _ rfl; (with_reducible repeat (first | refine blk_drewN ?_ _ | refine blk_drew ?_ | refine blk_alloc ?_ _)); refine blk_put (cs := #[.int .i64 a0_0, .int .i64 a0_1, .int .i64 a0_2, .string (⟨#[]⟩ : ByteArray), .int .i64 0, .int .i64 0, .slice none 0 0, .int .i64 0, .slice none 0 0, .slice none 0 0, .slice none 0 0, .bool false, .slice none 0 0, .string (⟨#[]⟩ : ByteArray)]) ?_ 3 _ rfl; (with_reducible repeat (first | refine blk_drewN ?_ _ | refine blk_drew ?_ | refine blk_alloc ?_ _)); refine blk_put (cs := #[.int .i64 a0_0, .int .i64 a0_1, .int .i64 0, .string (⟨#[]⟩ : ByteArray), .int .i64 0, .int .i64 0, .slice none 0 0, .int .i64 0, .slice none 0 0, .slice none 0 0, .slice none 0 0, .bool false, .slice none 0 0, .string (⟨#[]⟩ : ByteArray)]) ?_ 2 _ rfl; (with_reducible repeat (first | refine blk_drewN ?_ _ | refine blk_drew ?_ | refine blk_alloc ?_ _)); refine blk_put (cs := #[.int .i64 a0_0, .int .i64 0, .int .i64 0, .string (⟨#[]⟩ : ByteArray), .int .i64 0, .int .i64 0, .slice none 0 0, .int .i64 0, .slice none 0 0, .slice none 0 0, .slice none 0 0, .bool false, .slice none 0 0, .string (⟨#[]⟩ : ByteArray)]) ?_ 1 _ rfl; (with_reducible repeat (first | refine blk_drewN ?_ _ | refine blk_drew ?_ | refine blk_alloc ?_ _)); refine blk_put (cs := #[.int .i64 0, .int .i64 0, .int .i64 0, .string (⟨#[]⟩ : ByteArray), .int .i64 0, .int .i64 0, .slice none 0 0, .int .i64 0, .slice none 0 0, .slice none 0 0, .slice none 0 0, .bool false, .slice none 0 0, .string (⟨#[]⟩ : ByteArray)]) ?_ 0 _ rfl; (with_reducible repeat (first | refine blk_drewN ?_ _ | refine blk_drew ?_ | refine blk_alloc ?_ _)); refine blk_far ?_ NB2009_2008.out _; (with_reducible repeat (first | refine blk_drewN ?_ _ | refine blk_drew ?_ | refine blk_alloc ?_ _)); refine blk_far ?_ NB2009_2008.out _; (with_reducible repeat (first | refine blk_drewN ?_ _ | refine blk_drew ?_ | refine blk_alloc ?_ _)); exact BK2009.out) Try.underlying113 rfl (by kernel_rfl)) rfl ?_
  exact ⟨_, _, _, _, _, by first | rfl | (simp [errW_none, errW_some] <;> rfl) | (simp [*, errW_none, errW_some] <;> rfl), by (with_reducible repeat (first | apply Kd.R_alloc | apply Kd.R_drewN | apply Kd.R_drew)); exact Kd.R_mono (Kd.R_far (p := ⟨gb2009, 13, none⟩) (Kd.R_far (p := ⟨gb2009, 12, none⟩) (Kd.R_far (p := ⟨gb2009, 11, none⟩) (Kd.R_far (p := ⟨gb2009, 10, none⟩) (Kd.R_far (p := ⟨gb2009, 9, none⟩) (Kd.R_far (p := ⟨gb2009, 8, none⟩) (Kd.R_far (p := ⟨gb2009, 7, none⟩) (Kd.R_far (p := ⟨gb2009, 6, none⟩) (Kd.R_far (p := ⟨gb2009, 5, none⟩) (Kd.R_far (p := ⟨gb2009, 4, none⟩) (Kd.R_far (p := ⟨gb2009, 3, none⟩) (Kd.R_far (p := ⟨gb2009, 2, none⟩) (Kd.R_far (p := ⟨gb2009, 1, none⟩) (Kd.R_far (p := ⟨gb2009, 0, none⟩) (Kd.R_far (p := ⟨gb2008, 12, none⟩) (Kd.R_far (p := ⟨gb2008, 10, none⟩) (Kd.R_types (Kd.R_types HO2014.out BK2008.out (by decide)) BK2009.out (by decide)) (fun _ hk => hk.1.2) (.slice Ao24 t2022.length co24)) (fun _ hk => hk.1.2) (.slice Ao26 t2025.length co26)) (fun _ hk => hk.2) (.int .i64 a0_0)) (fun _ hk => hk.2) (.int .i64 a0_1)) (fun _ hk => hk.2) (.int .i64 a0_2)) (fun _ hk => hk.2) (.string a0_3)) (fun _ hk => hk.2) (.int .i64 t2010)) (fun _ hk => hk.2) (.int .i64 t2011)) (fun _ hk => hk.2) (.slice Ao13 t2012.length co13)) (fun _ hk => hk.2) (.int .i64 t2015)) (fun _ hk => hk.2) (.slice Ao16 t2016.length co16)) (fun _ hk => hk.2) (.slice Ao18 t2019.length co18)) (fun _ hk => hk.2) (.slice Ao24 t2022.length co24)) (fun _ hk => hk.2) (.bool a0_11)) (fun _ hk => hk.2) (.slice Ao26 t2025.length co26)) (fun _ hk => hk.2) (.string a0_13)) (fun _ hk => hk.1.1), by (with_reducible repeat (first | apply Kd.R_alloc | apply Kd.R_drewN | apply Kd.R_drew)); exact Kd.R_mono (Kd.R_far (p := ⟨gb2009, 13, none⟩) (Kd.R_far (p := ⟨gb2009, 12, none⟩) (Kd.R_far (p := ⟨gb2009, 11, none⟩) (Kd.R_far (p := ⟨gb2009, 10, none⟩) (Kd.R_far (p := ⟨gb2009, 9, none⟩) (Kd.R_far (p := ⟨gb2009, 8, none⟩) (Kd.R_far (p := ⟨gb2009, 7, none⟩) (Kd.R_far (p := ⟨gb2009, 6, none⟩) (Kd.R_far (p := ⟨gb2009, 5, none⟩) (Kd.R_far (p := ⟨gb2009, 4, none⟩) (Kd.R_far (p := ⟨gb2009, 3, none⟩) (Kd.R_far (p := ⟨gb2009, 2, none⟩) (Kd.R_far (p := ⟨gb2009, 1, none⟩) (Kd.R_far (p := ⟨gb2009, 0, none⟩) (Kd.R_far (p := ⟨gb2008, 12, none⟩) (Kd.R_far (p := ⟨gb2008, 10, none⟩) (Kd.R_types (Kd.R_types HO2018.out BK2008.out (by decide)) BK2009.out (by decide)) (fun _ hk => hk.1.2) (.slice Ao24 t2022.length co24)) (fun _ hk => hk.1.2) (.slice Ao26 t2025.length co26)) (fun _ hk => hk.2) (.int .i64 a0_0)) (fun _ hk => hk.2) (.int .i64 a0_1)) (fun _ hk => hk.2) (.int .i64 a0_2)) (fun _ hk => hk.2) (.string a0_3)) (fun _ hk => hk.2) (.int .i64 t2010)) (fun _ hk => hk.2) (.int .i64 t2011)) (fun _ hk => hk.2) (.slice Ao13 t2012.length co13)) (fun _ hk => hk.2) (.int .i64 t2015)) (fun _ hk => hk.2) (.slice Ao16 t2016.length co16)) (fun _ hk => hk.2) (.slice Ao18 t2019.length co18)) (fun _ hk => hk.2) (.slice Ao24 t2022.length co24)) (fun _ hk => hk.2) (.bool a0_11)) (fun _ hk => hk.2) (.slice Ao26 t2025.length co26)) (fun _ hk => hk.2) (.string a0_13)) (fun _ hk => hk.1.1), by (with_reducible repeat (first | apply Kd.R_alloc | apply Kd.R_drewN | apply Kd.R_drew)); exact Kd.R_mono (Kd.R_far (p := ⟨gb2009, 13, none⟩) (Kd.R_far (p := ⟨gb2009, 12, none⟩) (Kd.R_far (p := ⟨gb2009, 11, none⟩) (Kd.R_far (p := ⟨gb2009, 10, none⟩) (Kd.R_far (p := ⟨gb2009, 9, none⟩) (Kd.R_far (p := ⟨gb2009, 8, none⟩) (Kd.R_far (p := ⟨gb2009, 7, none⟩) (Kd.R_far (p := ⟨gb2009, 6, none⟩) (Kd.R_far (p := ⟨gb2009, 5, none⟩) (Kd.R_far (p := ⟨gb2009, 4, none⟩) (Kd.R_far (p := ⟨gb2009, 3, none⟩) (Kd.R_far (p := ⟨gb2009, 2, none⟩) (Kd.R_far (p := ⟨gb2009, 1, none⟩) (Kd.R_far (p := ⟨gb2009, 0, none⟩) (Kd.R_far (p := ⟨gb2008, 12, none⟩) (Kd.R_far (p := ⟨gb2008, 10, none⟩) (Kd.R_types (Kd.R_types HO2021.out BK2008.out (by decide)) BK2009.out (by decide)) (fun _ hk => hk.1.2) (.slice Ao24 t2022.length co24)) (fun _ hk => hk.1.2) (.slice Ao26 t2025.length co26)) (fun _ hk => hk.2) (.int .i64 a0_0)) (fun _ hk => hk.2) (.int .i64 a0_1)) (fun _ hk => hk.2) (.int .i64 a0_2)) (fun _ hk => hk.2) (.string a0_3)) (fun _ hk => hk.2) (.int .i64 t2010)) (fun _ hk => hk.2) (.int .i64 t2011)) (fun _ hk => hk.2) (.slice Ao13 t2012.length co13)) (fun _ hk => hk.2) (.int .i64 t2015)) (fun _ hk => hk.2) (.slice Ao16 t2016.length co16)) (fun _ hk => hk.2) (.slice Ao18 t2019.length co18)) (fun _ hk => hk.2) (.slice Ao24 t2022.length co24)) (fun _ hk => hk.2) (.bool a0_11)) (fun _ hk => hk.2) (.slice Ao26 t2025.length co26)) (fun _ hk => hk.2) (.string a0_13)) (fun _ hk => trivial), by (with_reducible repeat (first | apply Kd.R_alloc | apply Kd.R_drewN | apply Kd.R_drew)); exact Kd.R_mono (Kd.R_far (p := ⟨gb2009, 13, none⟩) (Kd.R_far (p := ⟨gb2009, 12, none⟩) (Kd.R_far (p := ⟨gb2009, 11, none⟩) (Kd.R_far (p := ⟨gb2009, 10, none⟩) (Kd.R_far (p := ⟨gb2009, 9, none⟩) (Kd.R_far (p := ⟨gb2009, 8, none⟩) (Kd.R_far (p := ⟨gb2009, 7, none⟩) (Kd.R_far (p := ⟨gb2009, 6, none⟩) (Kd.R_far (p := ⟨gb2009, 5, none⟩) (Kd.R_far (p := ⟨gb2009, 4, none⟩) (Kd.R_far (p := ⟨gb2009, 3, none⟩) (Kd.R_far (p := ⟨gb2009, 2, none⟩) (Kd.R_far (p := ⟨gb2009, 1, none⟩) (Kd.R_far (p := ⟨gb2009, 0, none⟩) (Kd.R_far (p := ⟨gb2008, 12, none⟩) (Kd.R_far (p := ⟨gb2008, 10, none⟩) (Kd.R_types (Kd.R_types HO2024.out BK2008.out (by decide)) BK2009.out (by decide)) (fun _ hk => hk.1.2) (.slice Ao24 t2022.length co24)) (fun _ hk => hk.1.2) (.slice Ao26 t2025.length co26)) (fun _ hk => hk.2) (.int .i64 a0_0)) (fun _ hk => hk.2) (.int .i64 a0_1)) (fun _ hk => hk.2) (.int .i64 a0_2)) (fun _ hk => hk.2) (.string a0_3)) (fun _ hk => hk.2) (.int .i64 t2010)) (fun _ hk => hk.2) (.int .i64 t2011)) (fun _ hk => hk.2) (.slice Ao13 t2012.length co13)) (fun _ hk => hk.2) (.int .i64 t2015)) (fun _ hk => hk.2) (.slice Ao16 t2016.length co16)) (fun _ hk => hk.2) (.slice Ao18 t2019.length co18)) (fun _ hk => hk.2) (.slice Ao24 t2022.length co24)) (fun _ hk => hk.2) (.bool a0_11)) (fun _ hk => hk.2) (.slice Ao26 t2025.length co26)) (fun _ hk => hk.2) (.string a0_13)) (fun _ hk => trivial), by (with_reducible repeat (first | apply Kd.R_alloc | apply Kd.R_drewN | apply Kd.R_drew)); exact Kd.R_mono (Kd.R_far (p := ⟨gb2009, 13, none⟩) (Kd.R_far (p := ⟨gb2009, 12, none⟩) (Kd.R_far (p := ⟨gb2009, 11, none⟩) (Kd.R_far (p := ⟨gb2009, 10, none⟩) (Kd.R_far (p := ⟨gb2009, 9, none⟩) (Kd.R_far (p := ⟨gb2009, 8, none⟩) (Kd.R_far (p := ⟨gb2009, 7, none⟩) (Kd.R_far (p := ⟨gb2009, 6, none⟩) (Kd.R_far (p := ⟨gb2009, 5, none⟩) (Kd.R_far (p := ⟨gb2009, 4, none⟩) (Kd.R_far (p := ⟨gb2009, 3, none⟩) (Kd.R_far (p := ⟨gb2009, 2, none⟩) (Kd.R_far (p := ⟨gb2009, 1, none⟩) (Kd.R_far (p := ⟨gb2009, 0, none⟩) (Kd.R_far (p := ⟨gb2008, 12, none⟩) (Kd.R_far (p := ⟨gb2008, 10, none⟩) (Kd.R_types (Kd.R_types HO2027.out BK2008.out (by decide)) BK2009.out (by decide)) (fun _ hk => hk.1.2) (.slice Ao24 t2022.length co24)) (fun _ hk => hk.1.2) (.slice Ao26 t2025.length co26)) (fun _ hk => hk.2) (.int .i64 a0_0)) (fun _ hk => hk.2) (.int .i64 a0_1)) (fun _ hk => hk.2) (.int .i64 a0_2)) (fun _ hk => hk.2) (.string a0_3)) (fun _ hk => hk.2) (.int .i64 t2010)) (fun _ hk => hk.2) (.int .i64 t2011)) (fun _ hk => hk.2) (.slice Ao13 t2012.length co13)) (fun _ hk => hk.2) (.int .i64 t2015)) (fun _ hk => hk.2) (.slice Ao16 t2016.length co16)) (fun _ hk => hk.2) (.slice Ao18 t2019.length co18)) (fun _ hk => hk.2) (.slice Ao24 t2022.length co24)) (fun _ hk => hk.2) (.bool a0_11)) (fun _ hk => hk.2) (.slice Ao26 t2025.length co26)) (fun _ hk => hk.2) (.string a0_13)) (fun _ hk => trivial), by repeat (first | (with_reducible first | exact HB.out | apply below_alloc | apply pw_below_drewN | apply below_drew1 | refine below_set ?_ GE2008.out | refine below_set ?_ GE2009.out) | exact HB.out)⟩

/-! ### impl_BlockAt: function 79 -/
def impl_BlockAt.f (k : Nat) (l0 : List (S113)) (a1 : Int) : Option (Int × Int × Int × ByteArray × Int × Int × List ByteArray × Int × List ByteArray × List Int × (List (S186)) × Bool × (List (S138)) × ByteArray × Bool) := (impl_blockAt.f k l0 a1).bind fun t2029 => (if t2029 < 0 then (some (0, 0, 0, (⟨#[]⟩ : ByteArray), 0, 0, ([] : List ByteArray), 0, ([] : List ByteArray), ([] : List Int), ([] : List (S186)), false, ([] : List (S138)), (⟨#[]⟩ : ByteArray), false)) else (if 0 ≤ t2029 then (if t2029 < (l0.length : Int) then ((impl_copyBlock.f ((rd_T113 l0 t2029).f0) ((rd_T113 l0 t2029).f1) ((rd_T113 l0 t2029).f2) ((rd_T113 l0 t2029).f3) ((rd_T113 l0 t2029).f4.f0) ((rd_T113 l0 t2029).f4.f1) ((rd_T113 l0 t2029).f4.f2) ((rd_T113 l0 t2029).f5.f0) ((rd_T113 l0 t2029).f5.f1) ((rd_T113 l0 t2029).f5.f2) ((rd_T113 l0 t2029).f6) ((rd_T113 l0 t2029).f7) ((rd_T113 l0 t2029).f8) ((rd_T113 l0 t2029).f9)).bind fun bt2031 => (some (bt2031.1, bt2031.2.1, bt2031.2.2.1, bt2031.2.2.2.1, bt2031.2.2.2.2.1, bt2031.2.2.2.2.2.1, bt2031.2.2.2.2.2.2.1, bt2031.2.2.2.2.2.2.2.1, bt2031.2.2.2.2.2.2.2.2.1, bt2031.2.2.2.2.2.2.2.2.2.1, bt2031.2.2.2.2.2.2.2.2.2.2.1, bt2031.2.2.2.2.2.2.2.2.2.2.2.1, bt2031.2.2.2.2.2.2.2.2.2.2.2.2.1, bt2031.2.2.2.2.2.2.2.2.2.2.2.2.2, true))) else (none)) else (none)))
theorem impl_BlockAt.mono : ∀ a0 a1 k, LeO (impl_BlockAt.f k a0 a1) (impl_BlockAt.f (k + 1) a0 a1) := by
  intro a0 a1 k
  unfold impl_BlockAt.f
  repeat' first
      | (with_reducible exact impl_blockAt.mono _ _ _)
      | (with_reducible exact LeO.refl _)
      | (with_reducible exact LeO.none _)
      | (with_reducible refine LeO.ite ?_ ?_)
      | (with_reducible refine LeO.bind ?_ (fun _ => ?_))
      | exact impl_blockAt.mono _ _ _
      | exact LeO.none _
      | refine LeO.ite ?_ ?_
      | refine LeO.bind ?_ (fun _ => ?_)
set_option maxHeartbeats 8000000 in
set_option maxRecDepth 100000 in
theorem impl_BlockAt.calls (k : Nat) (A0 : Option Addr) (c0 : Nat) (l0 : List (S113)) (a1 : Int) (r1 : Int) (r2 : Int) (r3 : Int) (r4 : ByteArray) (r5 : Int) (r6 : Int) (r7 : List ByteArray) (r8 : Int) (r9 : List ByteArray) (r10 : List Int) (r11 : List (S186)) (r12 : Bool) (r13 : List (S138)) (r14 : ByteArray) (r15 : Bool) (w : World) (hr0 : Kd.C k113 w A0 l0.length l0) (hc0 : l0.length ≤ c0) (h : impl_BlockAt.f k l0 a1 = some (r1, r2, r3, r4, r5, r6, r7, r8, r9, r10, r11, r12, r13, r14, r15)) :
    Calls Try.prog 79 #[.slice A0 l0.length c0, .int .i64 a1] w fun e w' => ∃ v6_ v8_ v9_ v10_ v12_ : Value, e = .returned (.tuple #[.agg #[.int .i64 r1, .int .i64 r2, .int .i64 r3, .string r4, .int .i64 r5, .int .i64 r6, v6_, .int .i64 r8, v8_, v9_, v10_, .bool r12, v12_, .string r14], .bool r15]) ∧ Kd.R Kd.string 9 w' w.heap.size (fun k_ => some k_ ≠ (v8_ : Value).ownBlock) v6_ r7 ∧ Kd.R Kd.string 9 w' w.heap.size (fun k_ => some k_ ≠ (v6_ : Value).ownBlock) v8_ r9 ∧ Kd.R (Kd.int .i64) 3 w' w.heap.size (fun _ => True) v9_ r10 ∧ Kd.R k186 186 w' w.heap.size (fun _ => True) v10_ r11 ∧ Kd.R k138 138 w' w.heap.size (fun _ => True) v12_ r13 ∧ Below w.heap.size w w' := by
  have hu113 := Try.underlying113
  have HR0 := Aside0.mk hr0
  have HC0 := Aside0.mk hc0
  clear hr0 hc0
  have HB := Aside0.mk (Below.refl w.heap.size w)
  have H : ((impl_blockAt.f k l0 a1).bind fun t2029 => (if t2029 < 0 then (some (0, 0, 0, (⟨#[]⟩ : ByteArray), 0, 0, ([] : List ByteArray), 0, ([] : List ByteArray), ([] : List Int), ([] : List (S186)), false, ([] : List (S138)), (⟨#[]⟩ : ByteArray), false)) else (if 0 ≤ t2029 then (if t2029 < (l0.length : Int) then ((impl_copyBlock.f ((rd_T113 l0 t2029).f0) ((rd_T113 l0 t2029).f1) ((rd_T113 l0 t2029).f2) ((rd_T113 l0 t2029).f3) ((rd_T113 l0 t2029).f4.f0) ((rd_T113 l0 t2029).f4.f1) ((rd_T113 l0 t2029).f4.f2) ((rd_T113 l0 t2029).f5.f0) ((rd_T113 l0 t2029).f5.f1) ((rd_T113 l0 t2029).f5.f2) ((rd_T113 l0 t2029).f6) ((rd_T113 l0 t2029).f7) ((rd_T113 l0 t2029).f8) ((rd_T113 l0 t2029).f9)).bind fun bt2031 => (some (bt2031.1, bt2031.2.1, bt2031.2.2.1, bt2031.2.2.2.1, bt2031.2.2.2.2.1, bt2031.2.2.2.2.2.1, bt2031.2.2.2.2.2.2.1, bt2031.2.2.2.2.2.2.2.1, bt2031.2.2.2.2.2.2.2.2.1, bt2031.2.2.2.2.2.2.2.2.2.1, bt2031.2.2.2.2.2.2.2.2.2.2.1, bt2031.2.2.2.2.2.2.2.2.2.2.2.1, bt2031.2.2.2.2.2.2.2.2.2.2.2.2.1, bt2031.2.2.2.2.2.2.2.2.2.2.2.2.2, true))) else (none)) else (none)))) = some (r1, r2, r3, r4, r5, r6, r7, r8, r9, r10, r11, r12, r13, r14, r15) := h
  clear h
  replace H := Option.bind_eq_some_iff.mp H
  obtain ⟨t2029, A30, H⟩ := H
  replace H : (if t2029 < 0 then (some (0, 0, 0, (⟨#[]⟩ : ByteArray), 0, 0, ([] : List ByteArray), 0, ([] : List ByteArray), ([] : List Int), ([] : List (S186)), false, ([] : List (S138)), (⟨#[]⟩ : ByteArray), false)) else (if 0 ≤ t2029 then (if t2029 < (l0.length : Int) then ((impl_copyBlock.f ((rd_T113 l0 t2029).f0) ((rd_T113 l0 t2029).f1) ((rd_T113 l0 t2029).f2) ((rd_T113 l0 t2029).f3) ((rd_T113 l0 t2029).f4.f0) ((rd_T113 l0 t2029).f4.f1) ((rd_T113 l0 t2029).f4.f2) ((rd_T113 l0 t2029).f5.f0) ((rd_T113 l0 t2029).f5.f1) ((rd_T113 l0 t2029).f5.f2) ((rd_T113 l0 t2029).f6) ((rd_T113 l0 t2029).f7) ((rd_T113 l0 t2029).f8) ((rd_T113 l0 t2029).f9)).bind fun bt2031 => (some (bt2031.1, bt2031.2.1, bt2031.2.2.1, bt2031.2.2.2.1, bt2031.2.2.2.2.1, bt2031.2.2.2.2.2.1, bt2031.2.2.2.2.2.2.1, bt2031.2.2.2.2.2.2.2.1, bt2031.2.2.2.2.2.2.2.2.1, bt2031.2.2.2.2.2.2.2.2.2.1, bt2031.2.2.2.2.2.2.2.2.2.2.1, bt2031.2.2.2.2.2.2.2.2.2.2.2.1, bt2031.2.2.2.2.2.2.2.2.2.2.2.2.1, bt2031.2.2.2.2.2.2.2.2.2.2.2.2.2, true))) else (none)) else (none))) = some (r1, r2, r3, r4, r5, r6, r7, r8, r9, r10, r11, r12, r13, r14, r15) := H
  have A3 := Aside0.mk A30
  clear A30
  by_cases c4 : t2029 < 0
  · rw [if_pos c4] at H
    have c4b0 : decide (t2029 < 0) = true := decide_eq_true c4
    clear c4
    simp only [Option.some.injEq, Prod.mk.injEq] at H
    obtain ⟨rfl, rfl, rfl, rfl, rfl, rfl, rfl, rfl, rfl, rfl, rfl, rfl, rfl, rfl, rfl⟩ := H
    go_enter Try.func79, Try.ntmps79
    go_wp2_with (first | ((with_reducible refine gate_dst (N := 4) rfl ?_); refine box_event ?hg (N := 4) ?hd (cs := #[.int .i64 0, .int .i64 0, .int .i64 0, .string (⟨#[]⟩ : ByteArray), .int .i64 0, .int .i64 0, .slice none 0 0, .int .i64 0, .slice none 0 0, .slice none 0 0, .slice none 0 0, .bool false, .slice none 0 0, .string (⟨#[]⟩ : ByteArray)]) (t := 113) ?hr ?_; (case hd => rfl); (case hg => rfl); (case hr => first | (go_simp; done) | (go_simp; rfl)); intro gb2028 hg w5 hbox hb; have n0_ := Aside0.mk (below_step (by repeat (first | (with_reducible first | exact HB.out | apply below_alloc | apply pw_below_drewN | apply below_drew1) | exact HB.out)) hb); have n1_ := Aside0.mk (hbox); have n2_ := Aside0.mk ((by rw [hg]; exact (below_size (by repeat (first | (with_reducible first | exact HB.out | apply below_alloc | apply pw_below_drewN | apply below_drew1) | exact HB.out))) : w.heap.size ≤ gb2028)); have n3_ := n2_; clear HB; have HB := n0_; have BK2028 := n1_; have GW2028 := n2_; have GE2028 := n3_; clear n0_ n1_ n2_ n3_; clear hb hbox hg) | ((with_reducible refine gate_callee (f := 163) rfl ?_); refine goesL_ (some 9) rfl rfl Try.func163 (by kernel_rfl) rfl #[.slice A0 l0.length c0, .int .i64 a1] rfl (by (try simp only [List.map_toArray, List.map_cons, List.map_nil]); first | done | rfl | (simp only [List.length_drop, List.length_take]; rfl)) ?_; (with_reducible refine (impl_blockAt.calls k _ _ l0 a1 t2029 _ ?side1 ?side2 A3.out).mono ?_); (case side1 => repeat (first | exact (Kd.C_below HR0.out HB.out) | (with_reducible refine Kd.C_alloc ?_ _) | (with_reducible refine Kd.C_drewN ?_ _) | (with_reducible refine Kd.C_drew ?_))); (case side2 => exact HC0.out); rintro e w6 ⟨rfl, hb⟩; refine ⟨_, rfl, ?_⟩; have n0_ := Aside0.mk (blk_below (g := gb2028) (o := .cells #[.int .i64 0, .int .i64 0, .int .i64 0, .string (⟨#[]⟩ : ByteArray), .int .i64 0, .int .i64 0, .slice none 0 0, .int .i64 0, .slice none 0 0, .slice none 0 0, .slice none 0 0, .bool false, .slice none 0 0, .string (⟨#[]⟩ : ByteArray)] 113 (0, 0)) (by (with_reducible repeat (first | refine blk_drewN ?_ _ | refine blk_drew ?_ | refine blk_alloc ?_ _)); exact BK2028.out) hb); have n1_ := Aside0.mk (below_step (by repeat (first | (with_reducible first | exact HB.out | apply below_alloc | apply pw_below_drewN | apply below_drew1 | refine below_set ?_ GE2028.out) | exact HB.out)) hb); clear BK2028; clear HB; have BK2028 := n0_; have HB := n1_; clear n0_ n1_; (try clear hb); (try clear hb2); (try clear hk); (try clear hi); obtain ⟨hcz7_0, hcz7_1, hcz7_2, hcz7_3, hcz7_4, hcz7_5, hcz7_6, hcz7_7, hcz7_8, hcz7_9, hcz7_10, hcz7_11, hcz7_12, hcz7_13⟩ := cells14 BK2028.out; obtain ⟨hfz7_0, hfz7_1, hfz7_2, hfz7_3, hfz7_4, hfz7_5, hfz7_6, hfz7_7, hfz7_8, hfz7_9, hfz7_10, hfz7_11, hfz7_12, hfz7_13⟩ := frozens14 BK2028.out))
    refine bodyPost_ret (results_ct rfl _ _ gb2028 113 #[.int .i64 0, .int .i64 0, .int .i64 0, .string (⟨#[]⟩ : ByteArray), .int .i64 0, .int .i64 0, .slice none 0 0, .int .i64 0, .slice none 0 0, .slice none 0 0, .slice none 0 0, .bool false, .slice none 0 0, .string (⟨#[]⟩ : ByteArray)] (0, 0) _ rfl (by (with_reducible repeat (first | refine blk_drewN ?_ _ | refine blk_drew ?_ | refine blk_alloc ?_ _)); refine blk_put (cs := #[.int .i64 0, .int .i64 0, .int .i64 0, .string (⟨#[]⟩ : ByteArray), .int .i64 0, .int .i64 0, .slice none 0 0, .int .i64 0, .slice none 0 0, .slice none 0 0, .slice none 0 0, .bool false, .slice none 0 0, .string (⟨#[]⟩ : ByteArray)]) ?_ 13 _ rfl; (with_reducible repeat (first | refine blk_drewN ?_ _ | refine blk_drew ?_ | refine blk_alloc ?_ _)); refine blk_put (cs := #[.int .i64 0, .int .i64 0, .int .i64 0, .string (⟨#[]⟩ : ByteArray), .int .i64 0, .int .i64 0, .slice none 0 0, .int .i64 0, .slice none 0 0, .slice none 0 0, .slice none 0 0, .bool false, .slice none 0 0, .string (⟨#[]⟩ : ByteArray)]) ?_ 12 _ rfl; (with_reducible repeat (first | refine blk_drewN ?_ _ | refine blk_drew ?_ | refine blk_alloc ?_ _)); refine blk_put (cs := #[.int .i64 0, .int .i64 0, .int .i64 0, .string (⟨#[]⟩ : ByteArray), .int .i64 0, .int .i64 0, .slice none 0 0, .int .i64 0, .slice none 0 0, .slice none 0 0, .slice none 0 0, .bool false, .slice none 0 0, .string (⟨#[]⟩ : ByteArray)]) ?_ 11 _ rfl; (with_reducible repeat (first | refine blk_drewN ?_ _ | refine blk_drew ?_ | refine blk_alloc ?_ _)); refine blk_put (cs := #[.int .i64 0, .int .i64 0, .int .i64 0, .string (⟨#[]⟩ : ByteArray), .int .i64 0, .int .i64 0, .slice none 0 0, .int .i64 0, .slice none 0 0, .slice none 0 0, .slice none 0 0, .bool false, .slice none 0 0, .string (⟨#[]⟩ : ByteArray)]) ?_ 10 _ rfl; (with_reducible repeat (first | refine blk_drewN ?_ _ | refine blk_drew ?_ | refine blk_alloc ?_ _)); refine blk_put (cs := #[.int .i64 0, .int .i64 0, .int .i64 0, .string (⟨#[]⟩ : ByteArray), .int .i64 0, .int .i64 0, .slice none 0 0, .int .i64 0, .slice none 0 0, .slice none 0 0, .slice none 0 0, .bool false, .slice none 0 0, .string (⟨#[]⟩ : ByteArray)]) ?_ 9 _ rfl; (with_reducible repeat (first | refine blk_drewN ?_ _ | refine blk_drew ?_ | refine blk_alloc ?_ _)); refine blk_put (cs := #[.int .i64 0, .int .i64 0, .int .i64 0, .string (⟨#[]⟩ : ByteArray), .int .i64 0, .int .i64 0, .slice none 0 0, .int .i64 0, .slice none 0 0, .slice none 0 0, .slice none 0 0, .bool false, .slice none 0 0, .string (⟨#[]⟩ : ByteArray)]) ?_ 8 _ rfl; (with_reducible repeat (first | refine blk_drewN ?_ _ | refine blk_drew ?_ | refine blk_alloc ?_ _)); refine blk_put (cs := #[.int .i64 0, .int .i64 0, .int .i64 0, .string (⟨#[]⟩ : ByteArray), .int .i64 0, .int .i64 0, .slice none 0 0, .int .i64 0, .slice none 0 0, .slice none 0 0, .slice none 0 0, .bool false, .slice none 0 0, .string (⟨#[]⟩ : ByteArray)]) ?_ 7 _ rfl; (with_reducible repeat (first | refine blk_drewN ?_ _ | refine blk_drew ?_ | refine blk_alloc ?_ _)); refine blk_put (cs := #[.int .i64 0, .int .i64 0, .int .i64 0, .string (⟨#[]⟩ : ByteArray), .int .i64 0, .int .i64 0, .slice none 0 0, .int .i64 0, .slice none 0 0, .slice none 0 0, .slice none 0 0, .bool false, .slice none 0 0, .string (⟨#[]⟩ : ByteArray)]) ?_ 6 _ rfl; (with_reducible repeat (first | refine blk_drewN ?_ _ | refine blk_drew ?_ | refine blk_alloc ?_ _)); refine blk_put (cs := #[.int .i64 0, .int .i64 0, .int .i64 0, .string (⟨#[]⟩ : ByteArray), .int .i64 0, .int .i64 0, .slice none 0 0, .int .i64 0, .slice none 0 0, .slice none 0 0, .slice none 0 0, .bool false, .slice none 0 0, .string (⟨#[]⟩ : ByteArray)]) ?_ 5 _ rfl; (with_reducible repeat (first | refine blk_drewN ?_ _ | refine blk_drew ?_ | refine blk_alloc ?_ _)); refine blk_put (cs := #[.int .i64 0, .int .i64 0, .int .i64 0, .string (⟨#[]⟩ : ByteArray), .int .i64 0, .int .i64 0, .slice none 0 0, .int .i64 0, .slice none 0 0, .slice none 0 0, .slice none 0 0, .bool false, .slice none 0 0, .string (⟨#[]⟩ : ByteArray)]) ?_ 4 _ rfl; (with_reducible repeat (first | refine blk_drewN ?_ _ | refine blk_drew ?_ | refine blk_alloc ?_ _)); refine blk_put (cs := #[.int .i64 0, .int .i64 0, .int .i64 0, .string (⟨#[]⟩ : ByteArray), .int .i64 0, .int .i64 0, .slice none 0 0, .int .i64 0, .slice none 0 0, .slice none 0 0, .slice none 0 0, .bool false, .slice none 0 0, .string (⟨#[]⟩ : ByteArray)]) ?_ 3 _ rfl; (with_reducible repeat (first | refine blk_drewN ?_ _ | refine blk_drew ?_ | refine blk_alloc ?_ _)); refine blk_put (cs := #[.int .i64 0, .int .i64 0, .int .i64 0, .string (⟨#[]⟩ : ByteArray), .int .i64 0, .int .i64 0, .slice none 0 0, .int .i64 0, .slice none 0 0, .slice none 0 0, .slice none 0 0, .bool false, .slice none 0 0, .string (⟨#[]⟩ : ByteArray)]) ?_ 2 _ rfl; (with_reducible repeat (first | refine blk_drewN ?_ _ | refine blk_drew ?_ | refine blk_alloc ?_ _)); refine blk_put (cs := #[.int .i64 0, .int .i64 0, .int .i64 0, .string (⟨#[]⟩ : ByteArray), .int .i64 0, .int .i64 0, .slice none 0 0, .int .i64 0, .slice none 0 0, .slice none 0 0, .slice none 0 0, .bool false, .slice none 0 0, .string (⟨#[]⟩ : ByteArray)]) ?_ 1 _ rfl; (with_reducible repeat (first | refine blk_drewN ?_ _ | refine blk_drew ?_ | refine blk_alloc ?_ _)); refine blk_put (cs := #[.int .i64 0, .int .i64 0, .int .i64 0, .string (⟨#[]⟩ : ByteArray), .int .i64 0, .int .i64 0, .slice none 0 0, .int .i64 0, .slice none 0 0, .slice none 0 0, .slice none 0 0, .bool false, .slice none 0 0, .string (⟨#[]⟩ : ByteArray)]) ?_ 0 _ rfl; (with_reducible repeat (first | refine blk_drewN ?_ _ | refine blk_drew ?_ | refine blk_alloc ?_ _)); exact BK2028.out) Try.underlying113 rfl (by kernel_rfl)) rfl ?_
    exact ⟨_, _, _, _, _, by first | rfl | (simp [errW_none, errW_some] <;> rfl) | (simp [*, errW_none, errW_some] <;> rfl), by first | exact Kd.R_nil _ _ _ _ _ | exact Kd.N_nil _ _ _ _ _ | exact Kd.V_nil _ _ _ _ _ | exact Kd.Q_nil _ _ _ _ _ | exact Kd.S_nil _ _ _ _ _, by first | exact Kd.R_nil _ _ _ _ _ | exact Kd.N_nil _ _ _ _ _ | exact Kd.V_nil _ _ _ _ _ | exact Kd.Q_nil _ _ _ _ _ | exact Kd.S_nil _ _ _ _ _, by first | exact Kd.R_nil _ _ _ _ _ | exact Kd.N_nil _ _ _ _ _ | exact Kd.V_nil _ _ _ _ _ | exact Kd.Q_nil _ _ _ _ _ | exact Kd.S_nil _ _ _ _ _, by first | exact Kd.R_nil _ _ _ _ _ | exact Kd.N_nil _ _ _ _ _ | exact Kd.V_nil _ _ _ _ _ | exact Kd.Q_nil _ _ _ _ _ | exact Kd.S_nil _ _ _ _ _, by first | exact Kd.R_nil _ _ _ _ _ | exact Kd.N_nil _ _ _ _ _ | exact Kd.V_nil _ _ _ _ _ | exact Kd.Q_nil _ _ _ _ _ | exact Kd.S_nil _ _ _ _ _, by repeat (first | (with_reducible first | exact HB.out | apply below_alloc | apply pw_below_drewN | apply below_drew1 | refine below_set ?_ GE2028.out) | exact HB.out)⟩
  · rw [if_neg c4] at H
    have c4b0 : decide (t2029 < 0) = false := decide_eq_false c4
    clear c4
    by_cases c8 : 0 ≤ t2029
    · rw [if_pos c8] at H
      have c8b0 : decide (0 ≤ t2029) = true := decide_eq_true c8
      clear c8
      by_cases c9 : t2029 < (l0.length : Int)
      · rw [if_pos c9] at H
        have c9b0 : decide (t2029 < (l0.length : Int)) = true := decide_eq_true c9
        clear c9
        replace H := Option.bind_eq_some_iff.mp H
        obtain ⟨⟨t2031, t2032, t2033, t2034, t2035, t2036, t2037, t2040, t2041, t2044, t2047, t2050, t2051, t2054⟩, A100, H⟩ := H
        replace H : (some (t2031, t2032, t2033, t2034, t2035, t2036, t2037, t2040, t2041, t2044, t2047, t2050, t2051, t2054, true)) = some (r1, r2, r3, r4, r5, r6, r7, r8, r9, r10, r11, r12, r13, r14, r15) := H
        have A10 := Aside0.mk A100
        clear A100
        simp only [Option.some.injEq, Prod.mk.injEq] at H
        obtain ⟨rfl, rfl, rfl, rfl, rfl, rfl, rfl, rfl, rfl, rfl, rfl, rfl, rfl, rfl, rfl⟩ := H
        go_enter Try.func79, Try.ntmps79
        go_wp2_with (first | ((with_reducible refine gate_dst (N := 4) rfl ?_); refine box_event ?hg (N := 4) ?hd (cs := #[.int .i64 0, .int .i64 0, .int .i64 0, .string (⟨#[]⟩ : ByteArray), .int .i64 0, .int .i64 0, .slice none 0 0, .int .i64 0, .slice none 0 0, .slice none 0 0, .slice none 0 0, .bool false, .slice none 0 0, .string (⟨#[]⟩ : ByteArray)]) (t := 113) ?hr ?_; (case hd => rfl); (case hg => rfl); (case hr => first | (go_simp; done) | (go_simp; rfl)); intro gb2028 hg w11 hbox hb; have n0_ := Aside0.mk (below_step (by repeat (first | (with_reducible first | exact HB.out | apply below_alloc | apply pw_below_drewN | apply below_drew1) | exact HB.out)) hb); have n1_ := Aside0.mk (hbox); have n2_ := Aside0.mk ((by rw [hg]; exact (below_size (by repeat (first | (with_reducible first | exact HB.out | apply below_alloc | apply pw_below_drewN | apply below_drew1) | exact HB.out))) : w.heap.size ≤ gb2028)); have n3_ := n2_; clear HB; have HB := n0_; have BK2028 := n1_; have GW2028 := n2_; have GE2028 := n3_; clear n0_ n1_ n2_ n3_; clear hb hbox hg) | ((with_reducible refine gate_callee (f := 163) rfl ?_); refine goesL_ (some 9) rfl rfl Try.func163 (by kernel_rfl) rfl #[.slice A0 l0.length c0, .int .i64 a1] rfl (by (try simp only [List.map_toArray, List.map_cons, List.map_nil]); first | done | rfl | (simp only [List.length_drop, List.length_take]; rfl)) ?_; (with_reducible refine (impl_blockAt.calls k _ _ l0 a1 t2029 _ ?side1 ?side2 A3.out).mono ?_); (case side1 => repeat (first | exact (Kd.C_below HR0.out HB.out) | (with_reducible refine Kd.C_alloc ?_ _) | (with_reducible refine Kd.C_drewN ?_ _) | (with_reducible refine Kd.C_drew ?_))); (case side2 => exact HC0.out); rintro e w12 ⟨rfl, hb⟩; refine ⟨_, rfl, ?_⟩; have n0_ := Aside0.mk (blk_below (g := gb2028) (o := .cells #[.int .i64 0, .int .i64 0, .int .i64 0, .string (⟨#[]⟩ : ByteArray), .int .i64 0, .int .i64 0, .slice none 0 0, .int .i64 0, .slice none 0 0, .slice none 0 0, .slice none 0 0, .bool false, .slice none 0 0, .string (⟨#[]⟩ : ByteArray)] 113 (0, 0)) (by (with_reducible repeat (first | refine blk_drewN ?_ _ | refine blk_drew ?_ | refine blk_alloc ?_ _)); exact BK2028.out) hb); have n1_ := Aside0.mk (below_step (by repeat (first | (with_reducible first | exact HB.out | apply below_alloc | apply pw_below_drewN | apply below_drew1 | refine below_set ?_ GE2028.out) | exact HB.out)) hb); clear BK2028; clear HB; have BK2028 := n0_; have HB := n1_; clear n0_ n1_; (try clear hb); (try clear hb2); (try clear hk); (try clear hi); have p2030 : 0 ≤ (t2029 : Int) := of_decide_eq_true (by first | (with_reducible assumption) | assumption); have q2030 : t2029 < (l0.length : Int) := of_decide_eq_true (by first | (with_reducible assumption) | assumption); obtain ⟨ad2030, A2030_6, c2030_6, A2030_8, c2030_8, A2030_9, c2030_9, A2030_10, c2030_10, A2030_12, c2030_12, e2030, hx2030_0, hx2030_1, hx2030_2, hx2030_3, hx2030_4, hx2030_5, hx2030_6, hx2030_7, hx2030_8, hx2030_9, hx2030_10, hx2030_11, hx2030_12, hx2030_13, hl2030_6, hi2030_6, hl2030_8, hi2030_8, hl2030_9, hi2030_9, hl2030_10, hi2030_10, hl2030_12, hi2030_12⟩ := at_T113 HR0.out t2029 p2030 q2030; cases e2030; replace hx2030_0 := (HB.out.cell (World.block_lt_of_cell? w _ hx2030_0)).trans hx2030_0; replace hx2030_1 := (HB.out.cell (World.block_lt_of_cell? w _ hx2030_1)).trans hx2030_1; replace hx2030_2 := (HB.out.cell (World.block_lt_of_cell? w _ hx2030_2)).trans hx2030_2; replace hx2030_3 := (HB.out.cell (World.block_lt_of_cell? w _ hx2030_3)).trans hx2030_3; replace hx2030_4 := (HB.out.cell (World.block_lt_of_cell? w _ hx2030_4)).trans hx2030_4; replace hx2030_5 := (HB.out.cell (World.block_lt_of_cell? w _ hx2030_5)).trans hx2030_5; replace hx2030_6 := (HB.out.cell (World.block_lt_of_cell? w _ hx2030_6)).trans hx2030_6; replace hx2030_7 := (HB.out.cell (World.block_lt_of_cell? w _ hx2030_7)).trans hx2030_7; replace hx2030_8 := (HB.out.cell (World.block_lt_of_cell? w _ hx2030_8)).trans hx2030_8; replace hx2030_9 := (HB.out.cell (World.block_lt_of_cell? w _ hx2030_9)).trans hx2030_9; replace hx2030_10 := (HB.out.cell (World.block_lt_of_cell? w _ hx2030_10)).trans hx2030_10; replace hx2030_11 := (HB.out.cell (World.block_lt_of_cell? w _ hx2030_11)).trans hx2030_11; replace hx2030_12 := (HB.out.cell (World.block_lt_of_cell? w _ hx2030_12)).trans hx2030_12; replace hx2030_13 := (HB.out.cell (World.block_lt_of_cell? w _ hx2030_13)).trans hx2030_13; have HR2030_6 := Aside0.mk hi2030_6; have HC2030_6 := Aside0.mk hl2030_6; clear hi2030_6 hl2030_6; have HR2030_8 := Aside0.mk hi2030_8; have HC2030_8 := Aside0.mk hl2030_8; clear hi2030_8 hl2030_8; have HR2030_9 := Aside0.mk hi2030_9; have HC2030_9 := Aside0.mk hl2030_9; clear hi2030_9 hl2030_9; have HR2030_10 := Aside0.mk hi2030_10; have HC2030_10 := Aside0.mk hl2030_10; clear hi2030_10 hl2030_10; have HR2030_12 := Aside0.mk hi2030_12; have HC2030_12 := Aside0.mk hl2030_12; clear hi2030_12 hl2030_12; replace p2030 := eq_true p2030; replace q2030 := eq_true q2030) | ((with_reducible refine gate_callee (f := 164) rfl ?_); refine goesL_ (some 17) rfl rfl Try.func164 (by kernel_rfl) rfl #[.agg #[.int .i64 ((rd_T113 l0 t2029).f0), .int .i64 ((rd_T113 l0 t2029).f1), .int .i64 ((rd_T113 l0 t2029).f2), .string ((rd_T113 l0 t2029).f3), .int .i64 ((rd_T113 l0 t2029).f4.f0), .int .i64 ((rd_T113 l0 t2029).f4.f1), .slice A2030_6 ((rd_T113 l0 t2029).f4.f2).length c2030_6, .int .i64 ((rd_T113 l0 t2029).f5.f0), .slice A2030_8 ((rd_T113 l0 t2029).f5.f1).length c2030_8, .slice A2030_9 ((rd_T113 l0 t2029).f5.f2).length c2030_9, .slice A2030_10 ((rd_T113 l0 t2029).f6).length c2030_10, .bool ((rd_T113 l0 t2029).f7), .slice A2030_12 ((rd_T113 l0 t2029).f8).length c2030_12, .string ((rd_T113 l0 t2029).f9)]] rfl (by (try simp only [List.map_toArray, List.map_cons, List.map_nil]); first | done | rfl | (simp only [List.length_drop, List.length_take]; rfl)) ?_; (with_reducible refine (impl_copyBlock.calls ((rd_T113 l0 t2029).f0) ((rd_T113 l0 t2029).f1) ((rd_T113 l0 t2029).f2) ((rd_T113 l0 t2029).f3) ((rd_T113 l0 t2029).f4.f0) ((rd_T113 l0 t2029).f4.f1) _ _ ((rd_T113 l0 t2029).f4.f2) ((rd_T113 l0 t2029).f5.f0) _ _ ((rd_T113 l0 t2029).f5.f1) _ _ ((rd_T113 l0 t2029).f5.f2) _ _ ((rd_T113 l0 t2029).f6) ((rd_T113 l0 t2029).f7) _ _ ((rd_T113 l0 t2029).f8) ((rd_T113 l0 t2029).f9) t2031 t2032 t2033 t2034 t2035 t2036 t2037 t2040 t2041 t2044 t2047 t2050 t2051 t2054 _ ?side1 ?side2 ?side3 ?side4 ?side5 ?side6 ?side7 ?side8 ?side9 ?side10 A10.out).mono ?_); (case side1 => repeat (first | exact (Kd.C_below HR2030_6.out HB.out) | (with_reducible refine Kd.C_alloc ?_ _) | (with_reducible refine Kd.C_drewN ?_ _) | (with_reducible refine Kd.C_drew ?_))); (case side2 => exact HC2030_6.out); (case side3 => repeat (first | exact (Kd.C_below HR2030_8.out HB.out) | (with_reducible refine Kd.C_alloc ?_ _) | (with_reducible refine Kd.C_drewN ?_ _) | (with_reducible refine Kd.C_drew ?_))); (case side4 => exact HC2030_8.out); (case side5 => repeat (first | exact (Kd.C_below HR2030_9.out HB.out) | (with_reducible refine Kd.C_alloc ?_ _) | (with_reducible refine Kd.C_drewN ?_ _) | (with_reducible refine Kd.C_drew ?_))); (case side6 => exact HC2030_9.out); (case side7 => repeat (first | exact (Kd.C_below HR2030_10.out HB.out) | (with_reducible refine Kd.C_alloc ?_ _) | (with_reducible refine Kd.C_drewN ?_ _) | (with_reducible refine Kd.C_drew ?_))); (case side8 => exact HC2030_10.out); (case side9 => repeat (first | exact (Kd.C_below HR2030_12.out HB.out) | (with_reducible refine Kd.C_alloc ?_ _) | (with_reducible refine Kd.C_drewN ?_ _) | (with_reducible refine Kd.C_drew ?_))); (case side10 => exact HC2030_12.out); rintro e w13 ⟨v2038, v2042, v2045, v2048, v2052, rfl, ho0, ho1, ho2, ho3, ho4, hb⟩; refine ⟨_, rfl, ?_⟩; have n0_ := Aside0.mk (Kd.R_lower ho0 (below_size (by repeat (first | (with_reducible first | exact HB.out | apply below_alloc | apply pw_below_drewN | apply below_drew1 | refine below_set ?_ GE2028.out) | exact HB.out)))); have n1_ := Aside0.mk (Kd.R_lower ho1 (below_size (by repeat (first | (with_reducible first | exact HB.out | apply below_alloc | apply pw_below_drewN | apply below_drew1 | refine below_set ?_ GE2028.out) | exact HB.out)))); have n2_ := Aside0.mk (Kd.R_lower ho2 (below_size (by repeat (first | (with_reducible first | exact HB.out | apply below_alloc | apply pw_below_drewN | apply below_drew1 | refine below_set ?_ GE2028.out) | exact HB.out)))); have n3_ := Aside0.mk (Kd.R_lower ho3 (below_size (by repeat (first | (with_reducible first | exact HB.out | apply below_alloc | apply pw_below_drewN | apply below_drew1 | refine below_set ?_ GE2028.out) | exact HB.out)))); have n4_ := Aside0.mk (Kd.R_lower ho4 (below_size (by repeat (first | (with_reducible first | exact HB.out | apply below_alloc | apply pw_below_drewN | apply below_drew1 | refine below_set ?_ GE2028.out) | exact HB.out)))); have n5_ := Aside0.mk (blk_below (g := gb2028) (o := .cells #[.int .i64 0, .int .i64 0, .int .i64 0, .string (⟨#[]⟩ : ByteArray), .int .i64 0, .int .i64 0, .slice none 0 0, .int .i64 0, .slice none 0 0, .slice none 0 0, .slice none 0 0, .bool false, .slice none 0 0, .string (⟨#[]⟩ : ByteArray)] 113 (0, 0)) (by (with_reducible repeat (first | refine blk_drewN ?_ _ | refine blk_drew ?_ | refine blk_alloc ?_ _)); exact BK2028.out) hb); have n6_ := Aside0.mk (below_step (by repeat (first | (with_reducible first | exact HB.out | apply below_alloc | apply pw_below_drewN | apply below_drew1 | refine below_set ?_ GE2028.out) | exact HB.out)) hb); clear BK2028; clear HB; have HO2039 := n0_; have HO2043 := n1_; have HO2046 := n2_; have HO2049 := n3_; have HO2053 := n4_; have BK2028 := n5_; have HB := n6_; clear n0_ n1_ n2_ n3_ n4_ n5_ n6_; (try clear hb); (try clear hb2); (try clear hk); (try clear hi); (try clear ho0); (try clear ho1); (try clear ho2); (try clear ho3); (try clear ho4); obtain ⟨hcz14_0, hcz14_1, hcz14_2, hcz14_3, hcz14_4, hcz14_5, hcz14_6, hcz14_7, hcz14_8, hcz14_9, hcz14_10, hcz14_11, hcz14_12, hcz14_13⟩ := cells14 BK2028.out; obtain ⟨hfz14_0, hfz14_1, hfz14_2, hfz14_3, hfz14_4, hfz14_5, hfz14_6, hfz14_7, hfz14_8, hfz14_9, hfz14_10, hfz14_11, hfz14_12, hfz14_13⟩ := frozens14 BK2028.out; obtain ⟨Ao15, co15, eo15⟩ := Kd.R_slice HO2039.out; subst eo15; obtain ⟨Ao16, co16, eo16⟩ := Kd.R_slice HO2043.out; subst eo16; obtain ⟨Ao17, co17, eo17⟩ := Kd.R_slice HO2046.out; subst eo17; obtain ⟨Ao18, co18, eo18⟩ := Kd.R_slice HO2049.out; subst eo18; obtain ⟨Ao19, co19, eo19⟩ := Kd.R_slice HO2053.out; subst eo19))
        refine bodyPost_ret (results_ct rfl _ _ gb2028 113 #[.int .i64 t2031, .int .i64 t2032, .int .i64 t2033, .string t2034, .int .i64 t2035, .int .i64 t2036, .slice Ao15 t2037.length co15, .int .i64 t2040, .slice Ao16 t2041.length co16, .slice Ao17 t2044.length co17, .slice Ao18 t2047.length co18, .bool t2050, .slice Ao19 t2051.length co19, .string t2054] (0, 0) _ rfl (by (with_reducible repeat (first | refine blk_drewN ?_ _ | refine blk_drew ?_ | refine blk_alloc ?_ _)); refine blk_put (cs := #[.int .i64 t2031, .int .i64 t2032, .int .i64 t2033, .string t2034, .int .i64 t2035, .int .i64 t2036, .slice Ao15 t2037.length co15, .int .i64 t2040, .slice Ao16 t2041.length co16, .slice Ao17 t2044.length co17, .slice Ao18 t2047.length co18, .bool t2050, .slice Ao19 t2051.length co19, .string (⟨#[]⟩ : ByteArray)]) ?_ 13 _ rfl; (with_reducible repeat (first | refine blk_drewN ?_ _ | refine blk_drew ?_ | refine blk_alloc ?_ _)); refine blk_put (cs := #[.int .i64 t2031, .int .i64 t2032, .int .i64 t2033, .string t2034, .int .i64 t2035, .int .i64 t2036, .slice Ao15 t2037.length co15, .int .i64 t2040, .slice Ao16 t2041.length co16, .slice Ao17 t2044.length co17, .slice Ao18 t2047.length co18, .bool t2050, .slice none 0 0, .string (⟨#[]⟩ : ByteArray)]) ?_ 12 _ rfl; (with_reducible repeat (first | refine blk_drewN ?_ _ | refine blk_drew ?_ | refine blk_alloc ?_ _)); refine blk_put (cs := #[.int .i64 t2031, .int .i64 t2032, .int .i64 t2033, .string t2034, .int .i64 t2035, .int .i64 t2036, .slice Ao15 t2037.length co15, .int .i64 t2040, .slice Ao16 t2041.length co16, .slice Ao17 t2044.length co17, .slice Ao18 t2047.length co18, .bool false, .slice none 0 0, .string (⟨#[]⟩ : ByteArray)]) ?_ 11 _ rfl; (with_reducible repeat (first | refine blk_drewN ?_ _ | refine blk_drew ?_ | refine blk_alloc ?_ _)); refine blk_put (cs := #[.int .i64 t2031, .int .i64 t2032, .int .i64 t2033, .string t2034, .int .i64 t2035, .int .i64 t2036, .slice Ao15 t2037.length co15, .int .i64 t2040, .slice Ao16 t2041.length co16, .slice Ao17 t2044.length co17, .slice none 0 0, .bool false, .slice none 0 0, .string (⟨#[]⟩ : ByteArray)]) ?_ 10 _ rfl; (with_reducible repeat (first | refine blk_drewN ?_ _ | refine blk_drew ?_ | refine blk_alloc ?_ _)); refine blk_put (cs := #[.int .i64 t2031, .int .i64 t2032, .int .i64 t2033, .string t2034, .int .i64 t2035, .int .i64 t2036, .slice Ao15 t2037.length co15, .int .i64 t2040, .slice Ao16 t2041.length co16, .slice none 0 0, .slice none 0 0, .bool false, .slice none 0 0, .string (⟨#[]⟩ : ByteArray)]) ?_ 9 _ rfl; (with_reducible repeat (first | refine blk_drewN ?_ _ | refine blk_drew ?_ | refine blk_alloc ?_ _)); refine blk_put (cs := #[.int .i64 t2031, .int .i64 t2032, .int .i64 t2033, .string t2034, .int .i64 t2035, .int .i64 t2036, .slice Ao15 t2037.length co15, .int .i64 t2040, .slice none 0 0, .slice none 0 0, .slice none 0 0, .bool false, .slice none 0 0, .string (⟨#[]⟩ : ByteArray)]) ?_ 8 _ rfl; (with_reducible repeat (first | refine blk_drewN ?_ _ | refine blk_drew ?_ | refine blk_alloc ?_ _)); refine blk_put (cs := #[.int .i64 t2031, .int .i64 t2032, .int .i64 t2033, .string t2034, .int .i64 t2035, .int .i64 t2036, .slice Ao15 t2037.length co15, .int .i64 0, .slice none 0 0, .slice none 0 0, .slice none 0 0, .bool false, .slice none 0 0, .string (⟨#[]⟩ : ByteArray)]) ?_ 7 _ rfl; (with_reducible repeat (first | refine blk_drewN ?_ _ | refine blk_drew ?_ | refine blk_alloc ?_ _)); refine blk_put (cs := #[.int .i64 t2031, .int .i64 t2032, .int .i64 t2033, .string t2034, .int .i64 t2035, .int .i64 t2036, .slice none 0 0, .int .i64 0, .slice none 0 0, .slice none 0 0, .slice none 0 0, .bool false, .slice none 0 0, .string (⟨#[]⟩ : ByteArray)]) ?_ 6 _ rfl; (with_reducible repeat (first | refine blk_drewN ?_ _ | refine blk_drew ?_ | refine blk_alloc ?_ _)); refine blk_put (cs := #[.int .i64 t2031, .int .i64 t2032, .int .i64 t2033, .string t2034, .int .i64 t2035, .int .i64 0, .slice none 0 0, .int .i64 0, .slice none 0 0, .slice none 0 0, .slice none 0 0, .bool false, .slice none 0 0, .string (⟨#[]⟩ : ByteArray)]) ?_ 5 _ rfl; (with_reducible repeat (first | refine blk_drewN ?_ _ | refine blk_drew ?_ | refine blk_alloc ?_ _)); refine blk_put (cs := #[.int .i64 t2031, .int .i64 t2032, .int .i64 t2033, .string t2034, .int .i64 0, .int .i64 0, .slice none 0 0, .int .i64 0, .slice none 0 0, .slice none 0 0, .slice none 0 0, .bool false, .slice none 0 0, .string (⟨#[]⟩ : ByteArray)]) ?_ 4 _ rfl; (with_reducible repeat (first | refine blk_drewN ?_ _ | refine blk_drew ?_ | refine blk_alloc ?_ _)); refine blk_put (cs := #[.int .i64 t2031, .int .i64 t2032, .int .i64 t2033, .string (⟨#[]⟩ : ByteArray), .int .i64 0, .int .i64 0, .slice none 0 0, .int .i64 0, .slice none 0 0, .slice none 0 0, .slice none 0 0, .bool false, .slice none 0 0, .string (⟨#[]⟩ : ByteArray)]) ?_ 3 _ rfl; (with_reducible repeat (first | refine blk_drewN ?_ _ | refine blk_drew ?_ | refine blk_alloc ?_ _)); refine blk_put (cs := #[.int .i64 t2031, .int .i64 t2032, .int .i64 0, .string (⟨#[]⟩ : ByteArray), .int .i64 0, .int .i64 0, .slice none 0 0, .int .i64 0, .slice none 0 0, .slice none 0 0, .slice none 0 0, .bool false, .slice none 0 0, .string (⟨#[]⟩ : ByteArray)]) ?_ 2 _ rfl; (with_reducible repeat (first | refine blk_drewN ?_ _ | refine blk_drew ?_ | refine blk_alloc ?_ _)); refine blk_put (cs := #[.int .i64 t2031, .int .i64 0, .int .i64 0, .string (⟨#[]⟩ : ByteArray), .int .i64 0, .int .i64 0, .slice none 0 0, .int .i64 0, .slice none 0 0, .slice none 0 0, .slice none 0 0, .bool false, .slice none 0 0, .string (⟨#[]⟩ : ByteArray)]) ?_ 1 _ rfl; (with_reducible repeat (first | refine blk_drewN ?_ _ | refine blk_drew ?_ | refine blk_alloc ?_ _)); refine blk_put (cs := #[.int .i64 0, .int .i64 0, .int .i64 0, .string (⟨#[]⟩ : ByteArray), .int .i64 0, .int .i64 0, .slice none 0 0, .int .i64 0, .slice none 0 0, .slice none 0 0, .slice none 0 0, .bool false, .slice none 0 0, .string (⟨#[]⟩ : ByteArray)]) ?_ 0 _ rfl; (with_reducible repeat (first | refine blk_drewN ?_ _ | refine blk_drew ?_ | refine blk_alloc ?_ _)); exact BK2028.out) Try.underlying113 rfl (by kernel_rfl)) rfl ?_
        exact ⟨_, _, _, _, _, by first | rfl | (simp [errW_none, errW_some] <;> rfl) | (simp [*, errW_none, errW_some] <;> rfl), by (with_reducible repeat (first | apply Kd.R_alloc | apply Kd.R_drewN | apply Kd.R_drew)); exact Kd.R_mono (Kd.R_far (p := ⟨gb2028, 13, none⟩) (Kd.R_far (p := ⟨gb2028, 12, none⟩) (Kd.R_far (p := ⟨gb2028, 11, none⟩) (Kd.R_far (p := ⟨gb2028, 10, none⟩) (Kd.R_far (p := ⟨gb2028, 9, none⟩) (Kd.R_far (p := ⟨gb2028, 8, none⟩) (Kd.R_far (p := ⟨gb2028, 7, none⟩) (Kd.R_far (p := ⟨gb2028, 6, none⟩) (Kd.R_far (p := ⟨gb2028, 5, none⟩) (Kd.R_far (p := ⟨gb2028, 4, none⟩) (Kd.R_far (p := ⟨gb2028, 3, none⟩) (Kd.R_far (p := ⟨gb2028, 2, none⟩) (Kd.R_far (p := ⟨gb2028, 1, none⟩) (Kd.R_far (p := ⟨gb2028, 0, none⟩) (Kd.R_types HO2039.out BK2028.out (by decide)) (fun _ hk => hk.2) (.int .i64 t2031)) (fun _ hk => hk.2) (.int .i64 t2032)) (fun _ hk => hk.2) (.int .i64 t2033)) (fun _ hk => hk.2) (.string t2034)) (fun _ hk => hk.2) (.int .i64 t2035)) (fun _ hk => hk.2) (.int .i64 t2036)) (fun _ hk => hk.2) (.slice Ao15 t2037.length co15)) (fun _ hk => hk.2) (.int .i64 t2040)) (fun _ hk => hk.2) (.slice Ao16 t2041.length co16)) (fun _ hk => hk.2) (.slice Ao17 t2044.length co17)) (fun _ hk => hk.2) (.slice Ao18 t2047.length co18)) (fun _ hk => hk.2) (.bool t2050)) (fun _ hk => hk.2) (.slice Ao19 t2051.length co19)) (fun _ hk => hk.2) (.string t2054)) (fun _ hk => hk.1), by (with_reducible repeat (first | apply Kd.R_alloc | apply Kd.R_drewN | apply Kd.R_drew)); exact Kd.R_mono (Kd.R_far (p := ⟨gb2028, 13, none⟩) (Kd.R_far (p := ⟨gb2028, 12, none⟩) (Kd.R_far (p := ⟨gb2028, 11, none⟩) (Kd.R_far (p := ⟨gb2028, 10, none⟩) (Kd.R_far (p := ⟨gb2028, 9, none⟩) (Kd.R_far (p := ⟨gb2028, 8, none⟩) (Kd.R_far (p := ⟨gb2028, 7, none⟩) (Kd.R_far (p := ⟨gb2028, 6, none⟩) (Kd.R_far (p := ⟨gb2028, 5, none⟩) (Kd.R_far (p := ⟨gb2028, 4, none⟩) (Kd.R_far (p := ⟨gb2028, 3, none⟩) (Kd.R_far (p := ⟨gb2028, 2, none⟩) (Kd.R_far (p := ⟨gb2028, 1, none⟩) (Kd.R_far (p := ⟨gb2028, 0, none⟩) (Kd.R_types HO2043.out BK2028.out (by decide)) (fun _ hk => hk.2) (.int .i64 t2031)) (fun _ hk => hk.2) (.int .i64 t2032)) (fun _ hk => hk.2) (.int .i64 t2033)) (fun _ hk => hk.2) (.string t2034)) (fun _ hk => hk.2) (.int .i64 t2035)) (fun _ hk => hk.2) (.int .i64 t2036)) (fun _ hk => hk.2) (.slice Ao15 t2037.length co15)) (fun _ hk => hk.2) (.int .i64 t2040)) (fun _ hk => hk.2) (.slice Ao16 t2041.length co16)) (fun _ hk => hk.2) (.slice Ao17 t2044.length co17)) (fun _ hk => hk.2) (.slice Ao18 t2047.length co18)) (fun _ hk => hk.2) (.bool t2050)) (fun _ hk => hk.2) (.slice Ao19 t2051.length co19)) (fun _ hk => hk.2) (.string t2054)) (fun _ hk => hk.1), by (with_reducible repeat (first | apply Kd.R_alloc | apply Kd.R_drewN | apply Kd.R_drew)); exact Kd.R_mono (Kd.R_far (p := ⟨gb2028, 13, none⟩) (Kd.R_far (p := ⟨gb2028, 12, none⟩) (Kd.R_far (p := ⟨gb2028, 11, none⟩) (Kd.R_far (p := ⟨gb2028, 10, none⟩) (Kd.R_far (p := ⟨gb2028, 9, none⟩) (Kd.R_far (p := ⟨gb2028, 8, none⟩) (Kd.R_far (p := ⟨gb2028, 7, none⟩) (Kd.R_far (p := ⟨gb2028, 6, none⟩) (Kd.R_far (p := ⟨gb2028, 5, none⟩) (Kd.R_far (p := ⟨gb2028, 4, none⟩) (Kd.R_far (p := ⟨gb2028, 3, none⟩) (Kd.R_far (p := ⟨gb2028, 2, none⟩) (Kd.R_far (p := ⟨gb2028, 1, none⟩) (Kd.R_far (p := ⟨gb2028, 0, none⟩) (Kd.R_types HO2046.out BK2028.out (by decide)) (fun _ hk => hk.2) (.int .i64 t2031)) (fun _ hk => hk.2) (.int .i64 t2032)) (fun _ hk => hk.2) (.int .i64 t2033)) (fun _ hk => hk.2) (.string t2034)) (fun _ hk => hk.2) (.int .i64 t2035)) (fun _ hk => hk.2) (.int .i64 t2036)) (fun _ hk => hk.2) (.slice Ao15 t2037.length co15)) (fun _ hk => hk.2) (.int .i64 t2040)) (fun _ hk => hk.2) (.slice Ao16 t2041.length co16)) (fun _ hk => hk.2) (.slice Ao17 t2044.length co17)) (fun _ hk => hk.2) (.slice Ao18 t2047.length co18)) (fun _ hk => hk.2) (.bool t2050)) (fun _ hk => hk.2) (.slice Ao19 t2051.length co19)) (fun _ hk => hk.2) (.string t2054)) (fun _ hk => trivial), by (with_reducible repeat (first | apply Kd.R_alloc | apply Kd.R_drewN | apply Kd.R_drew)); exact Kd.R_mono (Kd.R_far (p := ⟨gb2028, 13, none⟩) (Kd.R_far (p := ⟨gb2028, 12, none⟩) (Kd.R_far (p := ⟨gb2028, 11, none⟩) (Kd.R_far (p := ⟨gb2028, 10, none⟩) (Kd.R_far (p := ⟨gb2028, 9, none⟩) (Kd.R_far (p := ⟨gb2028, 8, none⟩) (Kd.R_far (p := ⟨gb2028, 7, none⟩) (Kd.R_far (p := ⟨gb2028, 6, none⟩) (Kd.R_far (p := ⟨gb2028, 5, none⟩) (Kd.R_far (p := ⟨gb2028, 4, none⟩) (Kd.R_far (p := ⟨gb2028, 3, none⟩) (Kd.R_far (p := ⟨gb2028, 2, none⟩) (Kd.R_far (p := ⟨gb2028, 1, none⟩) (Kd.R_far (p := ⟨gb2028, 0, none⟩) (Kd.R_types HO2049.out BK2028.out (by decide)) (fun _ hk => hk.2) (.int .i64 t2031)) (fun _ hk => hk.2) (.int .i64 t2032)) (fun _ hk => hk.2) (.int .i64 t2033)) (fun _ hk => hk.2) (.string t2034)) (fun _ hk => hk.2) (.int .i64 t2035)) (fun _ hk => hk.2) (.int .i64 t2036)) (fun _ hk => hk.2) (.slice Ao15 t2037.length co15)) (fun _ hk => hk.2) (.int .i64 t2040)) (fun _ hk => hk.2) (.slice Ao16 t2041.length co16)) (fun _ hk => hk.2) (.slice Ao17 t2044.length co17)) (fun _ hk => hk.2) (.slice Ao18 t2047.length co18)) (fun _ hk => hk.2) (.bool t2050)) (fun _ hk => hk.2) (.slice Ao19 t2051.length co19)) (fun _ hk => hk.2) (.string t2054)) (fun _ hk => trivial), by (with_reducible repeat (first | apply Kd.R_alloc | apply Kd.R_drewN | apply Kd.R_drew)); exact Kd.R_mono (Kd.R_far (p := ⟨gb2028, 13, none⟩) (Kd.R_far (p := ⟨gb2028, 12, none⟩) (Kd.R_far (p := ⟨gb2028, 11, none⟩) (Kd.R_far (p := ⟨gb2028, 10, none⟩) (Kd.R_far (p := ⟨gb2028, 9, none⟩) (Kd.R_far (p := ⟨gb2028, 8, none⟩) (Kd.R_far (p := ⟨gb2028, 7, none⟩) (Kd.R_far (p := ⟨gb2028, 6, none⟩) (Kd.R_far (p := ⟨gb2028, 5, none⟩) (Kd.R_far (p := ⟨gb2028, 4, none⟩) (Kd.R_far (p := ⟨gb2028, 3, none⟩) (Kd.R_far (p := ⟨gb2028, 2, none⟩) (Kd.R_far (p := ⟨gb2028, 1, none⟩) (Kd.R_far (p := ⟨gb2028, 0, none⟩) (Kd.R_types HO2053.out BK2028.out (by decide)) (fun _ hk => hk.2) (.int .i64 t2031)) (fun _ hk => hk.2) (.int .i64 t2032)) (fun _ hk => hk.2) (.int .i64 t2033)) (fun _ hk => hk.2) (.string t2034)) (fun _ hk => hk.2) (.int .i64 t2035)) (fun _ hk => hk.2) (.int .i64 t2036)) (fun _ hk => hk.2) (.slice Ao15 t2037.length co15)) (fun _ hk => hk.2) (.int .i64 t2040)) (fun _ hk => hk.2) (.slice Ao16 t2041.length co16)) (fun _ hk => hk.2) (.slice Ao17 t2044.length co17)) (fun _ hk => hk.2) (.slice Ao18 t2047.length co18)) (fun _ hk => hk.2) (.bool t2050)) (fun _ hk => hk.2) (.slice Ao19 t2051.length co19)) (fun _ hk => hk.2) (.string t2054)) (fun _ hk => trivial), by repeat (first | (with_reducible first | exact HB.out | apply below_alloc | apply pw_below_drewN | apply below_drew1 | refine below_set ?_ GE2028.out) | exact HB.out)⟩
      · rw [if_neg c9] at H
        exact absurd H (by simp)
    · rw [if_neg c8] at H
      exact absurd H (by simp)

theorem impl_copyBlock.is {b : S113} (h : spec_l9Copy.few b) : impl_copyBlock.f (b.f0) (b.f1) (b.f2) (b.f3) (b.f4.f0) (b.f4.f1) (b.f4.f2) (b.f5.f0) (b.f5.f1) (b.f5.f2) (b.f6) (b.f7) (b.f8) (b.f9) = some (b.f0, b.f1, b.f2, b.f3, b.f4.f0, b.f4.f1, b.f4.f2, b.f5.f0, b.f5.f1, b.f5.f2, b.f6, b.f7, b.f8, b.f9) := by
  obtain ⟨h1, h2, h3, h4, h5⟩ := h
  unfold impl_copyBlock.f impl_copyQc.f impl_copyTc.f slices_Clone_string_string.f slices_Clone_int_int.f impl_Tx.f impl_Val_213.f
  simp only [Option.bind_some, List.length_nil, List.nil_append, Nat.zero_add]
  rw [if_pos (by omega), Option.bind_some, if_pos (by omega), Option.bind_some, if_pos (by omega), Option.bind_some, Option.bind_some, if_pos (by omega), Option.bind_some, if_pos (by omega), Option.bind_some]
  rfl
theorem impl_BlockAt.is {l : List S113} (hl : l.length ≤ maxLen) (hf : ∀ b ∈ l, spec_l9Copy.few b) (id : Int) : Ev (fun k => impl_BlockAt.f k l id) ((spec_BlockAt.of l id).f0, (spec_BlockAt.of l id).f1, (spec_BlockAt.of l id).f2, (spec_BlockAt.of l id).f3, (spec_BlockAt.of l id).f4.f0, (spec_BlockAt.of l id).f4.f1, (spec_BlockAt.of l id).f4.f2, (spec_BlockAt.of l id).f5.f0, (spec_BlockAt.of l id).f5.f1, (spec_BlockAt.of l id).f5.f2, (spec_BlockAt.of l id).f6, (spec_BlockAt.of l id).f7, (spec_BlockAt.of l id).f8, (spec_BlockAt.of l id).f9, spec_BlockAt.has l id) := by
  unfold impl_BlockAt.f
  refine Ev.bind (impl_blockAt.is hl) ?_
  have hlt := idAt_hi l id
  have hF := spec_BlockAt.of_few (id := id) hf
  by_cases hn : idAt l id < 0
  · rw [show spec_BlockAt.of l id = z113 from if_pos hn, show spec_BlockAt.has l id = false from decide_eq_false (by omega)]
    exact Ev.yes hn (Ev.now _)
  · have hrd : rd_T113 l (idAt l id) = spec_BlockAt.of l id := (if_neg hn).symm
    rw [show spec_BlockAt.has l id = true from decide_eq_true (by omega)]
    refine Ev.no hn (Ev.yes (by omega) (Ev.yes hlt ?_))
    rw [hrd, impl_copyBlock.is hF]
    exact Ev.now _

/-! ### laws_heldBlock: function 82 -/
def laws_heldBlock.f (k : Nat) (a0_0 : Int) (a0_1 : Int) (a0_2 : Int) (a0_3 : ByteArray) (a0_4 : Int) (a0_5 : Int) (l0_6 : List ByteArray) (a0_7 : Int) (l0_8 : List ByteArray) (l0_9 : List Int) (l0_10 : List (S186)) (a0_11 : Bool) (l0_12 : List (S138)) (a0_13 : ByteArray) (a1 : Int) : Option (Int) := (laws_heldQc.f k a0_4 a0_5 l0_6 a1).bind fun t2056 => (if t2056 < 0 then (some (-1)) else ((laws_heldTc.f k a0_7 l0_8 l0_9 t2056).bind fun t2057 => (if t2057 < 0 then (some (-1)) else ((laws_heldTxS.f k l0_10 t2057).bind fun t2058 => (if t2058 < 0 then (some (-1)) else ((laws_heldValS.f k l0_12 t2058).bind fun t2059 => (if t2059 < 0 then (some (-1)) else (some t2059))))))))
theorem laws_heldBlock.mono : ∀ a0 a1 a2 a3 a4 a5 a6 a7 a8 a9 a10 a11 a12 a13 a14 k, LeO (laws_heldBlock.f k a0 a1 a2 a3 a4 a5 a6 a7 a8 a9 a10 a11 a12 a13 a14) (laws_heldBlock.f (k + 1) a0 a1 a2 a3 a4 a5 a6 a7 a8 a9 a10 a11 a12 a13 a14) := by
  intro a0 a1 a2 a3 a4 a5 a6 a7 a8 a9 a10 a11 a12 a13 a14 k
  unfold laws_heldBlock.f
  repeat' first
      | (with_reducible exact laws_heldQc.mono _ _ _ _ _)
      | (with_reducible exact laws_heldTc.mono _ _ _ _ _)
      | (with_reducible exact laws_heldTxS.mono _ _ _)
      | (with_reducible exact laws_heldValS.mono _ _ _)
      | (with_reducible exact LeO.refl _)
      | (with_reducible exact LeO.none _)
      | (with_reducible refine LeO.ite ?_ ?_)
      | (with_reducible refine LeO.bind ?_ (fun _ => ?_))
      | exact laws_heldQc.mono _ _ _ _ _
      | exact laws_heldTc.mono _ _ _ _ _
      | exact laws_heldTxS.mono _ _ _
      | exact laws_heldValS.mono _ _ _
      | exact LeO.none _
      | refine LeO.ite ?_ ?_
      | refine LeO.bind ?_ (fun _ => ?_)
set_option maxHeartbeats 8000000 in
set_option maxRecDepth 100000 in
theorem laws_heldBlock.calls (k : Nat) (a0_0 : Int) (a0_1 : Int) (a0_2 : Int) (a0_3 : ByteArray) (a0_4 : Int) (a0_5 : Int) (A0_6 : Option Addr) (c0_6 : Nat) (l0_6 : List ByteArray) (a0_7 : Int) (A0_8 : Option Addr) (c0_8 : Nat) (l0_8 : List ByteArray) (A0_9 : Option Addr) (c0_9 : Nat) (l0_9 : List Int) (A0_10 : Option Addr) (c0_10 : Nat) (l0_10 : List (S186)) (a0_11 : Bool) (A0_12 : Option Addr) (c0_12 : Nat) (l0_12 : List (S138)) (a0_13 : ByteArray) (a1 : Int) (r : Int) (w : World) (hr0_6 : Kd.C Kd.string w A0_6 l0_6.length l0_6) (hc0_6 : l0_6.length ≤ c0_6) (hr0_8 : Kd.C Kd.string w A0_8 l0_8.length l0_8) (hc0_8 : l0_8.length ≤ c0_8) (hr0_9 : Kd.C (Kd.int .i64) w A0_9 l0_9.length l0_9) (hc0_9 : l0_9.length ≤ c0_9) (hr0_10 : Kd.C k186 w A0_10 l0_10.length l0_10) (hc0_10 : l0_10.length ≤ c0_10) (hr0_12 : Kd.C k138 w A0_12 l0_12.length l0_12) (hc0_12 : l0_12.length ≤ c0_12) (h : laws_heldBlock.f k a0_0 a0_1 a0_2 a0_3 a0_4 a0_5 l0_6 a0_7 l0_8 l0_9 l0_10 a0_11 l0_12 a0_13 a1 = some r) :
    Calls Try.prog 82 #[.agg #[.int .i64 a0_0, .int .i64 a0_1, .int .i64 a0_2, .string a0_3, .int .i64 a0_4, .int .i64 a0_5, .slice A0_6 l0_6.length c0_6, .int .i64 a0_7, .slice A0_8 l0_8.length c0_8, .slice A0_9 l0_9.length c0_9, .slice A0_10 l0_10.length c0_10, .bool a0_11, .slice A0_12 l0_12.length c0_12, .string a0_13], .int .i64 a1] w fun e w' => e = .returned (.int .i64 r) ∧ Below w.heap.size w w' := by
  have hu113 := Try.underlying113
  have hu49 := Try.underlying49
  have hu60 := Try.underlying60
  have HR0_6 := Aside0.mk hr0_6
  have HC0_6 := Aside0.mk hc0_6
  clear hr0_6 hc0_6
  have HR0_8 := Aside0.mk hr0_8
  have HC0_8 := Aside0.mk hc0_8
  clear hr0_8 hc0_8
  have HR0_9 := Aside0.mk hr0_9
  have HC0_9 := Aside0.mk hc0_9
  clear hr0_9 hc0_9
  have HR0_10 := Aside0.mk hr0_10
  have HC0_10 := Aside0.mk hc0_10
  clear hr0_10 hc0_10
  have HR0_12 := Aside0.mk hr0_12
  have HC0_12 := Aside0.mk hc0_12
  clear hr0_12 hc0_12
  have HB := Aside0.mk (Below.refl w.heap.size w)
  have H : ((laws_heldQc.f k a0_4 a0_5 l0_6 a1).bind fun t2056 => (if t2056 < 0 then (some (-1)) else ((laws_heldTc.f k a0_7 l0_8 l0_9 t2056).bind fun t2057 => (if t2057 < 0 then (some (-1)) else ((laws_heldTxS.f k l0_10 t2057).bind fun t2058 => (if t2058 < 0 then (some (-1)) else ((laws_heldValS.f k l0_12 t2058).bind fun t2059 => (if t2059 < 0 then (some (-1)) else (some t2059))))))))) = some r := h
  clear h
  replace H := Option.bind_eq_some_iff.mp H
  obtain ⟨t2056, A30, H⟩ := H
  replace H : (if t2056 < 0 then (some (-1)) else ((laws_heldTc.f k a0_7 l0_8 l0_9 t2056).bind fun t2057 => (if t2057 < 0 then (some (-1)) else ((laws_heldTxS.f k l0_10 t2057).bind fun t2058 => (if t2058 < 0 then (some (-1)) else ((laws_heldValS.f k l0_12 t2058).bind fun t2059 => (if t2059 < 0 then (some (-1)) else (some t2059)))))))) = some r := H
  have A3 := Aside0.mk A30
  clear A30
  by_cases c4 : t2056 < 0
  · rw [if_pos c4] at H
    have c4b0 : decide (t2056 < 0) = true := decide_eq_true c4
    clear c4
    obtain rfl := Option.some.inj H
    go_enter Try.func82, Try.ntmps82
    go_wp2_with (first | ((with_reducible refine gate_dst (N := 2) rfl ?_); refine box_event ?hg (N := 2) ?hd (cs := #[.int .i64 a0_0, .int .i64 a0_1, .int .i64 a0_2, .string a0_3, .int .i64 a0_4, .int .i64 a0_5, .slice A0_6 l0_6.length c0_6, .int .i64 a0_7, .slice A0_8 l0_8.length c0_8, .slice A0_9 l0_9.length c0_9, .slice A0_10 l0_10.length c0_10, .bool a0_11, .slice A0_12 l0_12.length c0_12, .string a0_13]) (t := 113) ?hr ?_; (case hd => rfl); (case hg => rfl); (case hr => first | (go_simp; done) | (go_simp; rfl)); intro gb2055 hg w5 hbox hb; have n0_ := Aside0.mk (below_step (by repeat (first | (with_reducible first | exact HB.out | apply below_alloc | apply pw_below_drewN | apply below_drew1) | exact HB.out)) hb); have n1_ := Aside0.mk (hbox); have n2_ := Aside0.mk ((by rw [hg]; exact (below_size (by repeat (first | (with_reducible first | exact HB.out | apply below_alloc | apply pw_below_drewN | apply below_drew1) | exact HB.out))) : w.heap.size ≤ gb2055)); have n3_ := n2_; clear HB; have HB := n0_; have BK2055 := n1_; have GW2055 := n2_; have GE2055 := n3_; clear n0_ n1_ n2_ n3_; clear hb hbox hg; obtain ⟨hcz6_0, hcz6_1, hcz6_2, hcz6_3, hcz6_4, hcz6_5, hcz6_6, hcz6_7, hcz6_8, hcz6_9, hcz6_10, hcz6_11, hcz6_12, hcz6_13⟩ := cells14 BK2055.out; obtain ⟨hfz6_0, hfz6_1, hfz6_2, hfz6_3, hfz6_4, hfz6_5, hfz6_6, hfz6_7, hfz6_8, hfz6_9, hfz6_10, hfz6_11, hfz6_12, hfz6_13⟩ := frozens14 BK2055.out) | ((with_reducible refine gate_callee (f := 54) rfl ?_); refine goesL_ (some 8) rfl rfl Try.func54 (by kernel_rfl) rfl #[.agg #[.int .i64 a0_4, .int .i64 a0_5, .slice A0_6 l0_6.length c0_6], .int .i64 a1] rfl (by (try simp only [List.map_toArray, List.map_cons, List.map_nil]); first | done | rfl | (simp only [List.length_drop, List.length_take]; rfl)) ?_; (with_reducible refine (laws_heldQc.calls k a0_4 a0_5 _ _ l0_6 a1 t2056 _ ?side1 ?side2 A3.out).mono ?_); (case side1 => repeat (first | exact (Kd.C_below HR0_6.out HB.out) | (with_reducible refine Kd.C_alloc ?_ _) | (with_reducible refine Kd.C_drewN ?_ _) | (with_reducible refine Kd.C_drew ?_))); (case side2 => exact HC0_6.out); rintro e w7 ⟨rfl, hb⟩; refine ⟨_, rfl, ?_⟩; have n0_ := Aside0.mk (blk_below (g := gb2055) (by (with_reducible repeat (first | refine blk_drewN ?_ _ | refine blk_drew ?_ | refine blk_alloc ?_ _)); exact BK2055.out) hb); have n1_ := Aside0.mk (below_step (by repeat (first | (with_reducible first | exact HB.out | apply below_alloc | apply pw_below_drewN | apply below_drew1 | refine below_set ?_ GE2055.out) | exact HB.out)) hb); clear BK2055; clear HB; have BK2055 := n0_; have HB := n1_; clear n0_ n1_; (try clear hb); (try clear hb2); (try clear hk); (try clear hi)))
    go_ret
    exact ⟨by first | rfl | (simp [errW_none, errW_some] <;> rfl) | (simp [*, errW_none, errW_some] <;> rfl), by repeat (first | (with_reducible first | exact HB.out | apply below_alloc | apply pw_below_drewN | apply below_drew1 | refine below_set ?_ GE2055.out) | exact HB.out)⟩
  · rw [if_neg c4] at H
    have c4b0 : decide (t2056 < 0) = false := decide_eq_false c4
    clear c4
    replace H := Option.bind_eq_some_iff.mp H
    obtain ⟨t2057, A80, H⟩ := H
    replace H : (if t2057 < 0 then (some (-1)) else ((laws_heldTxS.f k l0_10 t2057).bind fun t2058 => (if t2058 < 0 then (some (-1)) else ((laws_heldValS.f k l0_12 t2058).bind fun t2059 => (if t2059 < 0 then (some (-1)) else (some t2059)))))) = some r := H
    have A8 := Aside0.mk A80
    clear A80
    by_cases c9 : t2057 < 0
    · rw [if_pos c9] at H
      have c9b0 : decide (t2057 < 0) = true := decide_eq_true c9
      clear c9
      obtain rfl := Option.some.inj H
      go_enter Try.func82, Try.ntmps82
      go_wp2_with (first | ((with_reducible refine gate_dst (N := 2) rfl ?_); refine box_event ?hg (N := 2) ?hd (cs := #[.int .i64 a0_0, .int .i64 a0_1, .int .i64 a0_2, .string a0_3, .int .i64 a0_4, .int .i64 a0_5, .slice A0_6 l0_6.length c0_6, .int .i64 a0_7, .slice A0_8 l0_8.length c0_8, .slice A0_9 l0_9.length c0_9, .slice A0_10 l0_10.length c0_10, .bool a0_11, .slice A0_12 l0_12.length c0_12, .string a0_13]) (t := 113) ?hr ?_; (case hd => rfl); (case hg => rfl); (case hr => first | (go_simp; done) | (go_simp; rfl)); intro gb2055 hg w10 hbox hb; have n0_ := Aside0.mk (below_step (by repeat (first | (with_reducible first | exact HB.out | apply below_alloc | apply pw_below_drewN | apply below_drew1) | exact HB.out)) hb); have n1_ := Aside0.mk (hbox); have n2_ := Aside0.mk ((by rw [hg]; exact (below_size (by repeat (first | (with_reducible first | exact HB.out | apply below_alloc | apply pw_below_drewN | apply below_drew1) | exact HB.out))) : w.heap.size ≤ gb2055)); have n3_ := n2_; clear HB; have HB := n0_; have BK2055 := n1_; have GW2055 := n2_; have GE2055 := n3_; clear n0_ n1_ n2_ n3_; clear hb hbox hg; obtain ⟨hcz11_0, hcz11_1, hcz11_2, hcz11_3, hcz11_4, hcz11_5, hcz11_6, hcz11_7, hcz11_8, hcz11_9, hcz11_10, hcz11_11, hcz11_12, hcz11_13⟩ := cells14 BK2055.out; obtain ⟨hfz11_0, hfz11_1, hfz11_2, hfz11_3, hfz11_4, hfz11_5, hfz11_6, hfz11_7, hfz11_8, hfz11_9, hfz11_10, hfz11_11, hfz11_12, hfz11_13⟩ := frozens14 BK2055.out) | ((with_reducible refine gate_callee (f := 54) rfl ?_); refine goesL_ (some 8) rfl rfl Try.func54 (by kernel_rfl) rfl #[.agg #[.int .i64 a0_4, .int .i64 a0_5, .slice A0_6 l0_6.length c0_6], .int .i64 a1] rfl (by (try simp only [List.map_toArray, List.map_cons, List.map_nil]); first | done | rfl | (simp only [List.length_drop, List.length_take]; rfl)) ?_; (with_reducible refine (laws_heldQc.calls k a0_4 a0_5 _ _ l0_6 a1 t2056 _ ?side1 ?side2 A3.out).mono ?_); (case side1 => repeat (first | exact (Kd.C_below HR0_6.out HB.out) | (with_reducible refine Kd.C_alloc ?_ _) | (with_reducible refine Kd.C_drewN ?_ _) | (with_reducible refine Kd.C_drew ?_))); (case side2 => exact HC0_6.out); rintro e w12 ⟨rfl, hb⟩; refine ⟨_, rfl, ?_⟩; have n0_ := Aside0.mk (blk_below (g := gb2055) (by (with_reducible repeat (first | refine blk_drewN ?_ _ | refine blk_drew ?_ | refine blk_alloc ?_ _)); exact BK2055.out) hb); have n1_ := Aside0.mk (below_step (by repeat (first | (with_reducible first | exact HB.out | apply below_alloc | apply pw_below_drewN | apply below_drew1 | refine below_set ?_ GE2055.out) | exact HB.out)) hb); clear BK2055; clear HB; have BK2055 := n0_; have HB := n1_; clear n0_ n1_; (try clear hb); (try clear hb2); (try clear hk); (try clear hi); obtain ⟨hcz13_0, hcz13_1, hcz13_2, hcz13_3, hcz13_4, hcz13_5, hcz13_6, hcz13_7, hcz13_8, hcz13_9, hcz13_10, hcz13_11, hcz13_12, hcz13_13⟩ := cells14 BK2055.out; obtain ⟨hfz13_0, hfz13_1, hfz13_2, hfz13_3, hfz13_4, hfz13_5, hfz13_6, hfz13_7, hfz13_8, hfz13_9, hfz13_10, hfz13_11, hfz13_12, hfz13_13⟩ := frozens14 BK2055.out) | ((with_reducible refine gate_callee (f := 61) rfl ?_); refine goesL_ (some 14) rfl rfl Try.func61 (by kernel_rfl) rfl #[.agg #[.int .i64 a0_7, .slice A0_8 l0_8.length c0_8, .slice A0_9 l0_9.length c0_9], .int .i64 t2056] rfl (by (try simp only [List.map_toArray, List.map_cons, List.map_nil]); first | done | rfl | (simp only [List.length_drop, List.length_take]; rfl)) ?_; (with_reducible refine (laws_heldTc.calls k a0_7 _ _ l0_8 _ _ l0_9 t2056 t2057 _ ?side1 ?side2 ?side3 ?side4 A8.out).mono ?_); (case side1 => repeat (first | exact (Kd.C_below HR0_8.out HB.out) | (with_reducible refine Kd.C_alloc ?_ _) | (with_reducible refine Kd.C_drewN ?_ _) | (with_reducible refine Kd.C_drew ?_))); (case side2 => exact HC0_8.out); (case side3 => repeat (first | exact (Kd.C_below HR0_9.out HB.out) | (with_reducible refine Kd.C_alloc ?_ _) | (with_reducible refine Kd.C_drewN ?_ _) | (with_reducible refine Kd.C_drew ?_))); (case side4 => exact HC0_9.out); rintro e w14 ⟨rfl, hb⟩; refine ⟨_, rfl, ?_⟩; have n0_ := Aside0.mk (blk_below (g := gb2055) (by (with_reducible repeat (first | refine blk_drewN ?_ _ | refine blk_drew ?_ | refine blk_alloc ?_ _)); exact BK2055.out) hb); have n1_ := Aside0.mk (below_step (by repeat (first | (with_reducible first | exact HB.out | apply below_alloc | apply pw_below_drewN | apply below_drew1 | refine below_set ?_ GE2055.out) | exact HB.out)) hb); clear BK2055; clear HB; have BK2055 := n0_; have HB := n1_; clear n0_ n1_; (try clear hb); (try clear hb2); (try clear hk); (try clear hi)))
      go_ret
      exact ⟨by first | rfl | (simp [errW_none, errW_some] <;> rfl) | (simp [*, errW_none, errW_some] <;> rfl), by repeat (first | (with_reducible first | exact HB.out | apply below_alloc | apply pw_below_drewN | apply below_drew1 | refine below_set ?_ GE2055.out) | exact HB.out)⟩
    · rw [if_neg c9] at H
      have c9b0 : decide (t2057 < 0) = false := decide_eq_false c9
      clear c9
      replace H := Option.bind_eq_some_iff.mp H
      obtain ⟨t2058, A150, H⟩ := H
      replace H : (if t2058 < 0 then (some (-1)) else ((laws_heldValS.f k l0_12 t2058).bind fun t2059 => (if t2059 < 0 then (some (-1)) else (some t2059)))) = some r := H
      have A15 := Aside0.mk A150
      clear A150
      by_cases c16 : t2058 < 0
      · rw [if_pos c16] at H
        have c16b0 : decide (t2058 < 0) = true := decide_eq_true c16
        clear c16
        obtain rfl := Option.some.inj H
        go_enter Try.func82, Try.ntmps82
        go_wp2_with (first | ((with_reducible refine gate_dst (N := 2) rfl ?_); refine box_event ?hg (N := 2) ?hd (cs := #[.int .i64 a0_0, .int .i64 a0_1, .int .i64 a0_2, .string a0_3, .int .i64 a0_4, .int .i64 a0_5, .slice A0_6 l0_6.length c0_6, .int .i64 a0_7, .slice A0_8 l0_8.length c0_8, .slice A0_9 l0_9.length c0_9, .slice A0_10 l0_10.length c0_10, .bool a0_11, .slice A0_12 l0_12.length c0_12, .string a0_13]) (t := 113) ?hr ?_; (case hd => rfl); (case hg => rfl); (case hr => first | (go_simp; done) | (go_simp; rfl)); intro gb2055 hg w17 hbox hb; have n0_ := Aside0.mk (below_step (by repeat (first | (with_reducible first | exact HB.out | apply below_alloc | apply pw_below_drewN | apply below_drew1) | exact HB.out)) hb); have n1_ := Aside0.mk (hbox); have n2_ := Aside0.mk ((by rw [hg]; exact (below_size (by repeat (first | (with_reducible first | exact HB.out | apply below_alloc | apply pw_below_drewN | apply below_drew1) | exact HB.out))) : w.heap.size ≤ gb2055)); have n3_ := n2_; clear HB; have HB := n0_; have BK2055 := n1_; have GW2055 := n2_; have GE2055 := n3_; clear n0_ n1_ n2_ n3_; clear hb hbox hg; obtain ⟨hcz18_0, hcz18_1, hcz18_2, hcz18_3, hcz18_4, hcz18_5, hcz18_6, hcz18_7, hcz18_8, hcz18_9, hcz18_10, hcz18_11, hcz18_12, hcz18_13⟩ := cells14 BK2055.out; obtain ⟨hfz18_0, hfz18_1, hfz18_2, hfz18_3, hfz18_4, hfz18_5, hfz18_6, hfz18_7, hfz18_8, hfz18_9, hfz18_10, hfz18_11, hfz18_12, hfz18_13⟩ := frozens14 BK2055.out) | ((with_reducible refine gate_callee (f := 54) rfl ?_); refine goesL_ (some 8) rfl rfl Try.func54 (by kernel_rfl) rfl #[.agg #[.int .i64 a0_4, .int .i64 a0_5, .slice A0_6 l0_6.length c0_6], .int .i64 a1] rfl (by (try simp only [List.map_toArray, List.map_cons, List.map_nil]); first | done | rfl | (simp only [List.length_drop, List.length_take]; rfl)) ?_; (with_reducible refine (laws_heldQc.calls k a0_4 a0_5 _ _ l0_6 a1 t2056 _ ?side1 ?side2 A3.out).mono ?_); (case side1 => repeat (first | exact (Kd.C_below HR0_6.out HB.out) | (with_reducible refine Kd.C_alloc ?_ _) | (with_reducible refine Kd.C_drewN ?_ _) | (with_reducible refine Kd.C_drew ?_))); (case side2 => exact HC0_6.out); rintro e w19 ⟨rfl, hb⟩; refine ⟨_, rfl, ?_⟩; have n0_ := Aside0.mk (blk_below (g := gb2055) (by (with_reducible repeat (first | refine blk_drewN ?_ _ | refine blk_drew ?_ | refine blk_alloc ?_ _)); exact BK2055.out) hb); have n1_ := Aside0.mk (below_step (by repeat (first | (with_reducible first | exact HB.out | apply below_alloc | apply pw_below_drewN | apply below_drew1 | refine below_set ?_ GE2055.out) | exact HB.out)) hb); clear BK2055; clear HB; have BK2055 := n0_; have HB := n1_; clear n0_ n1_; (try clear hb); (try clear hb2); (try clear hk); (try clear hi); obtain ⟨hcz20_0, hcz20_1, hcz20_2, hcz20_3, hcz20_4, hcz20_5, hcz20_6, hcz20_7, hcz20_8, hcz20_9, hcz20_10, hcz20_11, hcz20_12, hcz20_13⟩ := cells14 BK2055.out; obtain ⟨hfz20_0, hfz20_1, hfz20_2, hfz20_3, hfz20_4, hfz20_5, hfz20_6, hfz20_7, hfz20_8, hfz20_9, hfz20_10, hfz20_11, hfz20_12, hfz20_13⟩ := frozens14 BK2055.out) | ((with_reducible refine gate_callee (f := 61) rfl ?_); refine goesL_ (some 14) rfl rfl Try.func61 (by kernel_rfl) rfl #[.agg #[.int .i64 a0_7, .slice A0_8 l0_8.length c0_8, .slice A0_9 l0_9.length c0_9], .int .i64 t2056] rfl (by (try simp only [List.map_toArray, List.map_cons, List.map_nil]); first | done | rfl | (simp only [List.length_drop, List.length_take]; rfl)) ?_; (with_reducible refine (laws_heldTc.calls k a0_7 _ _ l0_8 _ _ l0_9 t2056 t2057 _ ?side1 ?side2 ?side3 ?side4 A8.out).mono ?_); (case side1 => repeat (first | exact (Kd.C_below HR0_8.out HB.out) | (with_reducible refine Kd.C_alloc ?_ _) | (with_reducible refine Kd.C_drewN ?_ _) | (with_reducible refine Kd.C_drew ?_))); (case side2 => exact HC0_8.out); (case side3 => repeat (first | exact (Kd.C_below HR0_9.out HB.out) | (with_reducible refine Kd.C_alloc ?_ _) | (with_reducible refine Kd.C_drewN ?_ _) | (with_reducible refine Kd.C_drew ?_))); (case side4 => exact HC0_9.out); rintro e w21 ⟨rfl, hb⟩; refine ⟨_, rfl, ?_⟩; have n0_ := Aside0.mk (blk_below (g := gb2055) (by (with_reducible repeat (first | refine blk_drewN ?_ _ | refine blk_drew ?_ | refine blk_alloc ?_ _)); exact BK2055.out) hb); have n1_ := Aside0.mk (below_step (by repeat (first | (with_reducible first | exact HB.out | apply below_alloc | apply pw_below_drewN | apply below_drew1 | refine below_set ?_ GE2055.out) | exact HB.out)) hb); clear BK2055; clear HB; have BK2055 := n0_; have HB := n1_; clear n0_ n1_; (try clear hb); (try clear hb2); (try clear hk); (try clear hi); obtain ⟨hcz22_0, hcz22_1, hcz22_2, hcz22_3, hcz22_4, hcz22_5, hcz22_6, hcz22_7, hcz22_8, hcz22_9, hcz22_10, hcz22_11, hcz22_12, hcz22_13⟩ := cells14 BK2055.out; obtain ⟨hfz22_0, hfz22_1, hfz22_2, hfz22_3, hfz22_4, hfz22_5, hfz22_6, hfz22_7, hfz22_8, hfz22_9, hfz22_10, hfz22_11, hfz22_12, hfz22_13⟩ := frozens14 BK2055.out) | ((with_reducible refine gate_callee (f := 89) rfl ?_); refine goesL_ (some 20) rfl rfl Try.func89 (by kernel_rfl) rfl #[.slice A0_10 l0_10.length c0_10, .int .i64 t2057] rfl (by (try simp only [List.map_toArray, List.map_cons, List.map_nil]); first | done | rfl | (simp only [List.length_drop, List.length_take]; rfl)) ?_; (with_reducible refine (laws_heldTxS.calls k _ _ l0_10 t2057 t2058 _ ?side1 ?side2 A15.out).mono ?_); (case side1 => repeat (first | exact (Kd.C_below HR0_10.out HB.out) | (with_reducible refine Kd.C_alloc ?_ _) | (with_reducible refine Kd.C_drewN ?_ _) | (with_reducible refine Kd.C_drew ?_))); (case side2 => exact HC0_10.out); rintro e w23 ⟨rfl, hb⟩; refine ⟨_, rfl, ?_⟩; have n0_ := Aside0.mk (blk_below (g := gb2055) (by (with_reducible repeat (first | refine blk_drewN ?_ _ | refine blk_drew ?_ | refine blk_alloc ?_ _)); exact BK2055.out) hb); have n1_ := Aside0.mk (below_step (by repeat (first | (with_reducible first | exact HB.out | apply below_alloc | apply pw_below_drewN | apply below_drew1 | refine below_set ?_ GE2055.out) | exact HB.out)) hb); clear BK2055; clear HB; have BK2055 := n0_; have HB := n1_; clear n0_ n1_; (try clear hb); (try clear hb2); (try clear hk); (try clear hi)))
        go_ret
        exact ⟨by first | rfl | (simp [errW_none, errW_some] <;> rfl) | (simp [*, errW_none, errW_some] <;> rfl), by repeat (first | (with_reducible first | exact HB.out | apply below_alloc | apply pw_below_drewN | apply below_drew1 | refine below_set ?_ GE2055.out) | exact HB.out)⟩
      · rw [if_neg c16] at H
        have c16b0 : decide (t2058 < 0) = false := decide_eq_false c16
        clear c16
        replace H := Option.bind_eq_some_iff.mp H
        obtain ⟨t2059, A240, H⟩ := H
        replace H : (if t2059 < 0 then (some (-1)) else (some t2059)) = some r := H
        have A24 := Aside0.mk A240
        clear A240
        by_cases c25 : t2059 < 0
        · rw [if_pos c25] at H
          have c25b0 : decide (t2059 < 0) = true := decide_eq_true c25
          clear c25
          obtain rfl := Option.some.inj H
          go_enter Try.func82, Try.ntmps82
          go_wp2_with (first | ((with_reducible refine gate_dst (N := 2) rfl ?_); refine box_event ?hg (N := 2) ?hd (cs := #[.int .i64 a0_0, .int .i64 a0_1, .int .i64 a0_2, .string a0_3, .int .i64 a0_4, .int .i64 a0_5, .slice A0_6 l0_6.length c0_6, .int .i64 a0_7, .slice A0_8 l0_8.length c0_8, .slice A0_9 l0_9.length c0_9, .slice A0_10 l0_10.length c0_10, .bool a0_11, .slice A0_12 l0_12.length c0_12, .string a0_13]) (t := 113) ?hr ?_; (case hd => rfl); (case hg => rfl); (case hr => first | (go_simp; done) | (go_simp; rfl)); intro gb2055 hg w26 hbox hb; have n0_ := Aside0.mk (below_step (by repeat (first | (with_reducible first | exact HB.out | apply below_alloc | apply pw_below_drewN | apply below_drew1) | exact HB.out)) hb); have n1_ := Aside0.mk (hbox); have n2_ := Aside0.mk ((by rw [hg]; exact (below_size (by repeat (first | (with_reducible first | exact HB.out | apply below_alloc | apply pw_below_drewN | apply below_drew1) | exact HB.out))) : w.heap.size ≤ gb2055)); have n3_ := n2_; clear HB; have HB := n0_; have BK2055 := n1_; have GW2055 := n2_; have GE2055 := n3_; clear n0_ n1_ n2_ n3_; clear hb hbox hg; obtain ⟨hcz27_0, hcz27_1, hcz27_2, hcz27_3, hcz27_4, hcz27_5, hcz27_6, hcz27_7, hcz27_8, hcz27_9, hcz27_10, hcz27_11, hcz27_12, hcz27_13⟩ := cells14 BK2055.out; obtain ⟨hfz27_0, hfz27_1, hfz27_2, hfz27_3, hfz27_4, hfz27_5, hfz27_6, hfz27_7, hfz27_8, hfz27_9, hfz27_10, hfz27_11, hfz27_12, hfz27_13⟩ := frozens14 BK2055.out) | ((with_reducible refine gate_callee (f := 54) rfl ?_); refine goesL_ (some 8) rfl rfl Try.func54 (by kernel_rfl) rfl #[.agg #[.int .i64 a0_4, .int .i64 a0_5, .slice A0_6 l0_6.length c0_6], .int .i64 a1] rfl (by (try simp only [List.map_toArray, List.map_cons, List.map_nil]); first | done | rfl | (simp only [List.length_drop, List.length_take]; rfl)) ?_; (with_reducible refine (laws_heldQc.calls k a0_4 a0_5 _ _ l0_6 a1 t2056 _ ?side1 ?side2 A3.out).mono ?_); (case side1 => repeat (first | exact (Kd.C_below HR0_6.out HB.out) | (with_reducible refine Kd.C_alloc ?_ _) | (with_reducible refine Kd.C_drewN ?_ _) | (with_reducible refine Kd.C_drew ?_))); (case side2 => exact HC0_6.out); rintro e w28 ⟨rfl, hb⟩; refine ⟨_, rfl, ?_⟩; have n0_ := Aside0.mk (blk_below (g := gb2055) (by (with_reducible repeat (first | refine blk_drewN ?_ _ | refine blk_drew ?_ | refine blk_alloc ?_ _)); exact BK2055.out) hb); have n1_ := Aside0.mk (below_step (by repeat (first | (with_reducible first | exact HB.out | apply below_alloc | apply pw_below_drewN | apply below_drew1 | refine below_set ?_ GE2055.out) | exact HB.out)) hb); clear BK2055; clear HB; have BK2055 := n0_; have HB := n1_; clear n0_ n1_; (try clear hb); (try clear hb2); (try clear hk); (try clear hi); obtain ⟨hcz29_0, hcz29_1, hcz29_2, hcz29_3, hcz29_4, hcz29_5, hcz29_6, hcz29_7, hcz29_8, hcz29_9, hcz29_10, hcz29_11, hcz29_12, hcz29_13⟩ := cells14 BK2055.out; obtain ⟨hfz29_0, hfz29_1, hfz29_2, hfz29_3, hfz29_4, hfz29_5, hfz29_6, hfz29_7, hfz29_8, hfz29_9, hfz29_10, hfz29_11, hfz29_12, hfz29_13⟩ := frozens14 BK2055.out) | ((with_reducible refine gate_callee (f := 61) rfl ?_); refine goesL_ (some 14) rfl rfl Try.func61 (by kernel_rfl) rfl #[.agg #[.int .i64 a0_7, .slice A0_8 l0_8.length c0_8, .slice A0_9 l0_9.length c0_9], .int .i64 t2056] rfl (by (try simp only [List.map_toArray, List.map_cons, List.map_nil]); first | done | rfl | (simp only [List.length_drop, List.length_take]; rfl)) ?_; (with_reducible refine (laws_heldTc.calls k a0_7 _ _ l0_8 _ _ l0_9 t2056 t2057 _ ?side1 ?side2 ?side3 ?side4 A8.out).mono ?_); (case side1 => repeat (first | exact (Kd.C_below HR0_8.out HB.out) | (with_reducible refine Kd.C_alloc ?_ _) | (with_reducible refine Kd.C_drewN ?_ _) | (with_reducible refine Kd.C_drew ?_))); (case side2 => exact HC0_8.out); (case side3 => repeat (first | exact (Kd.C_below HR0_9.out HB.out) | (with_reducible refine Kd.C_alloc ?_ _) | (with_reducible refine Kd.C_drewN ?_ _) | (with_reducible refine Kd.C_drew ?_))); (case side4 => exact HC0_9.out); rintro e w30 ⟨rfl, hb⟩; refine ⟨_, rfl, ?_⟩; have n0_ := Aside0.mk (blk_below (g := gb2055) (by (with_reducible repeat (first | refine blk_drewN ?_ _ | refine blk_drew ?_ | refine blk_alloc ?_ _)); exact BK2055.out) hb); have n1_ := Aside0.mk (below_step (by repeat (first | (with_reducible first | exact HB.out | apply below_alloc | apply pw_below_drewN | apply below_drew1 | refine below_set ?_ GE2055.out) | exact HB.out)) hb); clear BK2055; clear HB; have BK2055 := n0_; have HB := n1_; clear n0_ n1_; (try clear hb); (try clear hb2); (try clear hk); (try clear hi); obtain ⟨hcz31_0, hcz31_1, hcz31_2, hcz31_3, hcz31_4, hcz31_5, hcz31_6, hcz31_7, hcz31_8, hcz31_9, hcz31_10, hcz31_11, hcz31_12, hcz31_13⟩ := cells14 BK2055.out; obtain ⟨hfz31_0, hfz31_1, hfz31_2, hfz31_3, hfz31_4, hfz31_5, hfz31_6, hfz31_7, hfz31_8, hfz31_9, hfz31_10, hfz31_11, hfz31_12, hfz31_13⟩ := frozens14 BK2055.out) | ((with_reducible refine gate_callee (f := 89) rfl ?_); refine goesL_ (some 20) rfl rfl Try.func89 (by kernel_rfl) rfl #[.slice A0_10 l0_10.length c0_10, .int .i64 t2057] rfl (by (try simp only [List.map_toArray, List.map_cons, List.map_nil]); first | done | rfl | (simp only [List.length_drop, List.length_take]; rfl)) ?_; (with_reducible refine (laws_heldTxS.calls k _ _ l0_10 t2057 t2058 _ ?side1 ?side2 A15.out).mono ?_); (case side1 => repeat (first | exact (Kd.C_below HR0_10.out HB.out) | (with_reducible refine Kd.C_alloc ?_ _) | (with_reducible refine Kd.C_drewN ?_ _) | (with_reducible refine Kd.C_drew ?_))); (case side2 => exact HC0_10.out); rintro e w32 ⟨rfl, hb⟩; refine ⟨_, rfl, ?_⟩; have n0_ := Aside0.mk (blk_below (g := gb2055) (by (with_reducible repeat (first | refine blk_drewN ?_ _ | refine blk_drew ?_ | refine blk_alloc ?_ _)); exact BK2055.out) hb); have n1_ := Aside0.mk (below_step (by repeat (first | (with_reducible first | exact HB.out | apply below_alloc | apply pw_below_drewN | apply below_drew1 | refine below_set ?_ GE2055.out) | exact HB.out)) hb); clear BK2055; clear HB; have BK2055 := n0_; have HB := n1_; clear n0_ n1_; (try clear hb); (try clear hb2); (try clear hk); (try clear hi); obtain ⟨hcz33_0, hcz33_1, hcz33_2, hcz33_3, hcz33_4, hcz33_5, hcz33_6, hcz33_7, hcz33_8, hcz33_9, hcz33_10, hcz33_11, hcz33_12, hcz33_13⟩ := cells14 BK2055.out; obtain ⟨hfz33_0, hfz33_1, hfz33_2, hfz33_3, hfz33_4, hfz33_5, hfz33_6, hfz33_7, hfz33_8, hfz33_9, hfz33_10, hfz33_11, hfz33_12, hfz33_13⟩ := frozens14 BK2055.out) | ((with_reducible refine gate_callee (f := 45) rfl ?_); refine goesL_ (some 26) rfl rfl Try.func45 (by kernel_rfl) rfl #[.slice A0_12 l0_12.length c0_12, .int .i64 t2058] rfl (by (try simp only [List.map_toArray, List.map_cons, List.map_nil]); first | done | rfl | (simp only [List.length_drop, List.length_take]; rfl)) ?_; (with_reducible refine (laws_heldValS.calls k _ _ l0_12 t2058 t2059 _ ?side1 ?side2 A24.out).mono ?_); (case side1 => repeat (first | exact (Kd.C_below HR0_12.out HB.out) | (with_reducible refine Kd.C_alloc ?_ _) | (with_reducible refine Kd.C_drewN ?_ _) | (with_reducible refine Kd.C_drew ?_))); (case side2 => exact HC0_12.out); rintro e w34 ⟨rfl, hb⟩; refine ⟨_, rfl, ?_⟩; have n0_ := Aside0.mk (blk_below (g := gb2055) (by (with_reducible repeat (first | refine blk_drewN ?_ _ | refine blk_drew ?_ | refine blk_alloc ?_ _)); exact BK2055.out) hb); have n1_ := Aside0.mk (below_step (by repeat (first | (with_reducible first | exact HB.out | apply below_alloc | apply pw_below_drewN | apply below_drew1 | refine below_set ?_ GE2055.out) | exact HB.out)) hb); clear BK2055; clear HB; have BK2055 := n0_; have HB := n1_; clear n0_ n1_; (try clear hb); (try clear hb2); (try clear hk); (try clear hi)))
          go_ret
          exact ⟨by first | rfl | (simp [errW_none, errW_some] <;> rfl) | (simp [*, errW_none, errW_some] <;> rfl), by repeat (first | (with_reducible first | exact HB.out | apply below_alloc | apply pw_below_drewN | apply below_drew1 | refine below_set ?_ GE2055.out) | exact HB.out)⟩
        · rw [if_neg c25] at H
          have c25b0 : decide (t2059 < 0) = false := decide_eq_false c25
          clear c25
          obtain rfl := Option.some.inj H
          go_enter Try.func82, Try.ntmps82
          go_wp2_with (first | ((with_reducible refine gate_dst (N := 2) rfl ?_); refine box_event ?hg (N := 2) ?hd (cs := #[.int .i64 a0_0, .int .i64 a0_1, .int .i64 a0_2, .string a0_3, .int .i64 a0_4, .int .i64 a0_5, .slice A0_6 l0_6.length c0_6, .int .i64 a0_7, .slice A0_8 l0_8.length c0_8, .slice A0_9 l0_9.length c0_9, .slice A0_10 l0_10.length c0_10, .bool a0_11, .slice A0_12 l0_12.length c0_12, .string a0_13]) (t := 113) ?hr ?_; (case hd => rfl); (case hg => rfl); (case hr => first | (go_simp; done) | (go_simp; rfl)); intro gb2055 hg w35 hbox hb; have n0_ := Aside0.mk (below_step (by repeat (first | (with_reducible first | exact HB.out | apply below_alloc | apply pw_below_drewN | apply below_drew1) | exact HB.out)) hb); have n1_ := Aside0.mk (hbox); have n2_ := Aside0.mk ((by rw [hg]; exact (below_size (by repeat (first | (with_reducible first | exact HB.out | apply below_alloc | apply pw_below_drewN | apply below_drew1) | exact HB.out))) : w.heap.size ≤ gb2055)); have n3_ := n2_; clear HB; have HB := n0_; have BK2055 := n1_; have GW2055 := n2_; have GE2055 := n3_; clear n0_ n1_ n2_ n3_; clear hb hbox hg; obtain ⟨hcz36_0, hcz36_1, hcz36_2, hcz36_3, hcz36_4, hcz36_5, hcz36_6, hcz36_7, hcz36_8, hcz36_9, hcz36_10, hcz36_11, hcz36_12, hcz36_13⟩ := cells14 BK2055.out; obtain ⟨hfz36_0, hfz36_1, hfz36_2, hfz36_3, hfz36_4, hfz36_5, hfz36_6, hfz36_7, hfz36_8, hfz36_9, hfz36_10, hfz36_11, hfz36_12, hfz36_13⟩ := frozens14 BK2055.out) | ((with_reducible refine gate_callee (f := 54) rfl ?_); refine goesL_ (some 8) rfl rfl Try.func54 (by kernel_rfl) rfl #[.agg #[.int .i64 a0_4, .int .i64 a0_5, .slice A0_6 l0_6.length c0_6], .int .i64 a1] rfl (by (try simp only [List.map_toArray, List.map_cons, List.map_nil]); first | done | rfl | (simp only [List.length_drop, List.length_take]; rfl)) ?_; (with_reducible refine (laws_heldQc.calls k a0_4 a0_5 _ _ l0_6 a1 t2056 _ ?side1 ?side2 A3.out).mono ?_); (case side1 => repeat (first | exact (Kd.C_below HR0_6.out HB.out) | (with_reducible refine Kd.C_alloc ?_ _) | (with_reducible refine Kd.C_drewN ?_ _) | (with_reducible refine Kd.C_drew ?_))); (case side2 => exact HC0_6.out); rintro e w37 ⟨rfl, hb⟩; refine ⟨_, rfl, ?_⟩; have n0_ := Aside0.mk (blk_below (g := gb2055) (by (with_reducible repeat (first | refine blk_drewN ?_ _ | refine blk_drew ?_ | refine blk_alloc ?_ _)); exact BK2055.out) hb); have n1_ := Aside0.mk (below_step (by repeat (first | (with_reducible first | exact HB.out | apply below_alloc | apply pw_below_drewN | apply below_drew1 | refine below_set ?_ GE2055.out) | exact HB.out)) hb); clear BK2055; clear HB; have BK2055 := n0_; have HB := n1_; clear n0_ n1_; (try clear hb); (try clear hb2); (try clear hk); (try clear hi); obtain ⟨hcz38_0, hcz38_1, hcz38_2, hcz38_3, hcz38_4, hcz38_5, hcz38_6, hcz38_7, hcz38_8, hcz38_9, hcz38_10, hcz38_11, hcz38_12, hcz38_13⟩ := cells14 BK2055.out; obtain ⟨hfz38_0, hfz38_1, hfz38_2, hfz38_3, hfz38_4, hfz38_5, hfz38_6, hfz38_7, hfz38_8, hfz38_9, hfz38_10, hfz38_11, hfz38_12, hfz38_13⟩ := frozens14 BK2055.out) | ((with_reducible refine gate_callee (f := 61) rfl ?_); refine goesL_ (some 14) rfl rfl Try.func61 (by kernel_rfl) rfl #[.agg #[.int .i64 a0_7, .slice A0_8 l0_8.length c0_8, .slice A0_9 l0_9.length c0_9], .int .i64 t2056] rfl (by (try simp only [List.map_toArray, List.map_cons, List.map_nil]); first | done | rfl | (simp only [List.length_drop, List.length_take]; rfl)) ?_; (with_reducible refine (laws_heldTc.calls k a0_7 _ _ l0_8 _ _ l0_9 t2056 t2057 _ ?side1 ?side2 ?side3 ?side4 A8.out).mono ?_); (case side1 => repeat (first | exact (Kd.C_below HR0_8.out HB.out) | (with_reducible refine Kd.C_alloc ?_ _) | (with_reducible refine Kd.C_drewN ?_ _) | (with_reducible refine Kd.C_drew ?_))); (case side2 => exact HC0_8.out); (case side3 => repeat (first | exact (Kd.C_below HR0_9.out HB.out) | (with_reducible refine Kd.C_alloc ?_ _) | (with_reducible refine Kd.C_drewN ?_ _) | (with_reducible refine Kd.C_drew ?_))); (case side4 => exact HC0_9.out); rintro e w39 ⟨rfl, hb⟩; refine ⟨_, rfl, ?_⟩; have n0_ := Aside0.mk (blk_below (g := gb2055) (by (with_reducible repeat (first | refine blk_drewN ?_ _ | refine blk_drew ?_ | refine blk_alloc ?_ _)); exact BK2055.out) hb); have n1_ := Aside0.mk (below_step (by repeat (first | (with_reducible first | exact HB.out | apply below_alloc | apply pw_below_drewN | apply below_drew1 | refine below_set ?_ GE2055.out) | exact HB.out)) hb); clear BK2055; clear HB; have BK2055 := n0_; have HB := n1_; clear n0_ n1_; (try clear hb); (try clear hb2); (try clear hk); (try clear hi); obtain ⟨hcz40_0, hcz40_1, hcz40_2, hcz40_3, hcz40_4, hcz40_5, hcz40_6, hcz40_7, hcz40_8, hcz40_9, hcz40_10, hcz40_11, hcz40_12, hcz40_13⟩ := cells14 BK2055.out; obtain ⟨hfz40_0, hfz40_1, hfz40_2, hfz40_3, hfz40_4, hfz40_5, hfz40_6, hfz40_7, hfz40_8, hfz40_9, hfz40_10, hfz40_11, hfz40_12, hfz40_13⟩ := frozens14 BK2055.out) | ((with_reducible refine gate_callee (f := 89) rfl ?_); refine goesL_ (some 20) rfl rfl Try.func89 (by kernel_rfl) rfl #[.slice A0_10 l0_10.length c0_10, .int .i64 t2057] rfl (by (try simp only [List.map_toArray, List.map_cons, List.map_nil]); first | done | rfl | (simp only [List.length_drop, List.length_take]; rfl)) ?_; (with_reducible refine (laws_heldTxS.calls k _ _ l0_10 t2057 t2058 _ ?side1 ?side2 A15.out).mono ?_); (case side1 => repeat (first | exact (Kd.C_below HR0_10.out HB.out) | (with_reducible refine Kd.C_alloc ?_ _) | (with_reducible refine Kd.C_drewN ?_ _) | (with_reducible refine Kd.C_drew ?_))); (case side2 => exact HC0_10.out); rintro e w41 ⟨rfl, hb⟩; refine ⟨_, rfl, ?_⟩; have n0_ := Aside0.mk (blk_below (g := gb2055) (by (with_reducible repeat (first | refine blk_drewN ?_ _ | refine blk_drew ?_ | refine blk_alloc ?_ _)); exact BK2055.out) hb); have n1_ := Aside0.mk (below_step (by repeat (first | (with_reducible first | exact HB.out | apply below_alloc | apply pw_below_drewN | apply below_drew1 | refine below_set ?_ GE2055.out) | exact HB.out)) hb); clear BK2055; clear HB; have BK2055 := n0_; have HB := n1_; clear n0_ n1_; (try clear hb); (try clear hb2); (try clear hk); (try clear hi); obtain ⟨hcz42_0, hcz42_1, hcz42_2, hcz42_3, hcz42_4, hcz42_5, hcz42_6, hcz42_7, hcz42_8, hcz42_9, hcz42_10, hcz42_11, hcz42_12, hcz42_13⟩ := cells14 BK2055.out; obtain ⟨hfz42_0, hfz42_1, hfz42_2, hfz42_3, hfz42_4, hfz42_5, hfz42_6, hfz42_7, hfz42_8, hfz42_9, hfz42_10, hfz42_11, hfz42_12, hfz42_13⟩ := frozens14 BK2055.out) | ((with_reducible refine gate_callee (f := 45) rfl ?_); refine goesL_ (some 26) rfl rfl Try.func45 (by kernel_rfl) rfl #[.slice A0_12 l0_12.length c0_12, .int .i64 t2058] rfl (by (try simp only [List.map_toArray, List.map_cons, List.map_nil]); first | done | rfl | (simp only [List.length_drop, List.length_take]; rfl)) ?_; (with_reducible refine (laws_heldValS.calls k _ _ l0_12 t2058 t2059 _ ?side1 ?side2 A24.out).mono ?_); (case side1 => repeat (first | exact (Kd.C_below HR0_12.out HB.out) | (with_reducible refine Kd.C_alloc ?_ _) | (with_reducible refine Kd.C_drewN ?_ _) | (with_reducible refine Kd.C_drew ?_))); (case side2 => exact HC0_12.out); rintro e w43 ⟨rfl, hb⟩; refine ⟨_, rfl, ?_⟩; have n0_ := Aside0.mk (blk_below (g := gb2055) (by (with_reducible repeat (first | refine blk_drewN ?_ _ | refine blk_drew ?_ | refine blk_alloc ?_ _)); exact BK2055.out) hb); have n1_ := Aside0.mk (below_step (by repeat (first | (with_reducible first | exact HB.out | apply below_alloc | apply pw_below_drewN | apply below_drew1 | refine below_set ?_ GE2055.out) | exact HB.out)) hb); clear BK2055; clear HB; have BK2055 := n0_; have HB := n1_; clear n0_ n1_; (try clear hb); (try clear hb2); (try clear hk); (try clear hi)))
          go_ret
          exact ⟨by first | rfl | (simp [errW_none, errW_some] <;> rfl) | (simp [*, errW_none, errW_some] <;> rfl), by repeat (first | (with_reducible first | exact HB.out | apply below_alloc | apply pw_below_drewN | apply below_drew1 | refine below_set ?_ GE2055.out) | exact HB.out)⟩

theorem laws_heldBlock.tx {l : List S186} {n : Int} (hl : l.length ≤ 1048576) (h0 : 0 ≤ n) (h1 : n ≤ 1000000000) : ∃ l', Ev (fun k => laws_markTxS.f k l n) (n + 5 * (l.length : Int), l') ∧ l'.length = l.length ∧ Ev (fun k => laws_heldTxS.f k l' n) (n + 5 * (l.length : Int)) := by
  have mk : ∃ l', Ev (fun k => laws_markTxS.f k l n) (n + 5 * (l.length : Int), l') ∧ l'.length = l.length ∧ ∀ j : Nat, j < l.length → (l'.getD j z186).f0 = n + 5 * (j : Int) ∧ Ev (fun k => laws_markText.f k (n + 5 * (j : Int) + 1)) (l'.getD j z186).f1 ∧ Ev (fun k => laws_markText.f k (n + 5 * (j : Int) + 1 + 1)) (l'.getD j z186).f2 ∧ (l'.getD j z186).f3 = n + 5 * (j : Int) + 1 + 1 + 1 ∧ (l'.getD j z186).f4 = n + 5 * (j : Int) + 1 + 1 + 1 + 1 := by
    unfold laws_markTxS.f
    have key : ∀ (m i : Nat) (x : List S186), i + m = l.length → x.length = l.length → (∀ j : Nat, j < i → (x.getD j z186).f0 = n + 5 * (j : Int) ∧ Ev (fun k => laws_markText.f k (n + 5 * (j : Int) + 1)) (x.getD j z186).f1 ∧ Ev (fun k => laws_markText.f k (n + 5 * (j : Int) + 1 + 1)) (x.getD j z186).f2 ∧ (x.getD j z186).f3 = n + 5 * (j : Int) + 1 + 1 + 1 ∧ (x.getD j z186).f4 = n + 5 * (j : Int) + 1 + 1 + 1 + 1) → ∃ l', Ev (fun k => laws_markTxS.l0 k x (n + 5 * (i : Int)) (i : Int)) (n + 5 * (l.length : Int), l') ∧ l'.length = l.length ∧ ∀ j : Nat, j < l.length → (l'.getD j z186).f0 = n + 5 * (j : Int) ∧ Ev (fun k => laws_markText.f k (n + 5 * (j : Int) + 1)) (l'.getD j z186).f1 ∧ Ev (fun k => laws_markText.f k (n + 5 * (j : Int) + 1 + 1)) (l'.getD j z186).f2 ∧ (l'.getD j z186).f3 = n + 5 * (j : Int) + 1 + 1 + 1 ∧ (l'.getD j z186).f4 = n + 5 * (j : Int) + 1 + 1 + 1 + 1 := by
      intro m
      induction m with
      | zero =>
        intro i x hi hx hj
        obtain rfl : i = l.length := by omega
        refine ⟨x, Ev.up ?_, hx, hj⟩
        simp only [laws_markTxS.l0]
        exact Ev.no (by omega) (Ev.now _)
      | succ m ih =>
        intro i x hi hx hj
        obtain ⟨t1, ht1⟩ := laws_markText.ex (n := n + 5 * (i : Int) + 1) (by omega)
        obtain ⟨t2, ht2⟩ := laws_markText.ex (n := n + 5 * (i : Int) + 1 + 1) (by omega)
        have hix : i < x.length := by omega
        have hset : ∀ v, rd_T186 (x.set i v) (i : Int) = v := fun v => by
          show (x.set i v).getD i z186 = v
          rw [List.getD_eq_getElem?_getD, List.getElem?_set_self hix]
          rfl
        obtain ⟨l', e, r1, r2⟩ := ih (i + 1) (x.set i ⟨n + 5 * (i : Int), t1, t2, n + 5 * (i : Int) + 1 + 1 + 1, n + 5 * (i : Int) + 1 + 1 + 1 + 1⟩) (by omega) (by rw [List.length_set, hx]) (fun j hj' => by
          by_cases he : j = i
          · subst he
            rw [List.getD_eq_getElem?_getD, List.getElem?_set_self hix]
            exact ⟨rfl, ht1, ht2, rfl, rfl⟩
          · rw [List.getD_eq_getElem?_getD, List.getElem?_set_ne (by omega), ← List.getD_eq_getElem?_getD]
            exact hj j (by omega))
        refine ⟨l', Ev.up ?_, r1, r2⟩
        simp only [laws_markTxS.l0, Option.bind_some, Int.toNat_natCast, hset, List.set_set]
        rw [unw (x := (i : Int) + 1) (by omega) (by omega), unw (x := n + 5 * (i : Int) + 1) (by omega) (by omega), unw (x := n + 5 * (i : Int) + 1 + 1) (by omega) (by omega), unw (x := n + 5 * (i : Int) + 1 + 1 + 1) (by omega) (by omega), unw (x := n + 5 * (i : Int) + 1 + 1 + 1 + 1) (by omega) (by omega), unw (x := n + 5 * (i : Int) + 1 + 1 + 1 + 1 + 1) (by omega) (by omega)]
        refine Ev.yes (by omega) (Ev.yes (by omega) (Ev.bind ht1 (Ev.bind ht2 ?_)))
        rw [show n + 5 * (i : Int) + 1 + 1 + 1 + 1 + 1 = n + 5 * ((i + 1 : Nat) : Int) by omega]
        exact e
    have := key l.length 0 l (by omega) rfl (fun j hj => absurd hj (by omega))
    simpa using this
  obtain ⟨l', e, hlen, hf⟩ := mk
  refine ⟨l', e, hlen, ?_⟩
  unfold laws_heldTxS.f
  have key : ∀ (m i : Nat), i + m = l.length → Ev (fun k => laws_heldTxS.l0 k l' (n + 5 * (i : Int)) (i : Int)) (n + 5 * (l.length : Int)) := by
    intro m
    induction m with
    | zero =>
      intro i hi
      obtain rfl : i = l.length := by omega
      refine Ev.up ?_
      simp only [laws_heldTxS.l0]
      exact Ev.no (by omega) (Ev.now _)
    | succ m ih =>
      intro i hi
      have e := ih (i + 1) (by omega)
      have hv := hf i (by omega)
      have hrd : rd_T186 l' (i : Int) = l'.getD i z186 := rfl
      refine Ev.up ?_
      simp only [laws_heldTxS.l0, hrd]
      rw [unw (x := (i : Int) + 1) (by omega) (by omega), unw (x := n + 5 * (i : Int) + 1) (by omega) (by omega), unw (x := n + 5 * (i : Int) + 1 + 1) (by omega) (by omega), unw (x := n + 5 * (i : Int) + 1 + 1 + 1) (by omega) (by omega), unw (x := n + 5 * (i : Int) + 1 + 1 + 1 + 1) (by omega) (by omega), unw (x := n + 5 * (i : Int) + 1 + 1 + 1 + 1 + 1) (by omega) (by omega)]
      refine Ev.yes (by omega) (Ev.yes (by omega) (Ev.yes hv.1 (Ev.bind hv.2.1 (Ev.yes rfl (Ev.bind hv.2.2.1 (Ev.yes rfl (Ev.yes hv.2.2.2.1 (Ev.yes hv.2.2.2.2 ?_))))))))
      rw [show n + 5 * (i : Int) + 1 + 1 + 1 + 1 + 1 = n + 5 * ((i + 1 : Nat) : Int) by omega]
      exact e
  have := key l.length 0 (by omega)
  simpa using this
theorem laws_heldBlock.val {l : List S138} {n : Int} (hl : l.length ≤ 1048576) (h0 : 0 ≤ n) (h1 : n ≤ 1000000000) : ∃ l', Ev (fun k => laws_markValS.f k l n) (n + 2 * (l.length : Int), l') ∧ l'.length = l.length ∧ Ev (fun k => laws_heldValS.f k l' n) (n + 2 * (l.length : Int)) := by
  have mk : ∃ l', Ev (fun k => laws_markValS.f k l n) (n + 2 * (l.length : Int), l') ∧ l'.length = l.length ∧ ∀ j : Nat, j < l.length → Ev (fun k => laws_markText.f k (n + 2 * (j : Int))) (l'.getD j z138).f0 ∧ (l'.getD j z138).f1 = n + 2 * (j : Int) + 1 := by
    unfold laws_markValS.f
    have key : ∀ (m i : Nat) (x : List S138), i + m = l.length → x.length = l.length → (∀ j : Nat, j < i → Ev (fun k => laws_markText.f k (n + 2 * (j : Int))) (x.getD j z138).f0 ∧ (x.getD j z138).f1 = n + 2 * (j : Int) + 1) → ∃ l', Ev (fun k => laws_markValS.l0 k x (n + 2 * (i : Int)) (i : Int)) (n + 2 * (l.length : Int), l') ∧ l'.length = l.length ∧ ∀ j : Nat, j < l.length → Ev (fun k => laws_markText.f k (n + 2 * (j : Int))) (l'.getD j z138).f0 ∧ (l'.getD j z138).f1 = n + 2 * (j : Int) + 1 := by
      intro m
      induction m with
      | zero =>
        intro i x hi hx hj
        obtain rfl : i = l.length := by omega
        refine ⟨x, Ev.up ?_, hx, hj⟩
        simp only [laws_markValS.l0]
        exact Ev.no (by omega) (Ev.now _)
      | succ m ih =>
        intro i x hi hx hj
        obtain ⟨t, ht⟩ := laws_markText.ex (n := n + 2 * (i : Int)) (by omega)
        have hgo : ∃ l', Ev (fun k => laws_markValS.l0 k ((x.set i (⟨t, (rd_T138 x (i : Int)).f1⟩ : S138)).set i (⟨(rd_T138 (x.set i (⟨t, (rd_T138 x (i : Int)).f1⟩ : S138)) (i : Int)).f0, n + 2 * (i : Int) + 1⟩ : S138)) (n + 2 * (i : Int) + 1 + 1) ((i : Int) + 1)) (n + 2 * (l.length : Int), l') ∧ l'.length = l.length ∧ ∀ j : Nat, j < l.length → Ev (fun k => laws_markText.f k (n + 2 * (j : Int))) (l'.getD j z138).f0 ∧ (l'.getD j z138).f1 = n + 2 * (j : Int) + 1 := by
          rw [show n + 2 * (i : Int) + 1 + 1 = n + 2 * ((i + 1 : Nat) : Int) by omega]
          have hix : i < x.length := by omega
          have hrd : rd_T138 (x.set i (⟨t, (rd_T138 x (i : Int)).f1⟩ : S138)) (i : Int) = ⟨t, (rd_T138 x (i : Int)).f1⟩ := by
            show (x.set i _).getD i z138 = _
            rw [List.getD_eq_getElem?_getD, List.getElem?_set_self hix]
            rfl
          refine ih (i + 1) _ (by omega) (by rw [List.length_set, List.length_set, hx]) (fun j hj' => ?_)
          rw [hrd]
          by_cases he : j = i
          · subst he
            rw [List.getD_eq_getElem?_getD, List.getElem?_set_self (by rw [List.length_set]; exact hix)]
            exact ⟨ht, rfl⟩
          · rw [List.getD_eq_getElem?_getD, List.getElem?_set_ne (by omega), List.getElem?_set_ne (by omega), ← List.getD_eq_getElem?_getD]
            exact hj j (by omega)
        obtain ⟨l', e, r1, r2⟩ := hgo
        refine ⟨l', Ev.up ?_, r1, r2⟩
        simp only [laws_markValS.l0, Option.bind_some]
        rw [unw (x := (i : Int) + 1) (by omega) (by omega), unw (x := n + 2 * (i : Int) + 1) (by omega) (by omega), unw (x := n + 2 * (i : Int) + 1 + 1) (by omega) (by omega)]
        exact Ev.yes (by omega) (Ev.bind ht (Ev.yes (by omega) e))
    have := key l.length 0 l (by omega) rfl (fun j hj => absurd hj (by omega))
    simpa using this
  obtain ⟨l', e, hlen, hf⟩ := mk
  refine ⟨l', e, hlen, ?_⟩
  unfold laws_heldValS.f
  have key : ∀ (m i : Nat), i + m = l.length → Ev (fun k => laws_heldValS.l0 k l' (n + 2 * (i : Int)) (i : Int)) (n + 2 * (l.length : Int)) := by
    intro m
    induction m with
    | zero =>
      intro i hi
      obtain rfl : i = l.length := by omega
      refine Ev.up ?_
      simp only [laws_heldValS.l0]
      exact Ev.no (by omega) (Ev.now _)
    | succ m ih =>
      intro i hi
      have e := ih (i + 1) (by omega)
      have hv := hf i (by omega)
      have hrd : rd_T138 l' (i : Int) = l'.getD i z138 := rfl
      refine Ev.up ?_
      simp only [laws_heldValS.l0, hrd]
      rw [unw (x := (i : Int) + 1) (by omega) (by omega), unw (x := n + 2 * (i : Int) + 1) (by omega) (by omega), unw (x := n + 2 * (i : Int) + 1 + 1) (by omega) (by omega)]
      refine Ev.yes (by omega) (Ev.yes (by omega) (Ev.bind hv.1 (Ev.yes rfl (Ev.yes hv.2 ?_))))
      rw [show n + 2 * (i : Int) + 1 + 1 = n + 2 * ((i + 1 : Nat) : Int) by omega]
      exact e
  have := key l.length 0 (by omega)
  simpa using this
/-- A block marked: its marks are held. -/
theorem laws_heldBlock.of_mark (b : S113) (hf : spec_l9Copy.few b) : ∃ M V6 V8 V9 V10 V12, Ev (fun k => laws_markBlock.f k (b.f0) (b.f1) (b.f2) (b.f3) (b.f4.f0) (b.f4.f1) (b.f4.f2) (b.f5.f0) (b.f5.f1) (b.f5.f2) (b.f6) (b.f7) (b.f8) (b.f9) 1) (M, V6, V8, V9, V10, V12) ∧ V6.length = b.f4.f2.length ∧ V8.length = b.f5.f1.length ∧ V9.length = b.f5.f2.length ∧ V10.length = b.f6.length ∧ V12.length = b.f8.length ∧ Ev (fun k => laws_heldBlock.f k (b.f0) (b.f1) (b.f2) (b.f3) (b.f4.f0) (b.f4.f1) (V6) (b.f5.f0) (V8) (V9) (V10) (b.f7) (V12) (b.f9) 1) M ∧ 0 ≤ M := by
  obtain ⟨h1, h2, h3, h4, h5⟩ := hf
  obtain ⟨V6, e6, n6, m6⟩ := laws_markStringS.ex (l := b.f4.f2) (n := 1) (by omega) (by omega) (by omega)
  obtain ⟨V8, e8, n8, m8⟩ := laws_markStringS.ex (l := b.f5.f1) (n := 1 + (b.f4.f2.length : Int)) (by omega) (by omega) (by omega)
  obtain ⟨V9, e9, n9, m9⟩ := laws_markIntS.ex (l := b.f5.f2) (n := 1 + (b.f4.f2.length : Int) + (b.f5.f1.length : Int)) (by omega) (by omega) (by omega)
  obtain ⟨V10, e10, n10, m10⟩ := laws_heldBlock.tx (l := b.f6) (n := 1 + (b.f4.f2.length : Int) + (b.f5.f1.length : Int) + (b.f5.f2.length : Int)) (by omega) (by omega) (by omega)
  obtain ⟨V12, e12, n12, m12⟩ := laws_heldBlock.val (l := b.f8) (n := 1 + (b.f4.f2.length : Int) + (b.f5.f1.length : Int) + (b.f5.f2.length : Int) + 5 * (b.f6.length : Int)) (by omega) (by omega) (by omega)
  rw [← n6] at m6
  rw [← n8] at m8
  rw [← n9] at m9
  have x6 := laws_heldStringS.ex (l := V6) (n := 1) (by omega) (by omega) (by omega) m6
  have x8 := laws_heldStringS.ex (l := V8) (n := 1 + (b.f4.f2.length : Int)) (by omega) (by omega) (by omega) m8
  have x9 := laws_heldIntS.ex (l := V9) (n := 1 + (b.f4.f2.length : Int) + (b.f5.f1.length : Int)) (by omega) (by omega) (by omega) m9
  rw [n6] at x6
  rw [n8] at x8
  rw [n9] at x9
  refine ⟨1 + (b.f4.f2.length : Int) + (b.f5.f1.length : Int) + (b.f5.f2.length : Int) + 5 * (b.f6.length : Int) + 2 * (b.f8.length : Int), V6, V8, V9, V10, V12, ?_, n6, n8, n9, n10, n12, ?_, ?_⟩
  rotate_left 1
  · unfold laws_heldBlock.f laws_heldQc.f laws_heldTc.f
    exact Ev.bind (Ev.bind x6 (Ev.no (by omega) (Ev.now _))) (Ev.no (by omega) (Ev.bind (Ev.bind x8 (Ev.no (by omega) (Ev.bind x9 (Ev.no (by omega) (Ev.now _))))) (Ev.no (by omega) (Ev.bind m10 (Ev.no (by omega) (Ev.bind m12 (Ev.no (by omega) (Ev.now _))))))))
  · omega
  · unfold laws_markBlock.f laws_markQc.f laws_markTc.f
    exact Ev.bind (Ev.bind e6 (Ev.now _)) (Ev.bind (Ev.bind e8 (Ev.bind e9 (Ev.now _))) (Ev.bind e10 (Ev.bind e12 (Ev.now _))))

end Go.Proofs.Ytadkhkpchankjaa.F
