/-
Functions of the program, what they come to, and that Go comes to just that: impl_sameQc, slices_Equal_int_int, impl_sameTc, impl_Tx, impl_Val_94, impl_SameBlock, laws_FnExactSameBlock.
Conditions: those that each theorem names.
-/
import Derived.Test.YtieecjilnaijkaaFAbs
import Derived.Test.YtieecjilnaijkaaF31
import Derived.Test.YtieecjilnaijkaaF34
import Derived.Test.YtieecjilnaijkaaFew
set_option linter.unusedVariables false
set_option linter.unusedSimpArgs false
namespace Go.Proofs.Ytieecjilnaijkaa.F
open Go.RowKit Go.Proofs.YtieecjilnaijkaaW.PrintWords Go.Proofs.YtieecjilnaijkaaW.PrintLast Go.Proofs.Ytieecjilnaijkaa.Base Go.Proofs.Ytieecjilnaijkaa.BW
open Go.Proofs.Ytieecjilnaijkaa.Few

/-! ### impl_sameQc: function 91 -/
def impl_sameQc.f (k : Nat) (a0_0 : Int) (a0_1 : Int) (l0_2 : List ByteArray) (a1_0 : Int) (a1_1 : Int) (l1_2 : List ByteArray) : Option (Bool) := if a0_0 = a1_0 then (if a0_1 = a1_1 then ((slices_Equal_string_string.f k l0_2 l1_2).bind fun t613 => (some t613)) else (some false)) else (some false)
theorem impl_sameQc.mono : ∀ a0 a1 a2 a3 a4 a5 k, LeO (impl_sameQc.f k a0 a1 a2 a3 a4 a5) (impl_sameQc.f (k + 1) a0 a1 a2 a3 a4 a5) := by
  intro a0 a1 a2 a3 a4 a5 k
  unfold impl_sameQc.f
  repeat' first
      | (with_reducible exact slices_Equal_string_string.mono _ _ _)
      | (with_reducible exact LeO.refl _)
      | (with_reducible exact LeO.none _)
      | (with_reducible refine LeO.ite ?_ ?_)
      | (with_reducible refine LeO.bind ?_ (fun _ => ?_))
      | exact slices_Equal_string_string.mono _ _ _
      | exact LeO.none _
      | refine LeO.ite ?_ ?_
      | refine LeO.bind ?_ (fun _ => ?_)
set_option maxHeartbeats 8000000 in
set_option maxRecDepth 100000 in
theorem impl_sameQc.calls (k : Nat) (a0_0 : Int) (a0_1 : Int) (A0_2 : Option Addr) (c0_2 : Nat) (l0_2 : List ByteArray) (a1_0 : Int) (a1_1 : Int) (A1_2 : Option Addr) (c1_2 : Nat) (l1_2 : List ByteArray) (r : Bool) (w : World) (hr0_2 : Kd.C Kd.string w A0_2 l0_2.length l0_2) (hc0_2 : l0_2.length ≤ c0_2) (hr1_2 : Kd.C Kd.string w A1_2 l1_2.length l1_2) (hc1_2 : l1_2.length ≤ c1_2) (h : impl_sameQc.f k a0_0 a0_1 l0_2 a1_0 a1_1 l1_2 = some r) :
    Calls Try.prog 91 #[.agg #[.int .i64 a0_0, .int .i64 a0_1, .slice A0_2 l0_2.length c0_2], .agg #[.int .i64 a1_0, .int .i64 a1_1, .slice A1_2 l1_2.length c1_2]] w fun e w' => e = .returned (.bool r) ∧ Below w.heap.size w w' := by
  have hu57 := Try.underlying57
  have HR0_2 := Aside0.mk hr0_2
  have HC0_2 := Aside0.mk hc0_2
  clear hr0_2 hc0_2
  have HR1_2 := Aside0.mk hr1_2
  have HC1_2 := Aside0.mk hc1_2
  clear hr1_2 hc1_2
  have HB := Aside0.mk (Below.refl w.heap.size w)
  have H : (if a0_0 = a1_0 then (if a0_1 = a1_1 then ((slices_Equal_string_string.f k l0_2 l1_2).bind fun t613 => (some t613)) else (some false)) else (some false)) = some r := h
  clear h
  by_cases c3 : a0_0 = a1_0
  · rw [if_pos c3] at H
    have c3b0 : (a0_0 == a1_0) = true := beq_iff_eq.mpr c3
    have c3b1 : (a0_0 != a1_0) = false := bne_eq_false_iff_eq.mpr c3
    clear c3
    by_cases c4 : a0_1 = a1_1
    · rw [if_pos c4] at H
      have c4b0 : (a0_1 == a1_1) = true := beq_iff_eq.mpr c4
      have c4b1 : (a0_1 != a1_1) = false := bne_eq_false_iff_eq.mpr c4
      clear c4
      replace H := Option.bind_eq_some_iff.mp H
      obtain ⟨t613, A50, H⟩ := H
      replace H : (some t613) = some r := H
      have A5 := Aside0.mk A50
      clear A50
      obtain rfl := Option.some.inj H
      go_enter Try.func91, Try.ntmps91
      go_wp2_with (first | ((with_reducible refine gate_dst (N := 2) rfl ?_); refine box_event ?hg (N := 2) ?hd (cs := #[.int .i64 a0_0, .int .i64 a0_1, .slice A0_2 l0_2.length c0_2]) (t := 57) ?hr ?_; (case hd => rfl); (case hg => rfl); (case hr => first | (go_simp; done) | (go_simp; rfl)); intro gb611 hg w6 hbox hb; have n0_ := Aside0.mk (below_step (by repeat (first | (with_reducible first | exact HB.out | apply below_alloc | apply pw_below_drewN | apply below_drew1) | exact HB.out)) hb); have n1_ := Aside0.mk (hbox); have n2_ := Aside0.mk ((by rw [hg]; exact (below_size (by repeat (first | (with_reducible first | exact HB.out | apply below_alloc | apply pw_below_drewN | apply below_drew1) | exact HB.out))) : w.heap.size ≤ gb611)); have n3_ := n2_; clear HB; have HB := n0_; have BK611 := n1_; have GW611 := n2_; have GE611 := n3_; clear n0_ n1_ n2_ n3_; clear hb hbox hg) | ((with_reducible refine gate_dst (N := 3) rfl ?_); refine box_event ?hg (N := 3) ?hd (cs := #[.int .i64 a1_0, .int .i64 a1_1, .slice A1_2 l1_2.length c1_2]) (t := 57) ?hr ?_; (case hd => rfl); (case hg => rfl); (case hr => first | (go_simp; done) | (go_simp; rfl)); intro gb612 hg w7 hbox hb; have n0_ := Aside0.mk (blk_below (g := gb611) (by (with_reducible repeat (first | refine blk_drewN ?_ _ | refine blk_drew ?_ | refine blk_alloc ?_ _)); exact BK611.out) hb); have n1_ := Aside0.mk (below_step (by repeat (first | (with_reducible first | exact HB.out | apply below_alloc | apply pw_below_drewN | apply below_drew1 | refine below_set ?_ GE611.out) | exact HB.out)) hb); have n2_ := Aside0.mk (hbox); have n3_ := Aside0.mk ((by rw [hg]; exact (below_size (by repeat (first | (with_reducible first | exact HB.out | apply below_alloc | apply pw_below_drewN | apply below_drew1 | refine below_set ?_ GE611.out) | exact HB.out))) : w.heap.size ≤ gb612)); have n4_ := Aside0.mk ((by rw [hg]; exact (below_size (by repeat (first | (with_reducible first | exact HB.out | apply below_alloc | apply pw_below_drewN | apply below_drew1 | refine below_set ?_ GE611.out) | exact HB.out))) : w.heap.size ≤ gb612)); have n5_ := Aside0.mk ((by rw [hg]; exact Nat.ne_of_lt (blk_lt (g := gb611) (o := .cells #[.int .i64 a0_0, .int .i64 a0_1, .slice A0_2 l0_2.length c0_2] 57 (0, 0)) (by (with_reducible repeat (first | refine blk_drewN ?_ _ | refine blk_drew ?_ | refine blk_alloc ?_ _)); exact BK611.out)) : gb611 ≠ gb612)); have n6_ := Aside0.mk ((by rw [hg]; exact Nat.ne_of_gt (blk_lt (g := gb611) (o := .cells #[.int .i64 a0_0, .int .i64 a0_1, .slice A0_2 l0_2.length c0_2] 57 (0, 0)) (by (with_reducible repeat (first | refine blk_drewN ?_ _ | refine blk_drew ?_ | refine blk_alloc ?_ _)); exact BK611.out)) : gb612 ≠ gb611)); clear BK611; clear HB; have BK611 := n0_; have HB := n1_; have BK612 := n2_; have GW612 := n3_; have GE612 := n4_; have NB611_612 := n5_; have NB612_611 := n6_; clear n0_ n1_ n2_ n3_ n4_ n5_ n6_; clear hb hbox hg; have hnb8 := NB611_612.out; have hnc8 := NB612_611.out; obtain ⟨hcz9_0, hcz9_1, hcz9_2⟩ := cells3 BK611.out; obtain ⟨hfz9_0, hfz9_1, hfz9_2⟩ := frozens3 BK611.out; obtain ⟨hcz10_0, hcz10_1, hcz10_2⟩ := cells3 BK612.out; obtain ⟨hfz10_0, hfz10_1, hfz10_2⟩ := frozens3 BK612.out) | (go_at_call 120; (with_reducible refine (slices_Equal_string_string.calls k _ _ l0_2 _ _ l1_2 t613 _ ?side1 ?side2 ?side3 ?side4 A5.out).mono ?_); (case side1 => repeat (first | exact (Kd.C_below HR0_2.out HB.out) | (with_reducible refine Kd.C_alloc ?_ _) | (with_reducible refine Kd.C_drewN ?_ _) | (with_reducible refine Kd.C_drew ?_))); (case side2 => exact HC0_2.out); (case side3 => repeat (first | exact (Kd.C_below HR1_2.out HB.out) | (with_reducible refine Kd.C_alloc ?_ _) | (with_reducible refine Kd.C_drewN ?_ _) | (with_reducible refine Kd.C_drew ?_))); (case side4 => exact HC1_2.out); rintro e w' ⟨rfl, ⟨nd, rfl⟩⟩))
      go_ret
      exact ⟨by first | rfl | (simp [errW_none, errW_some] <;> rfl) | (simp [*, errW_none, errW_some] <;> rfl), by repeat (first | (with_reducible first | exact HB.out | apply below_alloc | apply pw_below_drewN | apply below_drew1 | refine below_set ?_ GE611.out | refine below_set ?_ GE612.out) | exact HB.out)⟩
    · rw [if_neg c4] at H
      have c4b0 : (a0_1 == a1_1) = false := beq_eq_false_iff_ne.mpr c4
      have c4b1 : (a0_1 != a1_1) = true := bne_iff_ne.mpr c4
      obtain rfl := Option.some.inj H
      go_enter Try.func91, Try.ntmps91
      go_wp2_with (first | ((with_reducible refine gate_dst (N := 2) rfl ?_); refine box_event ?hg (N := 2) ?hd (cs := #[.int .i64 a0_0, .int .i64 a0_1, .slice A0_2 l0_2.length c0_2]) (t := 57) ?hr ?_; (case hd => rfl); (case hg => rfl); (case hr => first | (go_simp; done) | (go_simp; rfl)); intro gb611 hg w11 hbox hb; have n0_ := Aside0.mk (below_step (by repeat (first | (with_reducible first | exact HB.out | apply below_alloc | apply pw_below_drewN | apply below_drew1) | exact HB.out)) hb); have n1_ := Aside0.mk (hbox); have n2_ := Aside0.mk ((by rw [hg]; exact (below_size (by repeat (first | (with_reducible first | exact HB.out | apply below_alloc | apply pw_below_drewN | apply below_drew1) | exact HB.out))) : w.heap.size ≤ gb611)); have n3_ := n2_; clear HB; have HB := n0_; have BK611 := n1_; have GW611 := n2_; have GE611 := n3_; clear n0_ n1_ n2_ n3_; clear hb hbox hg) | ((with_reducible refine gate_dst (N := 3) rfl ?_); refine box_event ?hg (N := 3) ?hd (cs := #[.int .i64 a1_0, .int .i64 a1_1, .slice A1_2 l1_2.length c1_2]) (t := 57) ?hr ?_; (case hd => rfl); (case hg => rfl); (case hr => first | (go_simp; done) | (go_simp; rfl)); intro gb612 hg w12 hbox hb; have n0_ := Aside0.mk (blk_below (g := gb611) (by (with_reducible repeat (first | refine blk_drewN ?_ _ | refine blk_drew ?_ | refine blk_alloc ?_ _)); exact BK611.out) hb); have n1_ := Aside0.mk (below_step (by repeat (first | (with_reducible first | exact HB.out | apply below_alloc | apply pw_below_drewN | apply below_drew1 | refine below_set ?_ GE611.out) | exact HB.out)) hb); have n2_ := Aside0.mk (hbox); have n3_ := Aside0.mk ((by rw [hg]; exact (below_size (by repeat (first | (with_reducible first | exact HB.out | apply below_alloc | apply pw_below_drewN | apply below_drew1 | refine below_set ?_ GE611.out) | exact HB.out))) : w.heap.size ≤ gb612)); have n4_ := Aside0.mk ((by rw [hg]; exact (below_size (by repeat (first | (with_reducible first | exact HB.out | apply below_alloc | apply pw_below_drewN | apply below_drew1 | refine below_set ?_ GE611.out) | exact HB.out))) : w.heap.size ≤ gb612)); have n5_ := Aside0.mk ((by rw [hg]; exact Nat.ne_of_lt (blk_lt (g := gb611) (o := .cells #[.int .i64 a0_0, .int .i64 a0_1, .slice A0_2 l0_2.length c0_2] 57 (0, 0)) (by (with_reducible repeat (first | refine blk_drewN ?_ _ | refine blk_drew ?_ | refine blk_alloc ?_ _)); exact BK611.out)) : gb611 ≠ gb612)); have n6_ := Aside0.mk ((by rw [hg]; exact Nat.ne_of_gt (blk_lt (g := gb611) (o := .cells #[.int .i64 a0_0, .int .i64 a0_1, .slice A0_2 l0_2.length c0_2] 57 (0, 0)) (by (with_reducible repeat (first | refine blk_drewN ?_ _ | refine blk_drew ?_ | refine blk_alloc ?_ _)); exact BK611.out)) : gb612 ≠ gb611)); clear BK611; clear HB; have BK611 := n0_; have HB := n1_; have BK612 := n2_; have GW612 := n3_; have GE612 := n4_; have NB611_612 := n5_; have NB612_611 := n6_; clear n0_ n1_ n2_ n3_ n4_ n5_ n6_; clear hb hbox hg; have hnb13 := NB611_612.out; have hnc13 := NB612_611.out; obtain ⟨hcz14_0, hcz14_1, hcz14_2⟩ := cells3 BK611.out; obtain ⟨hfz14_0, hfz14_1, hfz14_2⟩ := frozens3 BK611.out; obtain ⟨hcz15_0, hcz15_1, hcz15_2⟩ := cells3 BK612.out; obtain ⟨hfz15_0, hfz15_1, hfz15_2⟩ := frozens3 BK612.out))
      go_ret
      exact ⟨by first | rfl | (simp [errW_none, errW_some] <;> rfl) | (simp [*, errW_none, errW_some] <;> rfl), by repeat (first | (with_reducible first | exact HB.out | apply below_alloc | apply pw_below_drewN | apply below_drew1 | refine below_set ?_ GE611.out | refine below_set ?_ GE612.out) | exact HB.out)⟩
  · rw [if_neg c3] at H
    have c3b0 : (a0_0 == a1_0) = false := beq_eq_false_iff_ne.mpr c3
    have c3b1 : (a0_0 != a1_0) = true := bne_iff_ne.mpr c3
    obtain rfl := Option.some.inj H
    go_enter Try.func91, Try.ntmps91
    go_wp2_with (first | ((with_reducible refine gate_dst (N := 2) rfl ?_); refine box_event ?hg (N := 2) ?hd (cs := #[.int .i64 a0_0, .int .i64 a0_1, .slice A0_2 l0_2.length c0_2]) (t := 57) ?hr ?_; (case hd => rfl); (case hg => rfl); (case hr => first | (go_simp; done) | (go_simp; rfl)); intro gb611 hg w16 hbox hb; have n0_ := Aside0.mk (below_step (by repeat (first | (with_reducible first | exact HB.out | apply below_alloc | apply pw_below_drewN | apply below_drew1) | exact HB.out)) hb); have n1_ := Aside0.mk (hbox); have n2_ := Aside0.mk ((by rw [hg]; exact (below_size (by repeat (first | (with_reducible first | exact HB.out | apply below_alloc | apply pw_below_drewN | apply below_drew1) | exact HB.out))) : w.heap.size ≤ gb611)); have n3_ := n2_; clear HB; have HB := n0_; have BK611 := n1_; have GW611 := n2_; have GE611 := n3_; clear n0_ n1_ n2_ n3_; clear hb hbox hg) | ((with_reducible refine gate_dst (N := 3) rfl ?_); refine box_event ?hg (N := 3) ?hd (cs := #[.int .i64 a1_0, .int .i64 a1_1, .slice A1_2 l1_2.length c1_2]) (t := 57) ?hr ?_; (case hd => rfl); (case hg => rfl); (case hr => first | (go_simp; done) | (go_simp; rfl)); intro gb612 hg w17 hbox hb; have n0_ := Aside0.mk (blk_below (g := gb611) (by (with_reducible repeat (first | refine blk_drewN ?_ _ | refine blk_drew ?_ | refine blk_alloc ?_ _)); exact BK611.out) hb); have n1_ := Aside0.mk (below_step (by repeat (first | (with_reducible first | exact HB.out | apply below_alloc | apply pw_below_drewN | apply below_drew1 | refine below_set ?_ GE611.out) | exact HB.out)) hb); have n2_ := Aside0.mk (hbox); have n3_ := Aside0.mk ((by rw [hg]; exact (below_size (by repeat (first | (with_reducible first | exact HB.out | apply below_alloc | apply pw_below_drewN | apply below_drew1 | refine below_set ?_ GE611.out) | exact HB.out))) : w.heap.size ≤ gb612)); have n4_ := Aside0.mk ((by rw [hg]; exact (below_size (by repeat (first | (with_reducible first | exact HB.out | apply below_alloc | apply pw_below_drewN | apply below_drew1 | refine below_set ?_ GE611.out) | exact HB.out))) : w.heap.size ≤ gb612)); have n5_ := Aside0.mk ((by rw [hg]; exact Nat.ne_of_lt (blk_lt (g := gb611) (o := .cells #[.int .i64 a0_0, .int .i64 a0_1, .slice A0_2 l0_2.length c0_2] 57 (0, 0)) (by (with_reducible repeat (first | refine blk_drewN ?_ _ | refine blk_drew ?_ | refine blk_alloc ?_ _)); exact BK611.out)) : gb611 ≠ gb612)); have n6_ := Aside0.mk ((by rw [hg]; exact Nat.ne_of_gt (blk_lt (g := gb611) (o := .cells #[.int .i64 a0_0, .int .i64 a0_1, .slice A0_2 l0_2.length c0_2] 57 (0, 0)) (by (with_reducible repeat (first | refine blk_drewN ?_ _ | refine blk_drew ?_ | refine blk_alloc ?_ _)); exact BK611.out)) : gb612 ≠ gb611)); clear BK611; clear HB; have BK611 := n0_; have HB := n1_; have BK612 := n2_; have GW612 := n3_; have GE612 := n4_; have NB611_612 := n5_; have NB612_611 := n6_; clear n0_ n1_ n2_ n3_ n4_ n5_ n6_; clear hb hbox hg; have hnb18 := NB611_612.out; have hnc18 := NB612_611.out; obtain ⟨hcz19_0, hcz19_1, hcz19_2⟩ := cells3 BK611.out; obtain ⟨hfz19_0, hfz19_1, hfz19_2⟩ := frozens3 BK611.out; obtain ⟨hcz20_0, hcz20_1, hcz20_2⟩ := cells3 BK612.out; obtain ⟨hfz20_0, hfz20_1, hfz20_2⟩ := frozens3 BK612.out))
    go_ret
    exact ⟨by first | rfl | (simp [errW_none, errW_some] <;> rfl) | (simp [*, errW_none, errW_some] <;> rfl), by repeat (first | (with_reducible first | exact HB.out | apply below_alloc | apply pw_below_drewN | apply below_drew1 | refine below_set ?_ GE611.out | refine below_set ?_ GE612.out) | exact HB.out)⟩

theorem impl_sameQc.is {a b : S57} (hl : a.f2.length ≤ 9223372036854775807) : Ev (fun k => impl_sameQc.f k a.f0 a.f1 a.f2 b.f0 b.f1 b.f2) (sameQc a b) := by
  unfold impl_sameQc.f sameQc
  exact Ev.cond (fun h1 => Ev.cond (fun h2 => Ev.bind (slices_Equal_string_string.is hl) (Ev.is (by simp [h1, h2]))) (fun h2 => Ev.is (by simp [h1, h2]))) (fun h1 => Ev.is (by simp [h1]))

/-! ### slices_Equal_int_int: function 121 -/
def slices_Equal_int_int.l0 : Nat → List Int → List Int → Int → Int → Option (Bool)
  | 0, _, _, _, _ => none
  | k + 1, x0, x1, x12, x13 => if x13 < x12 then (if 0 ≤ x13 then (if x13 < (x0.length : Int) then (if x13 < (x1.length : Int) then (if (rd x0 x13) = (rd x1 x13) then (slices_Equal_int_int.l0 k x0 x1 x12 (wrap64 (x13 + 1))) else (some false)) else (none)) else (none)) else (none)) else (some true)
def slices_Equal_int_int.f (k : Nat) (l0 : List Int) (l1 : List Int) : Option (Bool) := if (l0.length : Int) = (l1.length : Int) then (slices_Equal_int_int.l0 k l0 l1 (l0.length : Int) 0) else (some false)
theorem slices_Equal_int_int.mono_l : ∀ k, (∀ y0 y1 y2 y3, LeO (slices_Equal_int_int.l0 k y0 y1 y2 y3) (slices_Equal_int_int.l0 (k + 1) y0 y1 y2 y3))
  | 0 => fun _ _ _ _ r h => by simp [slices_Equal_int_int.l0] at h
  | k + 1 => by
    have ih0 := slices_Equal_int_int.mono_l k
    · intro y0 y1 y2 y3
      unfold slices_Equal_int_int.l0
      repeat' first
      | (with_reducible exact ih0 _ _ _ _)
      | (with_reducible exact LeO.refl _)
      | (with_reducible exact LeO.none _)
      | (with_reducible refine LeO.ite ?_ ?_)
      | (with_reducible refine LeO.bind ?_ (fun _ => ?_))
      | exact ih0 _ _ _ _
      | exact LeO.none _
      | refine LeO.ite ?_ ?_
      | refine LeO.bind ?_ (fun _ => ?_)
theorem slices_Equal_int_int.mono : ∀ a0 a1 k, LeO (slices_Equal_int_int.f k a0 a1) (slices_Equal_int_int.f (k + 1) a0 a1) := by
  intro a0 a1 k
  have ih0 := slices_Equal_int_int.mono_l k
  unfold slices_Equal_int_int.f
  repeat' first
      | (with_reducible exact ih0 _ _ _ _)
      | (with_reducible exact LeO.refl _)
      | (with_reducible exact LeO.none _)
      | (with_reducible refine LeO.ite ?_ ?_)
      | (with_reducible refine LeO.bind ?_ (fun _ => ?_))
      | exact ih0 _ _ _ _
      | exact LeO.none _
      | refine LeO.ite ?_ ?_
      | refine LeO.bind ?_ (fun _ => ?_)
set_option maxHeartbeats 8000000 in
set_option maxRecDepth 100000 in
theorem slices_Equal_int_int.calls (k : Nat) (A0 : Option Addr) (c0 : Nat) (l0 : List Int) (A1 : Option Addr) (c1 : Nat) (l1 : List Int) (r : Bool) (w : World) (hr0 : Kd.C (Kd.int .i64) w A0 l0.length l0) (hc0 : l0.length ≤ c0) (hr1 : Kd.C (Kd.int .i64) w A1 l1.length l1) (hc1 : l1.length ≤ c1) (h : slices_Equal_int_int.f k l0 l1 = some r) :
    Calls Try.prog 121 #[.slice A0 l0.length c0, .slice A1 l1.length c1] w fun e w' => e = .returned (.bool r) ∧ Drawn0 w w' := by
  have HR0 := Aside0.mk hr0
  have HC0 := Aside0.mk hc0
  clear hr0 hc0
  have HR1 := Aside0.mk hr1
  have HC1 := Aside0.mk hc1
  clear hr1 hc1
  have H : (if (l0.length : Int) = (l1.length : Int) then (slices_Equal_int_int.l0 k l0 l1 (l0.length : Int) 0) else (some false)) = some r := h
  clear h
  by_cases c3 : (l0.length : Int) = (l1.length : Int)
  · rw [if_pos c3] at H
    have c3b0 : ((l0.length : Int) == (l1.length : Int)) = true := beq_iff_eq.mpr c3
    have c3b1 : ((l0.length : Int) != (l1.length : Int)) = false := bne_eq_false_iff_eq.mpr c3
    have c3b2 : (l0.length == l1.length) = true := by first | simpa using c3 | (simp at c3 ⊢; omega)
    clear c3
    have H' := Aside0.mk H
    clear H
    go_enter Try.func121, Try.ntmps121
    go_wp2
    repeat (go_quiet (fail); try go_wp2)
    go_loopg [13] k (fun kq v13 w' => ∃ (x13_1 : Int), v13 = .int .i64 x13_1 ∧ Aside0 (slices_Equal_int_int.l0 kq l0 l1 (l0.length : Int) x13_1 = some r) ∧ Aside0 (kq ≤ k) ∧ Drawn0 w w')
    case atStart => exact ⟨(0), (by first | rfl | (simp; done) | (simp [*]; done)), H', ⟨Nat.le_refl _⟩, by repeat (first | exact Drawn0.refl _ | apply Drawn0.step)⟩
    case round =>
      clear H'
      try clear c1
      try clear p2
      try clear c3
      try clear c3b0
      try clear c3b1
      try clear c3b2
      obtain ⟨x13_1, rfl, HA, HK1, ⟨m1, rfl⟩⟩ := hrel
      cases gk with
      | zero => exact absurd HA.out (by simp [slices_Equal_int_int.l0])
      | succ k1 =>
        have H := HA.out
        clear HA
        simp only [slices_Equal_int_int.l0] at H
        by_cases c4 : x13_1 < (l0.length : Int)
        · rw [if_pos c4] at H
          have c4b0 : decide (x13_1 < (l0.length : Int)) = true := decide_eq_true c4
          clear c4
          by_cases c5 : 0 ≤ x13_1
          · rw [if_pos c5] at H
            have c5b0 : decide (0 ≤ x13_1) = true := decide_eq_true c5
            clear c5
            by_cases c6 : x13_1 < (l0.length : Int)
            · rw [if_pos c6] at H
              have c6b0 : decide (x13_1 < (l0.length : Int)) = true := decide_eq_true c6
              clear c6
              by_cases c7 : x13_1 < (l1.length : Int)
              · rw [if_pos c7] at H
                have c7b0 : decide (x13_1 < (l1.length : Int)) = true := decide_eq_true c7
                clear c7
                by_cases c8 : (rd l0 x13_1) = (rd l1 x13_1)
                · rw [if_pos c8] at H
                  have c8b0 : ((rd l0 x13_1) == (rd l1 x13_1)) = true := beq_iff_eq.mpr c8
                  have c8b1 : ((rd l0 x13_1) != (rd l1 x13_1)) = false := bne_eq_false_iff_eq.mpr c8
                  clear c8
                  have H' := Aside0.mk H
                  clear H
                  have p614 : 0 ≤ (x13_1 : Int) := of_decide_eq_true (by first | (with_reducible assumption) | assumption)
                  have q614 : x13_1 < (l0.length : Int) := of_decide_eq_true (by first | (with_reducible assumption) | assumption)
                  obtain ⟨ad614, e614, hx614_0⟩ := Kd.at_int HR0.out x13_1 p614 q614
                  cases e614
                  replace p614 := eq_true p614
                  replace q614 := eq_true q614
                  have p615 : 0 ≤ (x13_1 : Int) := of_decide_eq_true (by first | (with_reducible assumption) | assumption)
                  have q615 : x13_1 < (l1.length : Int) := of_decide_eq_true (by first | (with_reducible assumption) | assumption)
                  obtain ⟨ad615, e615, hx615_0⟩ := Kd.at_int HR1.out x13_1 p615 q615
                  cases e615
                  replace p615 := eq_true p615
                  replace q615 := eq_true q615
                  go_wp2
                  repeat (go_quiet (fail); try go_wp2)
                  go_roundg k1
                  case measure => have := HK1.out; omega
                  case rel => exact ⟨(wrap64 (x13_1 + 1)), (by first | rfl | (simp; done) | (simp [*]; done)), H', ⟨by have := HK1.out; omega⟩, by repeat (first | exact Drawn0.refl _ | apply Drawn0.step)⟩
                · rw [if_neg c8] at H
                  have c8b0 : ((rd l0 x13_1) == (rd l1 x13_1)) = false := beq_eq_false_iff_ne.mpr c8
                  have c8b1 : ((rd l0 x13_1) != (rd l1 x13_1)) = true := bne_iff_ne.mpr c8
                  obtain rfl := Option.some.inj H
                  have p614 : 0 ≤ (x13_1 : Int) := of_decide_eq_true (by first | (with_reducible assumption) | assumption)
                  have q614 : x13_1 < (l0.length : Int) := of_decide_eq_true (by first | (with_reducible assumption) | assumption)
                  obtain ⟨ad614, e614, hx614_0⟩ := Kd.at_int HR0.out x13_1 p614 q614
                  cases e614
                  replace p614 := eq_true p614
                  replace q614 := eq_true q614
                  have p615 : 0 ≤ (x13_1 : Int) := of_decide_eq_true (by first | (with_reducible assumption) | assumption)
                  have q615 : x13_1 < (l1.length : Int) := of_decide_eq_true (by first | (with_reducible assumption) | assumption)
                  obtain ⟨ad615, e615, hx615_0⟩ := Kd.at_int HR1.out x13_1 p615 q615
                  cases e615
                  replace p615 := eq_true p615
                  replace q615 := eq_true q615
                  go_wp2
                  repeat (go_quiet (fail); try go_wp2)
                  go_ret
                  exact ⟨by first | rfl | (simp; done) | (simp [*]; done), by repeat (first | exact Drawn0.refl _ | apply Drawn0.step)⟩
              · rw [if_neg c7] at H
                exact absurd H (by simp)
            · rw [if_neg c6] at H
              exact absurd H (by simp)
          · rw [if_neg c5] at H
            exact absurd H (by simp)
        · rw [if_neg c4] at H
          have c4b0 : decide (x13_1 < (l0.length : Int)) = false := decide_eq_false c4
          clear c4
          obtain rfl := Option.some.inj H
          go_wp2
          repeat (go_quiet (fail); try go_wp2)
          go_ret
          exact ⟨by first | rfl | (simp; done) | (simp [*]; done), by repeat (first | exact Drawn0.refl _ | apply Drawn0.step)⟩
  · rw [if_neg c3] at H
    have c3b0 : ((l0.length : Int) == (l1.length : Int)) = false := beq_eq_false_iff_ne.mpr c3
    have c3b1 : ((l0.length : Int) != (l1.length : Int)) = true := bne_iff_ne.mpr c3
    have c3b2 : (l0.length == l1.length) = false := by first | simpa using c3 | (simp at c3 ⊢; omega)
    obtain rfl := Option.some.inj H
    go_enter Try.func121, Try.ntmps121
    go_wp2
    repeat (go_quiet (fail); try go_wp2)
    go_ret
    exact ⟨by first | rfl | (simp; done) | (simp [*]; done), by repeat (first | exact Drawn0.refl _ | apply Drawn0.step)⟩

theorem slices_Equal_int_int.is {a b : List Int} (hl : a.length ≤ 9223372036854775807) : Ev (fun k => slices_Equal_int_int.f k a b) (sameInts a b) := by
  refine ev_same (l := fun k i => slices_Equal_int_int.l0 k a b a.length i) (fun k => rfl) ?_ (fun hn i hi r ih => ?_)
  · simp only [slices_Equal_int_int.l0]
    exact Ev.no (by omega) (Ev.now _)
  · simp only [slices_Equal_int_int.l0]
    refine Ev.yes (by omega) (Ev.yes (by omega) (Ev.yes (by omega) (Ev.yes (by omega) ?_)))
    rw [unw (x := (i : Int) + 1) (by omega) (by omega)]
    exact Ev.cond (fun hc => Ev.to ih (by simp [hc])) (fun hc => Ev.is (by simp [hc]))

/-! ### impl_sameTc: function 92 -/
def impl_sameTc.f (k : Nat) (a0_0 : Int) (l0_1 : List ByteArray) (l0_2 : List Int) (a1_0 : Int) (l1_1 : List ByteArray) (l1_2 : List Int) : Option (Bool) := if a0_0 = a1_0 then ((slices_Equal_string_string.f k l0_1 l1_1).bind fun t618 => (if t618 = true then ((slices_Equal_int_int.f k l0_2 l1_2).bind fun t619 => (some t619)) else (some false))) else (some false)
theorem impl_sameTc.mono : ∀ a0 a1 a2 a3 a4 a5 k, LeO (impl_sameTc.f k a0 a1 a2 a3 a4 a5) (impl_sameTc.f (k + 1) a0 a1 a2 a3 a4 a5) := by
  intro a0 a1 a2 a3 a4 a5 k
  unfold impl_sameTc.f
  repeat' first
      | (with_reducible exact slices_Equal_int_int.mono _ _ _)
      | (with_reducible exact slices_Equal_string_string.mono _ _ _)
      | (with_reducible exact LeO.refl _)
      | (with_reducible exact LeO.none _)
      | (with_reducible refine LeO.ite ?_ ?_)
      | (with_reducible refine LeO.bind ?_ (fun _ => ?_))
      | exact slices_Equal_int_int.mono _ _ _
      | exact slices_Equal_string_string.mono _ _ _
      | exact LeO.none _
      | refine LeO.ite ?_ ?_
      | refine LeO.bind ?_ (fun _ => ?_)
set_option maxHeartbeats 8000000 in
set_option maxRecDepth 100000 in
theorem impl_sameTc.calls (k : Nat) (a0_0 : Int) (A0_1 : Option Addr) (c0_1 : Nat) (l0_1 : List ByteArray) (A0_2 : Option Addr) (c0_2 : Nat) (l0_2 : List Int) (a1_0 : Int) (A1_1 : Option Addr) (c1_1 : Nat) (l1_1 : List ByteArray) (A1_2 : Option Addr) (c1_2 : Nat) (l1_2 : List Int) (r : Bool) (w : World) (hr0_1 : Kd.C Kd.string w A0_1 l0_1.length l0_1) (hc0_1 : l0_1.length ≤ c0_1) (hr0_2 : Kd.C (Kd.int .i64) w A0_2 l0_2.length l0_2) (hc0_2 : l0_2.length ≤ c0_2) (hr1_1 : Kd.C Kd.string w A1_1 l1_1.length l1_1) (hc1_1 : l1_1.length ≤ c1_1) (hr1_2 : Kd.C (Kd.int .i64) w A1_2 l1_2.length l1_2) (hc1_2 : l1_2.length ≤ c1_2) (h : impl_sameTc.f k a0_0 l0_1 l0_2 a1_0 l1_1 l1_2 = some r) :
    Calls Try.prog 92 #[.agg #[.int .i64 a0_0, .slice A0_1 l0_1.length c0_1, .slice A0_2 l0_2.length c0_2], .agg #[.int .i64 a1_0, .slice A1_1 l1_1.length c1_1, .slice A1_2 l1_2.length c1_2]] w fun e w' => e = .returned (.bool r) ∧ Below w.heap.size w w' := by
  have hu36 := Try.underlying36
  have HR0_1 := Aside0.mk hr0_1
  have HC0_1 := Aside0.mk hc0_1
  clear hr0_1 hc0_1
  have HR0_2 := Aside0.mk hr0_2
  have HC0_2 := Aside0.mk hc0_2
  clear hr0_2 hc0_2
  have HR1_1 := Aside0.mk hr1_1
  have HC1_1 := Aside0.mk hc1_1
  clear hr1_1 hc1_1
  have HR1_2 := Aside0.mk hr1_2
  have HC1_2 := Aside0.mk hc1_2
  clear hr1_2 hc1_2
  have HB := Aside0.mk (Below.refl w.heap.size w)
  have H : (if a0_0 = a1_0 then ((slices_Equal_string_string.f k l0_1 l1_1).bind fun t618 => (if t618 = true then ((slices_Equal_int_int.f k l0_2 l1_2).bind fun t619 => (some t619)) else (some false))) else (some false)) = some r := h
  clear h
  by_cases c3 : a0_0 = a1_0
  · rw [if_pos c3] at H
    have c3b0 : (a0_0 == a1_0) = true := beq_iff_eq.mpr c3
    have c3b1 : (a0_0 != a1_0) = false := bne_eq_false_iff_eq.mpr c3
    clear c3
    replace H := Option.bind_eq_some_iff.mp H
    obtain ⟨t618, A40, H⟩ := H
    replace H : (if t618 = true then ((slices_Equal_int_int.f k l0_2 l1_2).bind fun t619 => (some t619)) else (some false)) = some r := H
    have A4 := Aside0.mk A40
    clear A40
    by_cases c5 : t618 = true
    · subst c5
      have H1 : ((slices_Equal_int_int.f k l0_2 l1_2).bind fun t619 => (some t619)) = some r := by rw [if_pos rfl] at H; exact H
      clear H
      have H := H1
      clear H1
      replace H := Option.bind_eq_some_iff.mp H
      obtain ⟨t619, A60, H⟩ := H
      replace H : (some t619) = some r := H
      have A6 := Aside0.mk A60
      clear A60
      obtain rfl := Option.some.inj H
      go_enter Try.func92, Try.ntmps92
      go_wp2_with (first | ((with_reducible refine gate_dst (N := 2) rfl ?_); refine box_event ?hg (N := 2) ?hd (cs := #[.int .i64 a0_0, .slice A0_1 l0_1.length c0_1, .slice A0_2 l0_2.length c0_2]) (t := 36) ?hr ?_; (case hd => rfl); (case hg => rfl); (case hr => first | (go_simp; done) | (go_simp; rfl)); intro gb616 hg w7 hbox hb; have n0_ := Aside0.mk (below_step (by repeat (first | (with_reducible first | exact HB.out | apply below_alloc | apply pw_below_drewN | apply below_drew1) | exact HB.out)) hb); have n1_ := Aside0.mk (hbox); have n2_ := Aside0.mk ((by rw [hg]; exact (below_size (by repeat (first | (with_reducible first | exact HB.out | apply below_alloc | apply pw_below_drewN | apply below_drew1) | exact HB.out))) : w.heap.size ≤ gb616)); have n3_ := n2_; clear HB; have HB := n0_; have BK616 := n1_; have GW616 := n2_; have GE616 := n3_; clear n0_ n1_ n2_ n3_; clear hb hbox hg) | ((with_reducible refine gate_dst (N := 3) rfl ?_); refine box_event ?hg (N := 3) ?hd (cs := #[.int .i64 a1_0, .slice A1_1 l1_1.length c1_1, .slice A1_2 l1_2.length c1_2]) (t := 36) ?hr ?_; (case hd => rfl); (case hg => rfl); (case hr => first | (go_simp; done) | (go_simp; rfl)); intro gb617 hg w8 hbox hb; have n0_ := Aside0.mk (blk_below (g := gb616) (by (with_reducible repeat (first | refine blk_drewN ?_ _ | refine blk_drew ?_ | refine blk_alloc ?_ _)); exact BK616.out) hb); have n1_ := Aside0.mk (below_step (by repeat (first | (with_reducible first | exact HB.out | apply below_alloc | apply pw_below_drewN | apply below_drew1 | refine below_set ?_ GE616.out) | exact HB.out)) hb); have n2_ := Aside0.mk (hbox); have n3_ := Aside0.mk ((by rw [hg]; exact (below_size (by repeat (first | (with_reducible first | exact HB.out | apply below_alloc | apply pw_below_drewN | apply below_drew1 | refine below_set ?_ GE616.out) | exact HB.out))) : w.heap.size ≤ gb617)); have n4_ := Aside0.mk ((by rw [hg]; exact (below_size (by repeat (first | (with_reducible first | exact HB.out | apply below_alloc | apply pw_below_drewN | apply below_drew1 | refine below_set ?_ GE616.out) | exact HB.out))) : w.heap.size ≤ gb617)); have n5_ := Aside0.mk ((by rw [hg]; exact Nat.ne_of_lt (blk_lt (g := gb616) (o := .cells #[.int .i64 a0_0, .slice A0_1 l0_1.length c0_1, .slice A0_2 l0_2.length c0_2] 36 (0, 0)) (by (with_reducible repeat (first | refine blk_drewN ?_ _ | refine blk_drew ?_ | refine blk_alloc ?_ _)); exact BK616.out)) : gb616 ≠ gb617)); have n6_ := Aside0.mk ((by rw [hg]; exact Nat.ne_of_gt (blk_lt (g := gb616) (o := .cells #[.int .i64 a0_0, .slice A0_1 l0_1.length c0_1, .slice A0_2 l0_2.length c0_2] 36 (0, 0)) (by (with_reducible repeat (first | refine blk_drewN ?_ _ | refine blk_drew ?_ | refine blk_alloc ?_ _)); exact BK616.out)) : gb617 ≠ gb616)); clear BK616; clear HB; have BK616 := n0_; have HB := n1_; have BK617 := n2_; have GW617 := n3_; have GE617 := n4_; have NB616_617 := n5_; have NB617_616 := n6_; clear n0_ n1_ n2_ n3_ n4_ n5_ n6_; clear hb hbox hg; have hnb9 := NB616_617.out; have hnc9 := NB617_616.out; obtain ⟨hcz10_0, hcz10_1, hcz10_2⟩ := cells3 BK616.out; obtain ⟨hfz10_0, hfz10_1, hfz10_2⟩ := frozens3 BK616.out; obtain ⟨hcz11_0, hcz11_1, hcz11_2⟩ := cells3 BK617.out; obtain ⟨hfz11_0, hfz11_1, hfz11_2⟩ := frozens3 BK617.out) | (go_at_call 120; (with_reducible refine (slices_Equal_string_string.calls k _ _ l0_1 _ _ l1_1 true _ ?side1 ?side2 ?side3 ?side4 A4.out).mono ?_); (case side1 => repeat (first | exact (Kd.C_below HR0_1.out HB.out) | (with_reducible refine Kd.C_alloc ?_ _) | (with_reducible refine Kd.C_drewN ?_ _) | (with_reducible refine Kd.C_drew ?_))); (case side2 => exact HC0_1.out); (case side3 => repeat (first | exact (Kd.C_below HR1_1.out HB.out) | (with_reducible refine Kd.C_alloc ?_ _) | (with_reducible refine Kd.C_drewN ?_ _) | (with_reducible refine Kd.C_drew ?_))); (case side4 => exact HC1_1.out); rintro e w' ⟨rfl, ⟨nd, rfl⟩⟩) | (go_at_call 121; (with_reducible refine (slices_Equal_int_int.calls k _ _ l0_2 _ _ l1_2 t619 _ ?side1 ?side2 ?side3 ?side4 A6.out).mono ?_); (case side1 => repeat (first | exact (Kd.C_below HR0_2.out (by repeat (first | (with_reducible first | exact HB.out | apply below_alloc | apply pw_below_drewN | apply below_drew1 | refine below_set ?_ GE616.out | refine below_set ?_ GE617.out) | exact HB.out))) | (with_reducible refine Kd.C_alloc ?_ _) | (with_reducible refine Kd.C_drewN ?_ _) | (with_reducible refine Kd.C_drew ?_))); (case side2 => exact HC0_2.out); (case side3 => repeat (first | exact (Kd.C_below HR1_2.out (by repeat (first | (with_reducible first | exact HB.out | apply below_alloc | apply pw_below_drewN | apply below_drew1 | refine below_set ?_ GE616.out | refine below_set ?_ GE617.out) | exact HB.out))) | (with_reducible refine Kd.C_alloc ?_ _) | (with_reducible refine Kd.C_drewN ?_ _) | (with_reducible refine Kd.C_drew ?_))); (case side4 => exact HC1_2.out); rintro e w' ⟨rfl, ⟨nd, rfl⟩⟩))
      go_ret
      exact ⟨by first | rfl | (simp [errW_none, errW_some] <;> rfl) | (simp [*, errW_none, errW_some] <;> rfl), by repeat (first | (with_reducible first | exact HB.out | apply below_alloc | apply pw_below_drewN | apply below_drew1 | refine below_set ?_ GE616.out | refine below_set ?_ GE617.out) | exact HB.out)⟩
    · replace c5 := Bool.eq_false_iff.mpr c5
      subst c5
      have H1 : (some false) = some r := by rw [if_neg (show ¬ (false = true) by decide)] at H; exact H
      clear H
      have H := H1
      clear H1
      obtain rfl := Option.some.inj H
      go_enter Try.func92, Try.ntmps92
      go_wp2_with (first | ((with_reducible refine gate_dst (N := 2) rfl ?_); refine box_event ?hg (N := 2) ?hd (cs := #[.int .i64 a0_0, .slice A0_1 l0_1.length c0_1, .slice A0_2 l0_2.length c0_2]) (t := 36) ?hr ?_; (case hd => rfl); (case hg => rfl); (case hr => first | (go_simp; done) | (go_simp; rfl)); intro gb616 hg w12 hbox hb; have n0_ := Aside0.mk (below_step (by repeat (first | (with_reducible first | exact HB.out | apply below_alloc | apply pw_below_drewN | apply below_drew1) | exact HB.out)) hb); have n1_ := Aside0.mk (hbox); have n2_ := Aside0.mk ((by rw [hg]; exact (below_size (by repeat (first | (with_reducible first | exact HB.out | apply below_alloc | apply pw_below_drewN | apply below_drew1) | exact HB.out))) : w.heap.size ≤ gb616)); have n3_ := n2_; clear HB; have HB := n0_; have BK616 := n1_; have GW616 := n2_; have GE616 := n3_; clear n0_ n1_ n2_ n3_; clear hb hbox hg) | ((with_reducible refine gate_dst (N := 3) rfl ?_); refine box_event ?hg (N := 3) ?hd (cs := #[.int .i64 a1_0, .slice A1_1 l1_1.length c1_1, .slice A1_2 l1_2.length c1_2]) (t := 36) ?hr ?_; (case hd => rfl); (case hg => rfl); (case hr => first | (go_simp; done) | (go_simp; rfl)); intro gb617 hg w13 hbox hb; have n0_ := Aside0.mk (blk_below (g := gb616) (by (with_reducible repeat (first | refine blk_drewN ?_ _ | refine blk_drew ?_ | refine blk_alloc ?_ _)); exact BK616.out) hb); have n1_ := Aside0.mk (below_step (by repeat (first | (with_reducible first | exact HB.out | apply below_alloc | apply pw_below_drewN | apply below_drew1 | refine below_set ?_ GE616.out) | exact HB.out)) hb); have n2_ := Aside0.mk (hbox); have n3_ := Aside0.mk ((by rw [hg]; exact (below_size (by repeat (first | (with_reducible first | exact HB.out | apply below_alloc | apply pw_below_drewN | apply below_drew1 | refine below_set ?_ GE616.out) | exact HB.out))) : w.heap.size ≤ gb617)); have n4_ := Aside0.mk ((by rw [hg]; exact (below_size (by repeat (first | (with_reducible first | exact HB.out | apply below_alloc | apply pw_below_drewN | apply below_drew1 | refine below_set ?_ GE616.out) | exact HB.out))) : w.heap.size ≤ gb617)); have n5_ := Aside0.mk ((by rw [hg]; exact Nat.ne_of_lt (blk_lt (g := gb616) (o := .cells #[.int .i64 a0_0, .slice A0_1 l0_1.length c0_1, .slice A0_2 l0_2.length c0_2] 36 (0, 0)) (by (with_reducible repeat (first | refine blk_drewN ?_ _ | refine blk_drew ?_ | refine blk_alloc ?_ _)); exact BK616.out)) : gb616 ≠ gb617)); have n6_ := Aside0.mk ((by rw [hg]; exact Nat.ne_of_gt (blk_lt (g := gb616) (o := .cells #[.int .i64 a0_0, .slice A0_1 l0_1.length c0_1, .slice A0_2 l0_2.length c0_2] 36 (0, 0)) (by (with_reducible repeat (first | refine blk_drewN ?_ _ | refine blk_drew ?_ | refine blk_alloc ?_ _)); exact BK616.out)) : gb617 ≠ gb616)); clear BK616; clear HB; have BK616 := n0_; have HB := n1_; have BK617 := n2_; have GW617 := n3_; have GE617 := n4_; have NB616_617 := n5_; have NB617_616 := n6_; clear n0_ n1_ n2_ n3_ n4_ n5_ n6_; clear hb hbox hg; have hnb14 := NB616_617.out; have hnc14 := NB617_616.out; obtain ⟨hcz15_0, hcz15_1, hcz15_2⟩ := cells3 BK616.out; obtain ⟨hfz15_0, hfz15_1, hfz15_2⟩ := frozens3 BK616.out; obtain ⟨hcz16_0, hcz16_1, hcz16_2⟩ := cells3 BK617.out; obtain ⟨hfz16_0, hfz16_1, hfz16_2⟩ := frozens3 BK617.out) | (go_at_call 120; (with_reducible refine (slices_Equal_string_string.calls k _ _ l0_1 _ _ l1_1 false _ ?side1 ?side2 ?side3 ?side4 A4.out).mono ?_); (case side1 => repeat (first | exact (Kd.C_below HR0_1.out HB.out) | (with_reducible refine Kd.C_alloc ?_ _) | (with_reducible refine Kd.C_drewN ?_ _) | (with_reducible refine Kd.C_drew ?_))); (case side2 => exact HC0_1.out); (case side3 => repeat (first | exact (Kd.C_below HR1_1.out HB.out) | (with_reducible refine Kd.C_alloc ?_ _) | (with_reducible refine Kd.C_drewN ?_ _) | (with_reducible refine Kd.C_drew ?_))); (case side4 => exact HC1_1.out); rintro e w' ⟨rfl, ⟨nd, rfl⟩⟩))
      go_ret
      exact ⟨by first | rfl | (simp [errW_none, errW_some] <;> rfl) | (simp [*, errW_none, errW_some] <;> rfl), by repeat (first | (with_reducible first | exact HB.out | apply below_alloc | apply pw_below_drewN | apply below_drew1 | refine below_set ?_ GE616.out | refine below_set ?_ GE617.out) | exact HB.out)⟩
  · rw [if_neg c3] at H
    have c3b0 : (a0_0 == a1_0) = false := beq_eq_false_iff_ne.mpr c3
    have c3b1 : (a0_0 != a1_0) = true := bne_iff_ne.mpr c3
    obtain rfl := Option.some.inj H
    go_enter Try.func92, Try.ntmps92
    go_wp2_with (first | ((with_reducible refine gate_dst (N := 2) rfl ?_); refine box_event ?hg (N := 2) ?hd (cs := #[.int .i64 a0_0, .slice A0_1 l0_1.length c0_1, .slice A0_2 l0_2.length c0_2]) (t := 36) ?hr ?_; (case hd => rfl); (case hg => rfl); (case hr => first | (go_simp; done) | (go_simp; rfl)); intro gb616 hg w17 hbox hb; have n0_ := Aside0.mk (below_step (by repeat (first | (with_reducible first | exact HB.out | apply below_alloc | apply pw_below_drewN | apply below_drew1) | exact HB.out)) hb); have n1_ := Aside0.mk (hbox); have n2_ := Aside0.mk ((by rw [hg]; exact (below_size (by repeat (first | (with_reducible first | exact HB.out | apply below_alloc | apply pw_below_drewN | apply below_drew1) | exact HB.out))) : w.heap.size ≤ gb616)); have n3_ := n2_; clear HB; have HB := n0_; have BK616 := n1_; have GW616 := n2_; have GE616 := n3_; clear n0_ n1_ n2_ n3_; clear hb hbox hg) | ((with_reducible refine gate_dst (N := 3) rfl ?_); refine box_event ?hg (N := 3) ?hd (cs := #[.int .i64 a1_0, .slice A1_1 l1_1.length c1_1, .slice A1_2 l1_2.length c1_2]) (t := 36) ?hr ?_; (case hd => rfl); (case hg => rfl); (case hr => first | (go_simp; done) | (go_simp; rfl)); intro gb617 hg w18 hbox hb; have n0_ := Aside0.mk (blk_below (g := gb616) (by (with_reducible repeat (first | refine blk_drewN ?_ _ | refine blk_drew ?_ | refine blk_alloc ?_ _)); exact BK616.out) hb); have n1_ := Aside0.mk (below_step (by repeat (first | (with_reducible first | exact HB.out | apply below_alloc | apply pw_below_drewN | apply below_drew1 | refine below_set ?_ GE616.out) | exact HB.out)) hb); have n2_ := Aside0.mk (hbox); have n3_ := Aside0.mk ((by rw [hg]; exact (below_size (by repeat (first | (with_reducible first | exact HB.out | apply below_alloc | apply pw_below_drewN | apply below_drew1 | refine below_set ?_ GE616.out) | exact HB.out))) : w.heap.size ≤ gb617)); have n4_ := Aside0.mk ((by rw [hg]; exact (below_size (by repeat (first | (with_reducible first | exact HB.out | apply below_alloc | apply pw_below_drewN | apply below_drew1 | refine below_set ?_ GE616.out) | exact HB.out))) : w.heap.size ≤ gb617)); have n5_ := Aside0.mk ((by rw [hg]; exact Nat.ne_of_lt (blk_lt (g := gb616) (o := .cells #[.int .i64 a0_0, .slice A0_1 l0_1.length c0_1, .slice A0_2 l0_2.length c0_2] 36 (0, 0)) (by (with_reducible repeat (first | refine blk_drewN ?_ _ | refine blk_drew ?_ | refine blk_alloc ?_ _)); exact BK616.out)) : gb616 ≠ gb617)); have n6_ := Aside0.mk ((by rw [hg]; exact Nat.ne_of_gt (blk_lt (g := gb616) (o := .cells #[.int .i64 a0_0, .slice A0_1 l0_1.length c0_1, .slice A0_2 l0_2.length c0_2] 36 (0, 0)) (by (with_reducible repeat (first | refine blk_drewN ?_ _ | refine blk_drew ?_ | refine blk_alloc ?_ _)); exact BK616.out)) : gb617 ≠ gb616)); clear BK616; clear HB; have BK616 := n0_; have HB := n1_; have BK617 := n2_; have GW617 := n3_; have GE617 := n4_; have NB616_617 := n5_; have NB617_616 := n6_; clear n0_ n1_ n2_ n3_ n4_ n5_ n6_; clear hb hbox hg; have hnb19 := NB616_617.out; have hnc19 := NB617_616.out; obtain ⟨hcz20_0, hcz20_1, hcz20_2⟩ := cells3 BK616.out; obtain ⟨hfz20_0, hfz20_1, hfz20_2⟩ := frozens3 BK616.out; obtain ⟨hcz21_0, hcz21_1, hcz21_2⟩ := cells3 BK617.out; obtain ⟨hfz21_0, hfz21_1, hfz21_2⟩ := frozens3 BK617.out))
    go_ret
    exact ⟨by first | rfl | (simp [errW_none, errW_some] <;> rfl) | (simp [*, errW_none, errW_some] <;> rfl), by repeat (first | (with_reducible first | exact HB.out | apply below_alloc | apply pw_below_drewN | apply below_drew1 | refine below_set ?_ GE616.out | refine below_set ?_ GE617.out) | exact HB.out)⟩

theorem impl_sameTc.is {a b : S36} (hl : a.f1.length ≤ 9223372036854775807) (hh : a.f2.length ≤ 9223372036854775807) : Ev (fun k => impl_sameTc.f k a.f0 a.f1 a.f2 b.f0 b.f1 b.f2) (sameTc a b) := by
  unfold impl_sameTc.f sameTc
  exact Ev.cond (fun h1 => Ev.bind (slices_Equal_string_string.is hl) (Ev.cond (fun h2 => Ev.bind (slices_Equal_int_int.is hh) (Ev.is (by rw [decide_eq_true h1, h2]; rfl))) (fun h2 => Ev.is (by rw [decide_eq_true h1, Bool.eq_false_iff.2 h2]; rfl)))) (fun h1 => Ev.is (by rw [decide_eq_false h1]; rfl))

attribute [local go_sem high] eqA106
/-! ### impl_Tx: function 93 -/
def impl_Tx.l0 : Nat → List (S106) → List (S106) → Int → Int → Option (Bool)
  | 0, _, _, _, _ => none
  | k + 1, x0, x1, x12, x13 => if x13 < x12 then (if 0 ≤ x13 then (if x13 < (x0.length : Int) then (if x13 < (x1.length : Int) then (if (!(((rd_T106 x0 x13).f0) == ((rd_T106 x1 x13).f0)) || (!((((rd_T106 x0 x13).f1).toList) == (((rd_T106 x1 x13).f1).toList)) || (!((((rd_T106 x0 x13).f2).toList) == (((rd_T106 x1 x13).f2).toList)) || (!(((rd_T106 x0 x13).f3) == ((rd_T106 x1 x13).f3)) || (!(((rd_T106 x0 x13).f4) == ((rd_T106 x1 x13).f4))))))) = true then (some false) else (impl_Tx.l0 k x0 x1 x12 (wrap64 (x13 + 1)))) else (none)) else (none)) else (none)) else (some true)
def impl_Tx.f (k : Nat) (l0 : List (S106)) (l1 : List (S106)) : Option (Bool) := if (l0.length : Int) = (l1.length : Int) then (impl_Tx.l0 k l0 l1 (l0.length : Int) 0) else (some false)
theorem impl_Tx.mono_l : ∀ k, (∀ y0 y1 y2 y3, LeO (impl_Tx.l0 k y0 y1 y2 y3) (impl_Tx.l0 (k + 1) y0 y1 y2 y3))
  | 0 => fun _ _ _ _ r h => by simp [impl_Tx.l0] at h
  | k + 1 => by
    have ih0 := impl_Tx.mono_l k
    · intro y0 y1 y2 y3
      unfold impl_Tx.l0
      repeat' first
      | (with_reducible exact ih0 _ _ _ _)
      | (with_reducible exact LeO.refl _)
      | (with_reducible exact LeO.none _)
      | (with_reducible refine LeO.ite ?_ ?_)
      | (with_reducible refine LeO.bind ?_ (fun _ => ?_))
      | exact ih0 _ _ _ _
      | exact LeO.none _
      | refine LeO.ite ?_ ?_
      | refine LeO.bind ?_ (fun _ => ?_)
theorem impl_Tx.mono : ∀ a0 a1 k, LeO (impl_Tx.f k a0 a1) (impl_Tx.f (k + 1) a0 a1) := by
  intro a0 a1 k
  have ih0 := impl_Tx.mono_l k
  unfold impl_Tx.f
  repeat' first
      | (with_reducible exact ih0 _ _ _ _)
      | (with_reducible exact LeO.refl _)
      | (with_reducible exact LeO.none _)
      | (with_reducible refine LeO.ite ?_ ?_)
      | (with_reducible refine LeO.bind ?_ (fun _ => ?_))
      | exact ih0 _ _ _ _
      | exact LeO.none _
      | refine LeO.ite ?_ ?_
      | refine LeO.bind ?_ (fun _ => ?_)
set_option maxHeartbeats 8000000 in
set_option maxRecDepth 100000 in
theorem impl_Tx.calls (k : Nat) (A0 : Option Addr) (c0 : Nat) (l0 : List (S106)) (A1 : Option Addr) (c1 : Nat) (l1 : List (S106)) (r : Bool) (w : World) (hr0 : Kd.C k106 w A0 l0.length l0) (hc0 : l0.length ≤ c0) (hr1 : Kd.C k106 w A1 l1.length l1) (hc1 : l1.length ≤ c1) (h : impl_Tx.f k l0 l1 = some r) :
    Calls Try.prog 93 #[.slice A0 l0.length c0, .slice A1 l1.length c1] w fun e w' => e = .returned (.bool r) ∧ Drawn0 w w' := by
  have hu106 := Try.underlying106
  have HR0 := Aside0.mk hr0
  have HC0 := Aside0.mk hc0
  clear hr0 hc0
  have HR1 := Aside0.mk hr1
  have HC1 := Aside0.mk hc1
  clear hr1 hc1
  have H : (if (l0.length : Int) = (l1.length : Int) then (impl_Tx.l0 k l0 l1 (l0.length : Int) 0) else (some false)) = some r := h
  clear h
  by_cases c3 : (l0.length : Int) = (l1.length : Int)
  · rw [if_pos c3] at H
    have c3b0 : ((l0.length : Int) == (l1.length : Int)) = true := beq_iff_eq.mpr c3
    have c3b1 : ((l0.length : Int) != (l1.length : Int)) = false := bne_eq_false_iff_eq.mpr c3
    have c3b2 : (l0.length == l1.length) = true := by first | simpa using c3 | (simp at c3 ⊢; omega)
    clear c3
    have H' := Aside0.mk H
    clear H
    go_enter Try.func93, Try.ntmps93
    go_wp2
    repeat (go_quiet (fail); try go_wp2)
    go_loopg [13] k (fun kq v13 w' => ∃ (x13_1 : Int), v13 = .int .i64 x13_1 ∧ Aside0 (impl_Tx.l0 kq l0 l1 (l0.length : Int) x13_1 = some r) ∧ Aside0 (kq ≤ k) ∧ Drawn0 w w')
    case atStart => exact ⟨(0), (by first | rfl | (simp; done) | (simp [*]; done)), H', ⟨Nat.le_refl _⟩, by repeat (first | exact Drawn0.refl _ | apply Drawn0.step)⟩
    case round =>
      clear H'
      try clear c1
      try clear p2
      try clear c3
      try clear c3b0
      try clear c3b1
      try clear c3b2
      obtain ⟨x13_1, rfl, HA, HK1, ⟨m1, rfl⟩⟩ := hrel
      cases gk with
      | zero => exact absurd HA.out (by simp [impl_Tx.l0])
      | succ k1 =>
        have H := HA.out
        clear HA
        simp only [impl_Tx.l0] at H
        by_cases c4 : x13_1 < (l0.length : Int)
        · rw [if_pos c4] at H
          have c4b0 : decide (x13_1 < (l0.length : Int)) = true := decide_eq_true c4
          clear c4
          by_cases c5 : 0 ≤ x13_1
          · rw [if_pos c5] at H
            have c5b0 : decide (0 ≤ x13_1) = true := decide_eq_true c5
            clear c5
            by_cases c6 : x13_1 < (l0.length : Int)
            · rw [if_pos c6] at H
              have c6b0 : decide (x13_1 < (l0.length : Int)) = true := decide_eq_true c6
              clear c6
              by_cases c7 : x13_1 < (l1.length : Int)
              · rw [if_pos c7] at H
                have c7b0 : decide (x13_1 < (l1.length : Int)) = true := decide_eq_true c7
                clear c7
                by_cases c8 : (!(((rd_T106 l0 x13_1).f0) == ((rd_T106 l1 x13_1).f0)) || (!((((rd_T106 l0 x13_1).f1).toList) == (((rd_T106 l1 x13_1).f1).toList)) || (!((((rd_T106 l0 x13_1).f2).toList) == (((rd_T106 l1 x13_1).f2).toList)) || (!(((rd_T106 l0 x13_1).f3) == ((rd_T106 l1 x13_1).f3)) || (!(((rd_T106 l0 x13_1).f4) == ((rd_T106 l1 x13_1).f4))))))) = true
                · rw [if_pos c8] at H
                  have c8b0 : (!(((rd_T106 l0 x13_1).f0) == ((rd_T106 l1 x13_1).f0)) || (!((((rd_T106 l0 x13_1).f1).toList) == (((rd_T106 l1 x13_1).f1).toList)) || (!((((rd_T106 l0 x13_1).f2).toList) == (((rd_T106 l1 x13_1).f2).toList)) || (!(((rd_T106 l0 x13_1).f3) == ((rd_T106 l1 x13_1).f3)) || (!(((rd_T106 l0 x13_1).f4) == ((rd_T106 l1 x13_1).f4))))))) = true := c8
                  clear c8
                  obtain rfl := Option.some.inj H
                  have p620 : 0 ≤ (x13_1 : Int) := of_decide_eq_true (by first | (with_reducible assumption) | assumption)
                  have q620 : x13_1 < (l0.length : Int) := of_decide_eq_true (by first | (with_reducible assumption) | assumption)
                  obtain ⟨ad620, e620, hx620_0, hx620_1, hx620_2, hx620_3, hx620_4⟩ := at_T106 HR0.out x13_1 p620 q620
                  cases e620
                  replace p620 := eq_true p620
                  replace q620 := eq_true q620
                  have p621 : 0 ≤ (x13_1 : Int) := of_decide_eq_true (by first | (with_reducible assumption) | assumption)
                  have q621 : x13_1 < (l1.length : Int) := of_decide_eq_true (by first | (with_reducible assumption) | assumption)
                  obtain ⟨ad621, e621, hx621_0, hx621_1, hx621_2, hx621_3, hx621_4⟩ := at_T106 HR1.out x13_1 p621 q621
                  cases e621
                  replace p621 := eq_true p621
                  replace q621 := eq_true q621
                  go_wp2
                  repeat (go_quiet (fail); try go_wp2)
                  go_ret
                  exact ⟨by first | rfl | (simp; done) | (simp [*]; done), by repeat (first | exact Drawn0.refl _ | apply Drawn0.step)⟩
                · rw [if_neg c8] at H
                  have c8b0 : (!(((rd_T106 l0 x13_1).f0) == ((rd_T106 l1 x13_1).f0)) || (!((((rd_T106 l0 x13_1).f1).toList) == (((rd_T106 l1 x13_1).f1).toList)) || (!((((rd_T106 l0 x13_1).f2).toList) == (((rd_T106 l1 x13_1).f2).toList)) || (!(((rd_T106 l0 x13_1).f3) == ((rd_T106 l1 x13_1).f3)) || (!(((rd_T106 l0 x13_1).f4) == ((rd_T106 l1 x13_1).f4))))))) = false := by simpa using c8
                  clear c8
                  have H' := Aside0.mk H
                  clear H
                  have p620 : 0 ≤ (x13_1 : Int) := of_decide_eq_true (by first | (with_reducible assumption) | assumption)
                  have q620 : x13_1 < (l0.length : Int) := of_decide_eq_true (by first | (with_reducible assumption) | assumption)
                  obtain ⟨ad620, e620, hx620_0, hx620_1, hx620_2, hx620_3, hx620_4⟩ := at_T106 HR0.out x13_1 p620 q620
                  cases e620
                  replace p620 := eq_true p620
                  replace q620 := eq_true q620
                  have p621 : 0 ≤ (x13_1 : Int) := of_decide_eq_true (by first | (with_reducible assumption) | assumption)
                  have q621 : x13_1 < (l1.length : Int) := of_decide_eq_true (by first | (with_reducible assumption) | assumption)
                  obtain ⟨ad621, e621, hx621_0, hx621_1, hx621_2, hx621_3, hx621_4⟩ := at_T106 HR1.out x13_1 p621 q621
                  cases e621
                  replace p621 := eq_true p621
                  replace q621 := eq_true q621
                  go_wp2
                  repeat (go_quiet (fail); try go_wp2)
                  go_roundg k1
                  case measure => have := HK1.out; omega
                  case rel => exact ⟨(wrap64 (x13_1 + 1)), (by first | rfl | (simp; done) | (simp [*]; done)), H', ⟨by have := HK1.out; omega⟩, by repeat (first | exact Drawn0.refl _ | apply Drawn0.step)⟩
              · rw [if_neg c7] at H
                exact absurd H (by simp)
            · rw [if_neg c6] at H
              exact absurd H (by simp)
          · rw [if_neg c5] at H
            exact absurd H (by simp)
        · rw [if_neg c4] at H
          have c4b0 : decide (x13_1 < (l0.length : Int)) = false := decide_eq_false c4
          clear c4
          obtain rfl := Option.some.inj H
          go_wp2
          repeat (go_quiet (fail); try go_wp2)
          go_ret
          exact ⟨by first | rfl | (simp; done) | (simp [*]; done), by repeat (first | exact Drawn0.refl _ | apply Drawn0.step)⟩
  · rw [if_neg c3] at H
    have c3b0 : ((l0.length : Int) == (l1.length : Int)) = false := beq_eq_false_iff_ne.mpr c3
    have c3b1 : ((l0.length : Int) != (l1.length : Int)) = true := bne_iff_ne.mpr c3
    have c3b2 : (l0.length == l1.length) = false := by first | simpa using c3 | (simp at c3 ⊢; omega)
    obtain rfl := Option.some.inj H
    go_enter Try.func93, Try.ntmps93
    go_wp2
    repeat (go_quiet (fail); try go_wp2)
    go_ret
    exact ⟨by first | rfl | (simp; done) | (simp [*]; done), by repeat (first | exact Drawn0.refl _ | apply Drawn0.step)⟩

theorem impl_Tx.is {a b : List S106} (hl : a.length ≤ 9223372036854775807) : Ev (fun k => impl_Tx.f k a b) (sameTxs a b) := by
  refine ev_same (l := fun k i => impl_Tx.l0 k a b a.length i) (fun k => rfl) ?_ (fun hn i hi r ih => ?_)
  · simp only [impl_Tx.l0]
    exact Ev.no (by omega) (Ev.now _)
  · simp only [impl_Tx.l0]
    refine Ev.yes (by omega) (Ev.yes (by omega) (Ev.yes (by omega) (Ev.yes (by omega) ?_)))
    rw [unw (x := (i : Int) + 1) (by omega) (by omega)]
    exact Ev.cond (fun hc => Ev.is (by rw [hc]; rfl)) (fun hc => Ev.to ih (by rw [Bool.eq_false_iff.2 hc]; rfl))

attribute [local go_sem high] eqA93
/-! ### impl_Val_94: function 94 -/
def impl_Val_94.l0 : Nat → List (S93) → List (S93) → Int → Int → Option (Bool)
  | 0, _, _, _, _ => none
  | k + 1, x0, x1, x12, x13 => if x13 < x12 then (if 0 ≤ x13 then (if x13 < (x0.length : Int) then (if x13 < (x1.length : Int) then (if (!((((rd_T93 x0 x13).f0).toList) == (((rd_T93 x1 x13).f0).toList)) || (!(((rd_T93 x0 x13).f1) == ((rd_T93 x1 x13).f1)))) = true then (some false) else (impl_Val_94.l0 k x0 x1 x12 (wrap64 (x13 + 1)))) else (none)) else (none)) else (none)) else (some true)
def impl_Val_94.f (k : Nat) (l0 : List (S93)) (l1 : List (S93)) : Option (Bool) := if (l0.length : Int) = (l1.length : Int) then (impl_Val_94.l0 k l0 l1 (l0.length : Int) 0) else (some false)
theorem impl_Val_94.mono_l : ∀ k, (∀ y0 y1 y2 y3, LeO (impl_Val_94.l0 k y0 y1 y2 y3) (impl_Val_94.l0 (k + 1) y0 y1 y2 y3))
  | 0 => fun _ _ _ _ r h => by simp [impl_Val_94.l0] at h
  | k + 1 => by
    have ih0 := impl_Val_94.mono_l k
    · intro y0 y1 y2 y3
      unfold impl_Val_94.l0
      repeat' first
      | (with_reducible exact ih0 _ _ _ _)
      | (with_reducible exact LeO.refl _)
      | (with_reducible exact LeO.none _)
      | (with_reducible refine LeO.ite ?_ ?_)
      | (with_reducible refine LeO.bind ?_ (fun _ => ?_))
      | exact ih0 _ _ _ _
      | exact LeO.none _
      | refine LeO.ite ?_ ?_
      | refine LeO.bind ?_ (fun _ => ?_)
theorem impl_Val_94.mono : ∀ a0 a1 k, LeO (impl_Val_94.f k a0 a1) (impl_Val_94.f (k + 1) a0 a1) := by
  intro a0 a1 k
  have ih0 := impl_Val_94.mono_l k
  unfold impl_Val_94.f
  repeat' first
      | (with_reducible exact ih0 _ _ _ _)
      | (with_reducible exact LeO.refl _)
      | (with_reducible exact LeO.none _)
      | (with_reducible refine LeO.ite ?_ ?_)
      | (with_reducible refine LeO.bind ?_ (fun _ => ?_))
      | exact ih0 _ _ _ _
      | exact LeO.none _
      | refine LeO.ite ?_ ?_
      | refine LeO.bind ?_ (fun _ => ?_)
set_option maxHeartbeats 8000000 in
set_option maxRecDepth 100000 in
theorem impl_Val_94.calls (k : Nat) (A0 : Option Addr) (c0 : Nat) (l0 : List (S93)) (A1 : Option Addr) (c1 : Nat) (l1 : List (S93)) (r : Bool) (w : World) (hr0 : Kd.C k93 w A0 l0.length l0) (hc0 : l0.length ≤ c0) (hr1 : Kd.C k93 w A1 l1.length l1) (hc1 : l1.length ≤ c1) (h : impl_Val_94.f k l0 l1 = some r) :
    Calls Try.prog 94 #[.slice A0 l0.length c0, .slice A1 l1.length c1] w fun e w' => e = .returned (.bool r) ∧ Drawn0 w w' := by
  have hu93 := Try.underlying93
  have HR0 := Aside0.mk hr0
  have HC0 := Aside0.mk hc0
  clear hr0 hc0
  have HR1 := Aside0.mk hr1
  have HC1 := Aside0.mk hc1
  clear hr1 hc1
  have H : (if (l0.length : Int) = (l1.length : Int) then (impl_Val_94.l0 k l0 l1 (l0.length : Int) 0) else (some false)) = some r := h
  clear h
  by_cases c3 : (l0.length : Int) = (l1.length : Int)
  · rw [if_pos c3] at H
    have c3b0 : ((l0.length : Int) == (l1.length : Int)) = true := beq_iff_eq.mpr c3
    have c3b1 : ((l0.length : Int) != (l1.length : Int)) = false := bne_eq_false_iff_eq.mpr c3
    have c3b2 : (l0.length == l1.length) = true := by first | simpa using c3 | (simp at c3 ⊢; omega)
    clear c3
    have H' := Aside0.mk H
    clear H
    go_enter Try.func94, Try.ntmps94
    go_wp2
    repeat (go_quiet (fail); try go_wp2)
    go_loopg [13] k (fun kq v13 w' => ∃ (x13_1 : Int), v13 = .int .i64 x13_1 ∧ Aside0 (impl_Val_94.l0 kq l0 l1 (l0.length : Int) x13_1 = some r) ∧ Aside0 (kq ≤ k) ∧ Drawn0 w w')
    case atStart => exact ⟨(0), (by first | rfl | (simp; done) | (simp [*]; done)), H', ⟨Nat.le_refl _⟩, by repeat (first | exact Drawn0.refl _ | apply Drawn0.step)⟩
    case round =>
      clear H'
      try clear c1
      try clear p2
      try clear c3
      try clear c3b0
      try clear c3b1
      try clear c3b2
      obtain ⟨x13_1, rfl, HA, HK1, ⟨m1, rfl⟩⟩ := hrel
      cases gk with
      | zero => exact absurd HA.out (by simp [impl_Val_94.l0])
      | succ k1 =>
        have H := HA.out
        clear HA
        simp only [impl_Val_94.l0] at H
        by_cases c4 : x13_1 < (l0.length : Int)
        · rw [if_pos c4] at H
          have c4b0 : decide (x13_1 < (l0.length : Int)) = true := decide_eq_true c4
          clear c4
          by_cases c5 : 0 ≤ x13_1
          · rw [if_pos c5] at H
            have c5b0 : decide (0 ≤ x13_1) = true := decide_eq_true c5
            clear c5
            by_cases c6 : x13_1 < (l0.length : Int)
            · rw [if_pos c6] at H
              have c6b0 : decide (x13_1 < (l0.length : Int)) = true := decide_eq_true c6
              clear c6
              by_cases c7 : x13_1 < (l1.length : Int)
              · rw [if_pos c7] at H
                have c7b0 : decide (x13_1 < (l1.length : Int)) = true := decide_eq_true c7
                clear c7
                by_cases c8 : (!((((rd_T93 l0 x13_1).f0).toList) == (((rd_T93 l1 x13_1).f0).toList)) || (!(((rd_T93 l0 x13_1).f1) == ((rd_T93 l1 x13_1).f1)))) = true
                · rw [if_pos c8] at H
                  have c8b0 : (!((((rd_T93 l0 x13_1).f0).toList) == (((rd_T93 l1 x13_1).f0).toList)) || (!(((rd_T93 l0 x13_1).f1) == ((rd_T93 l1 x13_1).f1)))) = true := c8
                  clear c8
                  obtain rfl := Option.some.inj H
                  have p622 : 0 ≤ (x13_1 : Int) := of_decide_eq_true (by first | (with_reducible assumption) | assumption)
                  have q622 : x13_1 < (l0.length : Int) := of_decide_eq_true (by first | (with_reducible assumption) | assumption)
                  obtain ⟨ad622, e622, hx622_0, hx622_1⟩ := at_T93 HR0.out x13_1 p622 q622
                  cases e622
                  replace p622 := eq_true p622
                  replace q622 := eq_true q622
                  have p623 : 0 ≤ (x13_1 : Int) := of_decide_eq_true (by first | (with_reducible assumption) | assumption)
                  have q623 : x13_1 < (l1.length : Int) := of_decide_eq_true (by first | (with_reducible assumption) | assumption)
                  obtain ⟨ad623, e623, hx623_0, hx623_1⟩ := at_T93 HR1.out x13_1 p623 q623
                  cases e623
                  replace p623 := eq_true p623
                  replace q623 := eq_true q623
                  go_wp2
                  repeat (go_quiet (fail); try go_wp2)
                  go_ret
                  exact ⟨by first | rfl | (simp; done) | (simp [*]; done), by repeat (first | exact Drawn0.refl _ | apply Drawn0.step)⟩
                · rw [if_neg c8] at H
                  have c8b0 : (!((((rd_T93 l0 x13_1).f0).toList) == (((rd_T93 l1 x13_1).f0).toList)) || (!(((rd_T93 l0 x13_1).f1) == ((rd_T93 l1 x13_1).f1)))) = false := by simpa using c8
                  clear c8
                  have H' := Aside0.mk H
                  clear H
                  have p622 : 0 ≤ (x13_1 : Int) := of_decide_eq_true (by first | (with_reducible assumption) | assumption)
                  have q622 : x13_1 < (l0.length : Int) := of_decide_eq_true (by first | (with_reducible assumption) | assumption)
                  obtain ⟨ad622, e622, hx622_0, hx622_1⟩ := at_T93 HR0.out x13_1 p622 q622
                  cases e622
                  replace p622 := eq_true p622
                  replace q622 := eq_true q622
                  have p623 : 0 ≤ (x13_1 : Int) := of_decide_eq_true (by first | (with_reducible assumption) | assumption)
                  have q623 : x13_1 < (l1.length : Int) := of_decide_eq_true (by first | (with_reducible assumption) | assumption)
                  obtain ⟨ad623, e623, hx623_0, hx623_1⟩ := at_T93 HR1.out x13_1 p623 q623
                  cases e623
                  replace p623 := eq_true p623
                  replace q623 := eq_true q623
                  go_wp2
                  repeat (go_quiet (fail); try go_wp2)
                  go_roundg k1
                  case measure => have := HK1.out; omega
                  case rel => exact ⟨(wrap64 (x13_1 + 1)), (by first | rfl | (simp; done) | (simp [*]; done)), H', ⟨by have := HK1.out; omega⟩, by repeat (first | exact Drawn0.refl _ | apply Drawn0.step)⟩
              · rw [if_neg c7] at H
                exact absurd H (by simp)
            · rw [if_neg c6] at H
              exact absurd H (by simp)
          · rw [if_neg c5] at H
            exact absurd H (by simp)
        · rw [if_neg c4] at H
          have c4b0 : decide (x13_1 < (l0.length : Int)) = false := decide_eq_false c4
          clear c4
          obtain rfl := Option.some.inj H
          go_wp2
          repeat (go_quiet (fail); try go_wp2)
          go_ret
          exact ⟨by first | rfl | (simp; done) | (simp [*]; done), by repeat (first | exact Drawn0.refl _ | apply Drawn0.step)⟩
  · rw [if_neg c3] at H
    have c3b0 : ((l0.length : Int) == (l1.length : Int)) = false := beq_eq_false_iff_ne.mpr c3
    have c3b1 : ((l0.length : Int) != (l1.length : Int)) = true := bne_iff_ne.mpr c3
    have c3b2 : (l0.length == l1.length) = false := by first | simpa using c3 | (simp at c3 ⊢; omega)
    obtain rfl := Option.some.inj H
    go_enter Try.func94, Try.ntmps94
    go_wp2
    repeat (go_quiet (fail); try go_wp2)
    go_ret
    exact ⟨by first | rfl | (simp; done) | (simp [*]; done), by repeat (first | exact Drawn0.refl _ | apply Drawn0.step)⟩

theorem impl_Val_94.is {a b : List S93} (hl : a.length ≤ 9223372036854775807) : Ev (fun k => impl_Val_94.f k a b) (sameVals a b) := by
  refine ev_same (l := fun k i => impl_Val_94.l0 k a b a.length i) (fun k => rfl) ?_ (fun hn i hi r ih => ?_)
  · simp only [impl_Val_94.l0]
    exact Ev.no (by omega) (Ev.now _)
  · simp only [impl_Val_94.l0]
    refine Ev.yes (by omega) (Ev.yes (by omega) (Ev.yes (by omega) (Ev.yes (by omega) ?_)))
    rw [unw (x := (i : Int) + 1) (by omega) (by omega)]
    exact Ev.cond (fun hc => Ev.is (by rw [hc]; rfl)) (fun hc => Ev.to ih (by rw [Bool.eq_false_iff.2 hc]; rfl))

/-! ### impl_SameBlock: function 52 -/
def impl_SameBlock.j0 : Nat → Bool → Int → Int → Int → ByteArray → Int → Int → List ByteArray → Int → List ByteArray → List Int → List (S106) → Bool → List (S93) → ByteArray → Int → Int → Int → ByteArray → Int → Int → List ByteArray → Int → List ByteArray → List Int → List (S106) → Bool → List (S93) → ByteArray → Option (Bool)
  | 0, _, _, _, _, _, _, _, _, _, _, _, _, _, _, _, _, _, _, _, _, _, _, _, _, _, _, _, _, _ => none
  | k + 1, x44, x625000, x625001, x625002, x625003, x625004, x625005, x625006, x625007, x625008, x625009, x625010, x625011, x625012, x625013, x626000, x626001, x626002, x626003, x626004, x626005, x626006, x626007, x626008, x626009, x626010, x626011, x626012, x626013 => if x44 = true then (some false) else ((impl_sameQc.f k x625004 x625005 x625006 x626004 x626005 x626006).bind fun t626 => (if t626 = true then ((impl_sameTc.f k x625007 x625008 x625009 x626007 x626008 x626009).bind fun t627 => (if t627 = true then ((impl_Tx.f k x625010 x626010).bind fun t628 => (if t628 = true then ((impl_Val_94.f k x625012 x626012).bind fun t629 => (some t629)) else (some false))) else (some false))) else (some false)))
def impl_SameBlock.f (k : Nat) (a0_0 : Int) (a0_1 : Int) (a0_2 : Int) (a0_3 : ByteArray) (a0_4 : Int) (a0_5 : Int) (l0_6 : List ByteArray) (a0_7 : Int) (l0_8 : List ByteArray) (l0_9 : List Int) (l0_10 : List (S106)) (a0_11 : Bool) (l0_12 : List (S93)) (a0_13 : ByteArray) (a1_0 : Int) (a1_1 : Int) (a1_2 : Int) (a1_3 : ByteArray) (a1_4 : Int) (a1_5 : Int) (l1_6 : List ByteArray) (a1_7 : Int) (l1_8 : List ByteArray) (l1_9 : List Int) (l1_10 : List (S106)) (a1_11 : Bool) (l1_12 : List (S93)) (a1_13 : ByteArray) : Option (Bool) := if a0_0 = a1_0 then (if a0_1 = a1_1 then (if a0_2 = a1_2 then (if a0_3.toList = a1_3.toList then (if (a0_11 != a1_11) = true then (impl_SameBlock.j0 k true a0_0 a0_1 a0_2 a0_3 a0_4 a0_5 l0_6 a0_7 l0_8 l0_9 l0_10 a0_11 l0_12 a0_13 a1_0 a1_1 a1_2 a1_3 a1_4 a1_5 l1_6 a1_7 l1_8 l1_9 l1_10 a1_11 l1_12 a1_13) else (impl_SameBlock.j0 k (a0_13.toList != a1_13.toList) a0_0 a0_1 a0_2 a0_3 a0_4 a0_5 l0_6 a0_7 l0_8 l0_9 l0_10 a0_11 l0_12 a0_13 a1_0 a1_1 a1_2 a1_3 a1_4 a1_5 l1_6 a1_7 l1_8 l1_9 l1_10 a1_11 l1_12 a1_13)) else (impl_SameBlock.j0 k true a0_0 a0_1 a0_2 a0_3 a0_4 a0_5 l0_6 a0_7 l0_8 l0_9 l0_10 a0_11 l0_12 a0_13 a1_0 a1_1 a1_2 a1_3 a1_4 a1_5 l1_6 a1_7 l1_8 l1_9 l1_10 a1_11 l1_12 a1_13)) else (impl_SameBlock.j0 k true a0_0 a0_1 a0_2 a0_3 a0_4 a0_5 l0_6 a0_7 l0_8 l0_9 l0_10 a0_11 l0_12 a0_13 a1_0 a1_1 a1_2 a1_3 a1_4 a1_5 l1_6 a1_7 l1_8 l1_9 l1_10 a1_11 l1_12 a1_13)) else (impl_SameBlock.j0 k true a0_0 a0_1 a0_2 a0_3 a0_4 a0_5 l0_6 a0_7 l0_8 l0_9 l0_10 a0_11 l0_12 a0_13 a1_0 a1_1 a1_2 a1_3 a1_4 a1_5 l1_6 a1_7 l1_8 l1_9 l1_10 a1_11 l1_12 a1_13)) else (impl_SameBlock.j0 k true a0_0 a0_1 a0_2 a0_3 a0_4 a0_5 l0_6 a0_7 l0_8 l0_9 l0_10 a0_11 l0_12 a0_13 a1_0 a1_1 a1_2 a1_3 a1_4 a1_5 l1_6 a1_7 l1_8 l1_9 l1_10 a1_11 l1_12 a1_13)
theorem impl_SameBlock.mono_l : ∀ k, (∀ y0 y1 y2 y3 y4 y5 y6 y7 y8 y9 y10 y11 y12 y13 y14 y15 y16 y17 y18 y19 y20 y21 y22 y23 y24 y25 y26 y27 y28, LeO (impl_SameBlock.j0 k y0 y1 y2 y3 y4 y5 y6 y7 y8 y9 y10 y11 y12 y13 y14 y15 y16 y17 y18 y19 y20 y21 y22 y23 y24 y25 y26 y27 y28) (impl_SameBlock.j0 (k + 1) y0 y1 y2 y3 y4 y5 y6 y7 y8 y9 y10 y11 y12 y13 y14 y15 y16 y17 y18 y19 y20 y21 y22 y23 y24 y25 y26 y27 y28))
  | 0 => fun _ _ _ _ _ _ _ _ _ _ _ _ _ _ _ _ _ _ _ _ _ _ _ _ _ _ _ _ _ r h => by simp [impl_SameBlock.j0] at h
  | k + 1 => by
    have ih0 := impl_SameBlock.mono_l k
    · intro y0 y1 y2 y3 y4 y5 y6 y7 y8 y9 y10 y11 y12 y13 y14 y15 y16 y17 y18 y19 y20 y21 y22 y23 y24 y25 y26 y27 y28
      unfold impl_SameBlock.j0
      repeat' first
      | (with_reducible exact ih0 _ _ _ _ _ _ _ _ _ _ _ _ _ _ _ _ _ _ _ _ _ _ _ _ _ _ _ _ _)
      | (with_reducible exact impl_Tx.mono _ _ _)
      | (with_reducible exact impl_Val_94.mono _ _ _)
      | (with_reducible exact impl_sameQc.mono _ _ _ _ _ _ _)
      | (with_reducible exact impl_sameTc.mono _ _ _ _ _ _ _)
      | (with_reducible exact LeO.refl _)
      | (with_reducible exact LeO.none _)
      | (with_reducible refine LeO.ite ?_ ?_)
      | (with_reducible refine LeO.bind ?_ (fun _ => ?_))
      | exact ih0 _ _ _ _ _ _ _ _ _ _ _ _ _ _ _ _ _ _ _ _ _ _ _ _ _ _ _ _ _
      | exact impl_Tx.mono _ _ _
      | exact impl_Val_94.mono _ _ _
      | exact impl_sameQc.mono _ _ _ _ _ _ _
      | exact impl_sameTc.mono _ _ _ _ _ _ _
      | exact LeO.none _
      | refine LeO.ite ?_ ?_
      | refine LeO.bind ?_ (fun _ => ?_)
theorem impl_SameBlock.mono : ∀ a0 a1 a2 a3 a4 a5 a6 a7 a8 a9 a10 a11 a12 a13 a14 a15 a16 a17 a18 a19 a20 a21 a22 a23 a24 a25 a26 a27 k, LeO (impl_SameBlock.f k a0 a1 a2 a3 a4 a5 a6 a7 a8 a9 a10 a11 a12 a13 a14 a15 a16 a17 a18 a19 a20 a21 a22 a23 a24 a25 a26 a27) (impl_SameBlock.f (k + 1) a0 a1 a2 a3 a4 a5 a6 a7 a8 a9 a10 a11 a12 a13 a14 a15 a16 a17 a18 a19 a20 a21 a22 a23 a24 a25 a26 a27) := by
  intro a0 a1 a2 a3 a4 a5 a6 a7 a8 a9 a10 a11 a12 a13 a14 a15 a16 a17 a18 a19 a20 a21 a22 a23 a24 a25 a26 a27 k
  have ih0 := impl_SameBlock.mono_l k
  unfold impl_SameBlock.f
  repeat' first
      | (with_reducible exact ih0 _ _ _ _ _ _ _ _ _ _ _ _ _ _ _ _ _ _ _ _ _ _ _ _ _ _ _ _ _)
      | (with_reducible exact impl_Tx.mono _ _ _)
      | (with_reducible exact impl_Val_94.mono _ _ _)
      | (with_reducible exact impl_sameQc.mono _ _ _ _ _ _ _)
      | (with_reducible exact impl_sameTc.mono _ _ _ _ _ _ _)
      | (with_reducible exact LeO.refl _)
      | (with_reducible exact LeO.none _)
      | (with_reducible refine LeO.ite ?_ ?_)
      | (with_reducible refine LeO.bind ?_ (fun _ => ?_))
      | exact ih0 _ _ _ _ _ _ _ _ _ _ _ _ _ _ _ _ _ _ _ _ _ _ _ _ _ _ _ _ _
      | exact impl_Tx.mono _ _ _
      | exact impl_Val_94.mono _ _ _
      | exact impl_sameQc.mono _ _ _ _ _ _ _
      | exact impl_sameTc.mono _ _ _ _ _ _ _
      | exact LeO.none _
      | refine LeO.ite ?_ ?_
      | refine LeO.bind ?_ (fun _ => ?_)
set_option maxHeartbeats 8000000 in
set_option maxRecDepth 100000 in
theorem impl_SameBlock.calls (k : Nat) (a0_0 : Int) (a0_1 : Int) (a0_2 : Int) (a0_3 : ByteArray) (a0_4 : Int) (a0_5 : Int) (A0_6 : Option Addr) (c0_6 : Nat) (l0_6 : List ByteArray) (a0_7 : Int) (A0_8 : Option Addr) (c0_8 : Nat) (l0_8 : List ByteArray) (A0_9 : Option Addr) (c0_9 : Nat) (l0_9 : List Int) (A0_10 : Option Addr) (c0_10 : Nat) (l0_10 : List (S106)) (a0_11 : Bool) (A0_12 : Option Addr) (c0_12 : Nat) (l0_12 : List (S93)) (a0_13 : ByteArray) (a1_0 : Int) (a1_1 : Int) (a1_2 : Int) (a1_3 : ByteArray) (a1_4 : Int) (a1_5 : Int) (A1_6 : Option Addr) (c1_6 : Nat) (l1_6 : List ByteArray) (a1_7 : Int) (A1_8 : Option Addr) (c1_8 : Nat) (l1_8 : List ByteArray) (A1_9 : Option Addr) (c1_9 : Nat) (l1_9 : List Int) (A1_10 : Option Addr) (c1_10 : Nat) (l1_10 : List (S106)) (a1_11 : Bool) (A1_12 : Option Addr) (c1_12 : Nat) (l1_12 : List (S93)) (a1_13 : ByteArray) (r : Bool) (w : World) (hr0_6 : Kd.C Kd.string w A0_6 l0_6.length l0_6) (hc0_6 : l0_6.length ≤ c0_6) (hr0_8 : Kd.C Kd.string w A0_8 l0_8.length l0_8) (hc0_8 : l0_8.length ≤ c0_8) (hr0_9 : Kd.C (Kd.int .i64) w A0_9 l0_9.length l0_9) (hc0_9 : l0_9.length ≤ c0_9) (hr0_10 : Kd.C k106 w A0_10 l0_10.length l0_10) (hc0_10 : l0_10.length ≤ c0_10) (hr0_12 : Kd.C k93 w A0_12 l0_12.length l0_12) (hc0_12 : l0_12.length ≤ c0_12) (hr1_6 : Kd.C Kd.string w A1_6 l1_6.length l1_6) (hc1_6 : l1_6.length ≤ c1_6) (hr1_8 : Kd.C Kd.string w A1_8 l1_8.length l1_8) (hc1_8 : l1_8.length ≤ c1_8) (hr1_9 : Kd.C (Kd.int .i64) w A1_9 l1_9.length l1_9) (hc1_9 : l1_9.length ≤ c1_9) (hr1_10 : Kd.C k106 w A1_10 l1_10.length l1_10) (hc1_10 : l1_10.length ≤ c1_10) (hr1_12 : Kd.C k93 w A1_12 l1_12.length l1_12) (hc1_12 : l1_12.length ≤ c1_12) (h : impl_SameBlock.f k a0_0 a0_1 a0_2 a0_3 a0_4 a0_5 l0_6 a0_7 l0_8 l0_9 l0_10 a0_11 l0_12 a0_13 a1_0 a1_1 a1_2 a1_3 a1_4 a1_5 l1_6 a1_7 l1_8 l1_9 l1_10 a1_11 l1_12 a1_13 = some r) :
    Calls Try.prog 52 #[.agg #[.int .i64 a0_0, .int .i64 a0_1, .int .i64 a0_2, .string a0_3, .int .i64 a0_4, .int .i64 a0_5, .slice A0_6 l0_6.length c0_6, .int .i64 a0_7, .slice A0_8 l0_8.length c0_8, .slice A0_9 l0_9.length c0_9, .slice A0_10 l0_10.length c0_10, .bool a0_11, .slice A0_12 l0_12.length c0_12, .string a0_13], .agg #[.int .i64 a1_0, .int .i64 a1_1, .int .i64 a1_2, .string a1_3, .int .i64 a1_4, .int .i64 a1_5, .slice A1_6 l1_6.length c1_6, .int .i64 a1_7, .slice A1_8 l1_8.length c1_8, .slice A1_9 l1_9.length c1_9, .slice A1_10 l1_10.length c1_10, .bool a1_11, .slice A1_12 l1_12.length c1_12, .string a1_13]] w fun e w' => e = .returned (.bool r) ∧ Below w.heap.size w w' := by
  have hu68 := Try.underlying68
  have hu57 := Try.underlying57
  have hu36 := Try.underlying36
  have HR0_6 := Aside0.mk hr0_6
  have HC0_6 := Aside0.mk hc0_6
  clear hr0_6 hc0_6
  have HR0_8 := Aside0.mk hr0_8
  have HC0_8 := Aside0.mk hc0_8
  clear hr0_8 hc0_8
  have HR0_9 := Aside0.mk hr0_9
  have HC0_9 := Aside0.mk hc0_9
  clear hr0_9 hc0_9
  have HR0_10 := Aside0.mk hr0_10
  have HC0_10 := Aside0.mk hc0_10
  clear hr0_10 hc0_10
  have HR0_12 := Aside0.mk hr0_12
  have HC0_12 := Aside0.mk hc0_12
  clear hr0_12 hc0_12
  have HR1_6 := Aside0.mk hr1_6
  have HC1_6 := Aside0.mk hc1_6
  clear hr1_6 hc1_6
  have HR1_8 := Aside0.mk hr1_8
  have HC1_8 := Aside0.mk hc1_8
  clear hr1_8 hc1_8
  have HR1_9 := Aside0.mk hr1_9
  have HC1_9 := Aside0.mk hc1_9
  clear hr1_9 hc1_9
  have HR1_10 := Aside0.mk hr1_10
  have HC1_10 := Aside0.mk hc1_10
  clear hr1_10 hc1_10
  have HR1_12 := Aside0.mk hr1_12
  have HC1_12 := Aside0.mk hc1_12
  clear hr1_12 hc1_12
  have HB := Aside0.mk (Below.refl w.heap.size w)
  have H : (if a0_0 = a1_0 then (if a0_1 = a1_1 then (if a0_2 = a1_2 then (if a0_3.toList = a1_3.toList then (if (a0_11 != a1_11) = true then (impl_SameBlock.j0 k true a0_0 a0_1 a0_2 a0_3 a0_4 a0_5 l0_6 a0_7 l0_8 l0_9 l0_10 a0_11 l0_12 a0_13 a1_0 a1_1 a1_2 a1_3 a1_4 a1_5 l1_6 a1_7 l1_8 l1_9 l1_10 a1_11 l1_12 a1_13) else (impl_SameBlock.j0 k (a0_13.toList != a1_13.toList) a0_0 a0_1 a0_2 a0_3 a0_4 a0_5 l0_6 a0_7 l0_8 l0_9 l0_10 a0_11 l0_12 a0_13 a1_0 a1_1 a1_2 a1_3 a1_4 a1_5 l1_6 a1_7 l1_8 l1_9 l1_10 a1_11 l1_12 a1_13)) else (impl_SameBlock.j0 k true a0_0 a0_1 a0_2 a0_3 a0_4 a0_5 l0_6 a0_7 l0_8 l0_9 l0_10 a0_11 l0_12 a0_13 a1_0 a1_1 a1_2 a1_3 a1_4 a1_5 l1_6 a1_7 l1_8 l1_9 l1_10 a1_11 l1_12 a1_13)) else (impl_SameBlock.j0 k true a0_0 a0_1 a0_2 a0_3 a0_4 a0_5 l0_6 a0_7 l0_8 l0_9 l0_10 a0_11 l0_12 a0_13 a1_0 a1_1 a1_2 a1_3 a1_4 a1_5 l1_6 a1_7 l1_8 l1_9 l1_10 a1_11 l1_12 a1_13)) else (impl_SameBlock.j0 k true a0_0 a0_1 a0_2 a0_3 a0_4 a0_5 l0_6 a0_7 l0_8 l0_9 l0_10 a0_11 l0_12 a0_13 a1_0 a1_1 a1_2 a1_3 a1_4 a1_5 l1_6 a1_7 l1_8 l1_9 l1_10 a1_11 l1_12 a1_13)) else (impl_SameBlock.j0 k true a0_0 a0_1 a0_2 a0_3 a0_4 a0_5 l0_6 a0_7 l0_8 l0_9 l0_10 a0_11 l0_12 a0_13 a1_0 a1_1 a1_2 a1_3 a1_4 a1_5 l1_6 a1_7 l1_8 l1_9 l1_10 a1_11 l1_12 a1_13)) = some r := h
  clear h
  have HC3 := Aside0.mk H
  clear H
  go_enter Try.func52, Try.ntmps52
  go_upto_region 1 with (first | ((with_reducible refine gate_dst (N := 2) rfl ?_); refine box_event ?hg (N := 2) ?hd (cs := #[.int .i64 a0_0, .int .i64 a0_1, .int .i64 a0_2, .string a0_3, .int .i64 a0_4, .int .i64 a0_5, .slice A0_6 l0_6.length c0_6, .int .i64 a0_7, .slice A0_8 l0_8.length c0_8, .slice A0_9 l0_9.length c0_9, .slice A0_10 l0_10.length c0_10, .bool a0_11, .slice A0_12 l0_12.length c0_12, .string a0_13]) (t := 68) ?hr ?_; (case hd => rfl); (case hg => rfl); (case hr => first | (go_simp; done) | (go_simp; rfl)); intro gb624 hg w4 hbox hb; have n0_ := Aside0.mk (below_step (by repeat (first | (with_reducible first | exact HB.out | apply below_alloc | apply pw_below_drewN | apply below_drew1) | exact HB.out)) hb); have n1_ := Aside0.mk (hbox); have n2_ := Aside0.mk ((by rw [hg]; exact (below_size (by repeat (first | (with_reducible first | exact HB.out | apply below_alloc | apply pw_below_drewN | apply below_drew1) | exact HB.out))) : w.heap.size ≤ gb624)); have n3_ := n2_; clear HB; have HB := n0_; have BK624 := n1_; have GW624 := n2_; have GE624 := n3_; clear n0_ n1_ n2_ n3_; clear hb hbox hg) | ((with_reducible refine gate_dst (N := 3) rfl ?_); refine box_event ?hg (N := 3) ?hd (cs := #[.int .i64 a1_0, .int .i64 a1_1, .int .i64 a1_2, .string a1_3, .int .i64 a1_4, .int .i64 a1_5, .slice A1_6 l1_6.length c1_6, .int .i64 a1_7, .slice A1_8 l1_8.length c1_8, .slice A1_9 l1_9.length c1_9, .slice A1_10 l1_10.length c1_10, .bool a1_11, .slice A1_12 l1_12.length c1_12, .string a1_13]) (t := 68) ?hr ?_; (case hd => rfl); (case hg => rfl); (case hr => first | (go_simp; done) | (go_simp; rfl)); intro gb625 hg w5 hbox hb; have n0_ := Aside0.mk (blk_below (g := gb624) (by (with_reducible repeat (first | refine blk_drewN ?_ _ | refine blk_drew ?_ | refine blk_alloc ?_ _)); exact BK624.out) hb); have n1_ := Aside0.mk (below_step (by repeat (first | (with_reducible first | exact HB.out | apply below_alloc | apply pw_below_drewN | apply below_drew1 | refine below_set ?_ GE624.out) | exact HB.out)) hb); have n2_ := Aside0.mk (hbox); have n3_ := Aside0.mk ((by rw [hg]; exact (below_size (by repeat (first | (with_reducible first | exact HB.out | apply below_alloc | apply pw_below_drewN | apply below_drew1 | refine below_set ?_ GE624.out) | exact HB.out))) : w.heap.size ≤ gb625)); have n4_ := Aside0.mk ((by rw [hg]; exact (below_size (by repeat (first | (with_reducible first | exact HB.out | apply below_alloc | apply pw_below_drewN | apply below_drew1 | refine below_set ?_ GE624.out) | exact HB.out))) : w.heap.size ≤ gb625)); have n5_ := Aside0.mk ((by rw [hg]; exact Nat.ne_of_lt (blk_lt (g := gb624) (o := .cells #[.int .i64 a0_0, .int .i64 a0_1, .int .i64 a0_2, .string a0_3, .int .i64 a0_4, .int .i64 a0_5, .slice A0_6 l0_6.length c0_6, .int .i64 a0_7, .slice A0_8 l0_8.length c0_8, .slice A0_9 l0_9.length c0_9, .slice A0_10 l0_10.length c0_10, .bool a0_11, .slice A0_12 l0_12.length c0_12, .string a0_13] 68 (0, 0)) (by (with_reducible repeat (first | refine blk_drewN ?_ _ | refine blk_drew ?_ | refine blk_alloc ?_ _)); exact BK624.out)) : gb624 ≠ gb625)); have n6_ := Aside0.mk ((by rw [hg]; exact Nat.ne_of_gt (blk_lt (g := gb624) (o := .cells #[.int .i64 a0_0, .int .i64 a0_1, .int .i64 a0_2, .string a0_3, .int .i64 a0_4, .int .i64 a0_5, .slice A0_6 l0_6.length c0_6, .int .i64 a0_7, .slice A0_8 l0_8.length c0_8, .slice A0_9 l0_9.length c0_9, .slice A0_10 l0_10.length c0_10, .bool a0_11, .slice A0_12 l0_12.length c0_12, .string a0_13] 68 (0, 0)) (by (with_reducible repeat (first | refine blk_drewN ?_ _ | refine blk_drew ?_ | refine blk_alloc ?_ _)); exact BK624.out)) : gb625 ≠ gb624)); clear BK624; clear HB; have BK624 := n0_; have HB := n1_; have BK625 := n2_; have GW625 := n3_; have GE625 := n4_; have NB624_625 := n5_; have NB625_624 := n6_; clear n0_ n1_ n2_ n3_ n4_ n5_ n6_; clear hb hbox hg))
  (try simp only [Act.put, List.setIfInBounds_toArray, List.set_cons_zero, List.set_cons_succ])
  go_cut [44] (fun v44 wc => ∃ (kq : Nat) (x44_2 : Bool), v44 = .bool x44_2 ∧ Aside0 (impl_SameBlock.j0 kq x44_2 a0_0 a0_1 a0_2 a0_3 a0_4 a0_5 l0_6 a0_7 l0_8 l0_9 l0_10 a0_11 l0_12 a0_13 a1_0 a1_1 a1_2 a1_3 a1_4 a1_5 l1_6 a1_7 l1_8 l1_9 l1_10 a1_11 l1_12 a1_13 = some r) ∧ Aside0 (kq ≤ k) ∧ Aside0 (wc.heap[gb624]? = some (.cells #[.int .i64 a0_0, .int .i64 a0_1, .int .i64 a0_2, .string a0_3, .int .i64 a0_4, .int .i64 a0_5, (.slice A0_6 l0_6.length c0_6), .int .i64 a0_7, (.slice A0_8 l0_8.length c0_8), (.slice A0_9 l0_9.length c0_9), (.slice A0_10 l0_10.length c0_10), .bool a0_11, (.slice A0_12 l0_12.length c0_12), .string a0_13] 68 (0, 0))) ∧ Aside0 (wc.heap[gb625]? = some (.cells #[.int .i64 a1_0, .int .i64 a1_1, .int .i64 a1_2, .string a1_3, .int .i64 a1_4, .int .i64 a1_5, (.slice A1_6 l1_6.length c1_6), .int .i64 a1_7, (.slice A1_8 l1_8.length c1_8), (.slice A1_9 l1_9.length c1_9), (.slice A1_10 l1_10.length c1_10), .bool a1_11, (.slice A1_12 l1_12.length c1_12), .string a1_13] 68 (0, 0))) ∧ Aside0 (Below w.heap.size w wc))
  case first =>
    have H := HC3.out
    clear HC3
    by_cases c6 : a0_0 = a1_0
    · rw [if_pos c6] at H
      have c6b0 : (a0_0 == a1_0) = true := beq_iff_eq.mpr c6
      have c6b1 : (a0_0 != a1_0) = false := bne_eq_false_iff_eq.mpr c6
      clear c6
      (first | rw [c6b0] | (simp only [i64_w, i32_w]; rw [c6b0]) | skip)
      by_cases c7 : a0_1 = a1_1
      · rw [if_pos c7] at H
        have c7b0 : (a0_1 == a1_1) = true := beq_iff_eq.mpr c7
        have c7b1 : (a0_1 != a1_1) = false := bne_eq_false_iff_eq.mpr c7
        clear c7
        by_cases c8 : a0_2 = a1_2
        · rw [if_pos c8] at H
          have c8b0 : (a0_2 == a1_2) = true := beq_iff_eq.mpr c8
          have c8b1 : (a0_2 != a1_2) = false := bne_eq_false_iff_eq.mpr c8
          clear c8
          by_cases c9 : a0_3.toList = a1_3.toList
          · rw [if_pos c9] at H
            have c9b0 : (a0_3.toList == a1_3.toList) = true := beq_iff_eq.mpr c9
            have c9b1 : (a0_3.toList != a1_3.toList) = false := bne_eq_false_iff_eq.mpr c9
            clear c9
            by_cases c10 : (a0_11 != a1_11) = true
            · rw [if_pos c10] at H
              have c10b0 : (a0_11 != a1_11) = true := c10
              (try (have c10b1 : decide (a0_11 = a1_11) = false := by simpa using c10))
              (try (have c10b2 : (a0_11 == a1_11) = false := by simpa using c10))
              (try (have c10b3 : ¬ (a0_11 = a1_11) := by simpa using c10))
              clear c10
              have H' := Aside0.mk H
              clear H
              have hnb11 := NB624_625.out
              have hnc11 := NB625_624.out
              obtain ⟨hcz12_0, hcz12_1, hcz12_2, hcz12_3, hcz12_4, hcz12_5, hcz12_6, hcz12_7, hcz12_8, hcz12_9, hcz12_10, hcz12_11, hcz12_12, hcz12_13⟩ := cells14 BK624.out
              obtain ⟨hfz12_0, hfz12_1, hfz12_2, hfz12_3, hfz12_4, hfz12_5, hfz12_6, hfz12_7, hfz12_8, hfz12_9, hfz12_10, hfz12_11, hfz12_12, hfz12_13⟩ := frozens14 BK624.out
              obtain ⟨hcz13_0, hcz13_1, hcz13_2, hcz13_3, hcz13_4, hcz13_5, hcz13_6, hcz13_7, hcz13_8, hcz13_9, hcz13_10, hcz13_11, hcz13_12, hcz13_13⟩ := cells14 BK625.out
              obtain ⟨hfz13_0, hfz13_1, hfz13_2, hfz13_3, hfz13_4, hfz13_5, hfz13_6, hfz13_7, hfz13_8, hfz13_9, hfz13_10, hfz13_11, hfz13_12, hfz13_13⟩ := frozens14 BK625.out
              go_wp2
              go_meet
              case rel => exact ⟨_, (true), (by first | rfl | (simp; done) | (simp [*]; done)), H', ⟨by first | omega | exact Nat.le_refl _⟩, ⟨by (with_reducible repeat (first | refine blk_drewN ?_ _ | refine blk_drew ?_ | refine blk_alloc ?_ _)); exact BK624.out⟩, ⟨by (with_reducible repeat (first | refine blk_drewN ?_ _ | refine blk_drew ?_ | refine blk_alloc ?_ _)); exact BK625.out⟩, ⟨by repeat (first | (with_reducible first | exact HB.out | apply below_alloc | apply pw_below_drewN | apply below_drew1 | refine below_set ?_ GE624.out | refine below_set ?_ GE625.out) | exact HB.out)⟩⟩
            · rw [if_neg c10] at H
              have c10b0 : (a0_11 != a1_11) = false := by simpa using c10
              (try (have c10b1 : decide (a0_11 = a1_11) = true := by simpa using c10))
              (try (have c10b2 : (a0_11 == a1_11) = true := by simpa using c10))
              clear c10
              have H' := Aside0.mk H
              clear H
              have hnb14 := NB624_625.out
              have hnc14 := NB625_624.out
              obtain ⟨hcz15_0, hcz15_1, hcz15_2, hcz15_3, hcz15_4, hcz15_5, hcz15_6, hcz15_7, hcz15_8, hcz15_9, hcz15_10, hcz15_11, hcz15_12, hcz15_13⟩ := cells14 BK624.out
              obtain ⟨hfz15_0, hfz15_1, hfz15_2, hfz15_3, hfz15_4, hfz15_5, hfz15_6, hfz15_7, hfz15_8, hfz15_9, hfz15_10, hfz15_11, hfz15_12, hfz15_13⟩ := frozens14 BK624.out
              obtain ⟨hcz16_0, hcz16_1, hcz16_2, hcz16_3, hcz16_4, hcz16_5, hcz16_6, hcz16_7, hcz16_8, hcz16_9, hcz16_10, hcz16_11, hcz16_12, hcz16_13⟩ := cells14 BK625.out
              obtain ⟨hfz16_0, hfz16_1, hfz16_2, hfz16_3, hfz16_4, hfz16_5, hfz16_6, hfz16_7, hfz16_8, hfz16_9, hfz16_10, hfz16_11, hfz16_12, hfz16_13⟩ := frozens14 BK625.out
              go_wp2
              go_meet
              case rel => exact ⟨_, ((a0_13.toList != a1_13.toList)), (by first | rfl | (simp; done) | (simp [*]; done)), H', ⟨by first | omega | exact Nat.le_refl _⟩, ⟨by (with_reducible repeat (first | refine blk_drewN ?_ _ | refine blk_drew ?_ | refine blk_alloc ?_ _)); exact BK624.out⟩, ⟨by (with_reducible repeat (first | refine blk_drewN ?_ _ | refine blk_drew ?_ | refine blk_alloc ?_ _)); exact BK625.out⟩, ⟨by repeat (first | (with_reducible first | exact HB.out | apply below_alloc | apply pw_below_drewN | apply below_drew1 | refine below_set ?_ GE624.out | refine below_set ?_ GE625.out) | exact HB.out)⟩⟩
          · rw [if_neg c9] at H
            have c9b0 : (a0_3.toList == a1_3.toList) = false := beq_eq_false_iff_ne.mpr c9
            have c9b1 : (a0_3.toList != a1_3.toList) = true := bne_iff_ne.mpr c9
            have H' := Aside0.mk H
            clear H
            have hnb17 := NB624_625.out
            have hnc17 := NB625_624.out
            obtain ⟨hcz18_0, hcz18_1, hcz18_2, hcz18_3, hcz18_4, hcz18_5, hcz18_6, hcz18_7, hcz18_8, hcz18_9, hcz18_10, hcz18_11, hcz18_12, hcz18_13⟩ := cells14 BK624.out
            obtain ⟨hfz18_0, hfz18_1, hfz18_2, hfz18_3, hfz18_4, hfz18_5, hfz18_6, hfz18_7, hfz18_8, hfz18_9, hfz18_10, hfz18_11, hfz18_12, hfz18_13⟩ := frozens14 BK624.out
            obtain ⟨hcz19_0, hcz19_1, hcz19_2, hcz19_3, hcz19_4, hcz19_5, hcz19_6, hcz19_7, hcz19_8, hcz19_9, hcz19_10, hcz19_11, hcz19_12, hcz19_13⟩ := cells14 BK625.out
            obtain ⟨hfz19_0, hfz19_1, hfz19_2, hfz19_3, hfz19_4, hfz19_5, hfz19_6, hfz19_7, hfz19_8, hfz19_9, hfz19_10, hfz19_11, hfz19_12, hfz19_13⟩ := frozens14 BK625.out
            go_wp2
            go_meet
            case rel => exact ⟨_, (true), (by first | rfl | (simp; done) | (simp [*]; done)), H', ⟨by first | omega | exact Nat.le_refl _⟩, ⟨by (with_reducible repeat (first | refine blk_drewN ?_ _ | refine blk_drew ?_ | refine blk_alloc ?_ _)); exact BK624.out⟩, ⟨by (with_reducible repeat (first | refine blk_drewN ?_ _ | refine blk_drew ?_ | refine blk_alloc ?_ _)); exact BK625.out⟩, ⟨by repeat (first | (with_reducible first | exact HB.out | apply below_alloc | apply pw_below_drewN | apply below_drew1 | refine below_set ?_ GE624.out | refine below_set ?_ GE625.out) | exact HB.out)⟩⟩
        · rw [if_neg c8] at H
          have c8b0 : (a0_2 == a1_2) = false := beq_eq_false_iff_ne.mpr c8
          have c8b1 : (a0_2 != a1_2) = true := bne_iff_ne.mpr c8
          have H' := Aside0.mk H
          clear H
          have hnb20 := NB624_625.out
          have hnc20 := NB625_624.out
          obtain ⟨hcz21_0, hcz21_1, hcz21_2, hcz21_3, hcz21_4, hcz21_5, hcz21_6, hcz21_7, hcz21_8, hcz21_9, hcz21_10, hcz21_11, hcz21_12, hcz21_13⟩ := cells14 BK624.out
          obtain ⟨hfz21_0, hfz21_1, hfz21_2, hfz21_3, hfz21_4, hfz21_5, hfz21_6, hfz21_7, hfz21_8, hfz21_9, hfz21_10, hfz21_11, hfz21_12, hfz21_13⟩ := frozens14 BK624.out
          obtain ⟨hcz22_0, hcz22_1, hcz22_2, hcz22_3, hcz22_4, hcz22_5, hcz22_6, hcz22_7, hcz22_8, hcz22_9, hcz22_10, hcz22_11, hcz22_12, hcz22_13⟩ := cells14 BK625.out
          obtain ⟨hfz22_0, hfz22_1, hfz22_2, hfz22_3, hfz22_4, hfz22_5, hfz22_6, hfz22_7, hfz22_8, hfz22_9, hfz22_10, hfz22_11, hfz22_12, hfz22_13⟩ := frozens14 BK625.out
          go_wp2
          go_meet
          case rel => exact ⟨_, (true), (by first | rfl | (simp; done) | (simp [*]; done)), H', ⟨by first | omega | exact Nat.le_refl _⟩, ⟨by (with_reducible repeat (first | refine blk_drewN ?_ _ | refine blk_drew ?_ | refine blk_alloc ?_ _)); exact BK624.out⟩, ⟨by (with_reducible repeat (first | refine blk_drewN ?_ _ | refine blk_drew ?_ | refine blk_alloc ?_ _)); exact BK625.out⟩, ⟨by repeat (first | (with_reducible first | exact HB.out | apply below_alloc | apply pw_below_drewN | apply below_drew1 | refine below_set ?_ GE624.out | refine below_set ?_ GE625.out) | exact HB.out)⟩⟩
      · rw [if_neg c7] at H
        have c7b0 : (a0_1 == a1_1) = false := beq_eq_false_iff_ne.mpr c7
        have c7b1 : (a0_1 != a1_1) = true := bne_iff_ne.mpr c7
        have H' := Aside0.mk H
        clear H
        have hnb23 := NB624_625.out
        have hnc23 := NB625_624.out
        obtain ⟨hcz24_0, hcz24_1, hcz24_2, hcz24_3, hcz24_4, hcz24_5, hcz24_6, hcz24_7, hcz24_8, hcz24_9, hcz24_10, hcz24_11, hcz24_12, hcz24_13⟩ := cells14 BK624.out
        obtain ⟨hfz24_0, hfz24_1, hfz24_2, hfz24_3, hfz24_4, hfz24_5, hfz24_6, hfz24_7, hfz24_8, hfz24_9, hfz24_10, hfz24_11, hfz24_12, hfz24_13⟩ := frozens14 BK624.out
        obtain ⟨hcz25_0, hcz25_1, hcz25_2, hcz25_3, hcz25_4, hcz25_5, hcz25_6, hcz25_7, hcz25_8, hcz25_9, hcz25_10, hcz25_11, hcz25_12, hcz25_13⟩ := cells14 BK625.out
        obtain ⟨hfz25_0, hfz25_1, hfz25_2, hfz25_3, hfz25_4, hfz25_5, hfz25_6, hfz25_7, hfz25_8, hfz25_9, hfz25_10, hfz25_11, hfz25_12, hfz25_13⟩ := frozens14 BK625.out
        go_wp2
        go_meet
        case rel => exact ⟨_, (true), (by first | rfl | (simp; done) | (simp [*]; done)), H', ⟨by first | omega | exact Nat.le_refl _⟩, ⟨by (with_reducible repeat (first | refine blk_drewN ?_ _ | refine blk_drew ?_ | refine blk_alloc ?_ _)); exact BK624.out⟩, ⟨by (with_reducible repeat (first | refine blk_drewN ?_ _ | refine blk_drew ?_ | refine blk_alloc ?_ _)); exact BK625.out⟩, ⟨by repeat (first | (with_reducible first | exact HB.out | apply below_alloc | apply pw_below_drewN | apply below_drew1 | refine below_set ?_ GE624.out | refine below_set ?_ GE625.out) | exact HB.out)⟩⟩
    · rw [if_neg c6] at H
      have c6b0 : (a0_0 == a1_0) = false := beq_eq_false_iff_ne.mpr c6
      have c6b1 : (a0_0 != a1_0) = true := bne_iff_ne.mpr c6
      (first | rw [c6b0] | (simp only [i64_w, i32_w]; rw [c6b0]) | skip)
      have H' := Aside0.mk H
      clear H
      have hnb26 := NB624_625.out
      have hnc26 := NB625_624.out
      obtain ⟨hcz27_0, hcz27_1, hcz27_2, hcz27_3, hcz27_4, hcz27_5, hcz27_6, hcz27_7, hcz27_8, hcz27_9, hcz27_10, hcz27_11, hcz27_12, hcz27_13⟩ := cells14 BK624.out
      obtain ⟨hfz27_0, hfz27_1, hfz27_2, hfz27_3, hfz27_4, hfz27_5, hfz27_6, hfz27_7, hfz27_8, hfz27_9, hfz27_10, hfz27_11, hfz27_12, hfz27_13⟩ := frozens14 BK624.out
      obtain ⟨hcz28_0, hcz28_1, hcz28_2, hcz28_3, hcz28_4, hcz28_5, hcz28_6, hcz28_7, hcz28_8, hcz28_9, hcz28_10, hcz28_11, hcz28_12, hcz28_13⟩ := cells14 BK625.out
      obtain ⟨hfz28_0, hfz28_1, hfz28_2, hfz28_3, hfz28_4, hfz28_5, hfz28_6, hfz28_7, hfz28_8, hfz28_9, hfz28_10, hfz28_11, hfz28_12, hfz28_13⟩ := frozens14 BK625.out
      go_wp2
      go_meet
      case rel => exact ⟨_, (true), (by first | rfl | (simp; done) | (simp [*]; done)), H', ⟨by first | omega | exact Nat.le_refl _⟩, ⟨by (with_reducible repeat (first | refine blk_drewN ?_ _ | refine blk_drew ?_ | refine blk_alloc ?_ _)); exact BK624.out⟩, ⟨by (with_reducible repeat (first | refine blk_drewN ?_ _ | refine blk_drew ?_ | refine blk_alloc ?_ _)); exact BK625.out⟩, ⟨by repeat (first | (with_reducible first | exact HB.out | apply below_alloc | apply pw_below_drewN | apply below_drew1 | refine below_set ?_ GE624.out | refine below_set ?_ GE625.out) | exact HB.out)⟩⟩
  case rest =>
    clear HC3
    try clear c1
    try clear c2
    try clear p2
    try clear c5
    try clear c6
    try clear c6b0
    try clear c6b1
    try clear c7
    try clear c7b0
    try clear c7b1
    try clear c8
    try clear c8b0
    try clear c8b1
    try clear c9
    try clear c9b0
    try clear c9b1
    try clear c10
    try clear c10b0
    try clear c10b1
    try clear c10b2
    try clear c11
    try clear c14
    try clear c17
    try clear c20
    try clear c23
    try clear c26
    try clear hcz12_0
    try clear hcz12_1
    try clear hcz12_10
    try clear hcz12_11
    try clear hcz12_12
    try clear hcz12_13
    try clear hcz12_2
    try clear hcz12_3
    try clear hcz12_4
    try clear hcz12_5
    try clear hcz12_6
    try clear hcz12_7
    try clear hcz12_8
    try clear hcz12_9
    try clear hcz13_0
    try clear hcz13_1
    try clear hcz13_10
    try clear hcz13_11
    try clear hcz13_12
    try clear hcz13_13
    try clear hcz13_2
    try clear hcz13_3
    try clear hcz13_4
    try clear hcz13_5
    try clear hcz13_6
    try clear hcz13_7
    try clear hcz13_8
    try clear hcz13_9
    try clear hcz15_0
    try clear hcz15_1
    try clear hcz15_10
    try clear hcz15_11
    try clear hcz15_12
    try clear hcz15_13
    try clear hcz15_2
    try clear hcz15_3
    try clear hcz15_4
    try clear hcz15_5
    try clear hcz15_6
    try clear hcz15_7
    try clear hcz15_8
    try clear hcz15_9
    try clear hcz16_0
    try clear hcz16_1
    try clear hcz16_10
    try clear hcz16_11
    try clear hcz16_12
    try clear hcz16_13
    try clear hcz16_2
    try clear hcz16_3
    try clear hcz16_4
    try clear hcz16_5
    try clear hcz16_6
    try clear hcz16_7
    try clear hcz16_8
    try clear hcz16_9
    try clear hcz18_0
    try clear hcz18_1
    try clear hcz18_10
    try clear hcz18_11
    try clear hcz18_12
    try clear hcz18_13
    try clear hcz18_2
    try clear hcz18_3
    try clear hcz18_4
    try clear hcz18_5
    try clear hcz18_6
    try clear hcz18_7
    try clear hcz18_8
    try clear hcz18_9
    try clear hcz19_0
    try clear hcz19_1
    try clear hcz19_10
    try clear hcz19_11
    try clear hcz19_12
    try clear hcz19_13
    try clear hcz19_2
    try clear hcz19_3
    try clear hcz19_4
    try clear hcz19_5
    try clear hcz19_6
    try clear hcz19_7
    try clear hcz19_8
    try clear hcz19_9
    try clear hcz21_0
    try clear hcz21_1
    try clear hcz21_10
    try clear hcz21_11
    try clear hcz21_12
    try clear hcz21_13
    try clear hcz21_2
    try clear hcz21_3
    try clear hcz21_4
    try clear hcz21_5
    try clear hcz21_6
    try clear hcz21_7
    try clear hcz21_8
    try clear hcz21_9
    try clear hcz22_0
    try clear hcz22_1
    try clear hcz22_10
    try clear hcz22_11
    try clear hcz22_12
    try clear hcz22_13
    try clear hcz22_2
    try clear hcz22_3
    try clear hcz22_4
    try clear hcz22_5
    try clear hcz22_6
    try clear hcz22_7
    try clear hcz22_8
    try clear hcz22_9
    try clear hcz24_0
    try clear hcz24_1
    try clear hcz24_10
    try clear hcz24_11
    try clear hcz24_12
    try clear hcz24_13
    try clear hcz24_2
    try clear hcz24_3
    try clear hcz24_4
    try clear hcz24_5
    try clear hcz24_6
    try clear hcz24_7
    try clear hcz24_8
    try clear hcz24_9
    try clear hcz25_0
    try clear hcz25_1
    try clear hcz25_10
    try clear hcz25_11
    try clear hcz25_12
    try clear hcz25_13
    try clear hcz25_2
    try clear hcz25_3
    try clear hcz25_4
    try clear hcz25_5
    try clear hcz25_6
    try clear hcz25_7
    try clear hcz25_8
    try clear hcz25_9
    try clear hcz27_0
    try clear hcz27_1
    try clear hcz27_10
    try clear hcz27_11
    try clear hcz27_12
    try clear hcz27_13
    try clear hcz27_2
    try clear hcz27_3
    try clear hcz27_4
    try clear hcz27_5
    try clear hcz27_6
    try clear hcz27_7
    try clear hcz27_8
    try clear hcz27_9
    try clear hcz28_0
    try clear hcz28_1
    try clear hcz28_10
    try clear hcz28_11
    try clear hcz28_12
    try clear hcz28_13
    try clear hcz28_2
    try clear hcz28_3
    try clear hcz28_4
    try clear hcz28_5
    try clear hcz28_6
    try clear hcz28_7
    try clear hcz28_8
    try clear hcz28_9
    try clear hfz12_0
    try clear hfz12_1
    try clear hfz12_10
    try clear hfz12_11
    try clear hfz12_12
    try clear hfz12_13
    try clear hfz12_2
    try clear hfz12_3
    try clear hfz12_4
    try clear hfz12_5
    try clear hfz12_6
    try clear hfz12_7
    try clear hfz12_8
    try clear hfz12_9
    try clear hfz13_0
    try clear hfz13_1
    try clear hfz13_10
    try clear hfz13_11
    try clear hfz13_12
    try clear hfz13_13
    try clear hfz13_2
    try clear hfz13_3
    try clear hfz13_4
    try clear hfz13_5
    try clear hfz13_6
    try clear hfz13_7
    try clear hfz13_8
    try clear hfz13_9
    try clear hfz15_0
    try clear hfz15_1
    try clear hfz15_10
    try clear hfz15_11
    try clear hfz15_12
    try clear hfz15_13
    try clear hfz15_2
    try clear hfz15_3
    try clear hfz15_4
    try clear hfz15_5
    try clear hfz15_6
    try clear hfz15_7
    try clear hfz15_8
    try clear hfz15_9
    try clear hfz16_0
    try clear hfz16_1
    try clear hfz16_10
    try clear hfz16_11
    try clear hfz16_12
    try clear hfz16_13
    try clear hfz16_2
    try clear hfz16_3
    try clear hfz16_4
    try clear hfz16_5
    try clear hfz16_6
    try clear hfz16_7
    try clear hfz16_8
    try clear hfz16_9
    try clear hfz18_0
    try clear hfz18_1
    try clear hfz18_10
    try clear hfz18_11
    try clear hfz18_12
    try clear hfz18_13
    try clear hfz18_2
    try clear hfz18_3
    try clear hfz18_4
    try clear hfz18_5
    try clear hfz18_6
    try clear hfz18_7
    try clear hfz18_8
    try clear hfz18_9
    try clear hfz19_0
    try clear hfz19_1
    try clear hfz19_10
    try clear hfz19_11
    try clear hfz19_12
    try clear hfz19_13
    try clear hfz19_2
    try clear hfz19_3
    try clear hfz19_4
    try clear hfz19_5
    try clear hfz19_6
    try clear hfz19_7
    try clear hfz19_8
    try clear hfz19_9
    try clear hfz21_0
    try clear hfz21_1
    try clear hfz21_10
    try clear hfz21_11
    try clear hfz21_12
    try clear hfz21_13
    try clear hfz21_2
    try clear hfz21_3
    try clear hfz21_4
    try clear hfz21_5
    try clear hfz21_6
    try clear hfz21_7
    try clear hfz21_8
    try clear hfz21_9
    try clear hfz22_0
    try clear hfz22_1
    try clear hfz22_10
    try clear hfz22_11
    try clear hfz22_12
    try clear hfz22_13
    try clear hfz22_2
    try clear hfz22_3
    try clear hfz22_4
    try clear hfz22_5
    try clear hfz22_6
    try clear hfz22_7
    try clear hfz22_8
    try clear hfz22_9
    try clear hfz24_0
    try clear hfz24_1
    try clear hfz24_10
    try clear hfz24_11
    try clear hfz24_12
    try clear hfz24_13
    try clear hfz24_2
    try clear hfz24_3
    try clear hfz24_4
    try clear hfz24_5
    try clear hfz24_6
    try clear hfz24_7
    try clear hfz24_8
    try clear hfz24_9
    try clear hfz25_0
    try clear hfz25_1
    try clear hfz25_10
    try clear hfz25_11
    try clear hfz25_12
    try clear hfz25_13
    try clear hfz25_2
    try clear hfz25_3
    try clear hfz25_4
    try clear hfz25_5
    try clear hfz25_6
    try clear hfz25_7
    try clear hfz25_8
    try clear hfz25_9
    try clear hfz27_0
    try clear hfz27_1
    try clear hfz27_10
    try clear hfz27_11
    try clear hfz27_12
    try clear hfz27_13
    try clear hfz27_2
    try clear hfz27_3
    try clear hfz27_4
    try clear hfz27_5
    try clear hfz27_6
    try clear hfz27_7
    try clear hfz27_8
    try clear hfz27_9
    try clear hfz28_0
    try clear hfz28_1
    try clear hfz28_10
    try clear hfz28_11
    try clear hfz28_12
    try clear hfz28_13
    try clear hfz28_2
    try clear hfz28_3
    try clear hfz28_4
    try clear hfz28_5
    try clear hfz28_6
    try clear hfz28_7
    try clear hfz28_8
    try clear hfz28_9
    obtain ⟨kq, x44_2, rfl, HA, HJ2, BK624, BK625, HB⟩ := hcut
    cases kq with
    | zero => exact absurd HA.out (by simp [impl_SameBlock.j0])
    | succ kj2 =>
      have H := HA.out
      clear HA
      simp only [impl_SameBlock.j0] at H
      by_cases c29 : x44_2 = true
      · subst c29
        have H1 : (some false) = some r := by rw [if_pos rfl] at H; exact H
        clear H
        have H := H1
        clear H1
        obtain rfl := Option.some.inj H
        go_wp2
        go_ret
        exact ⟨by first | rfl | (simp [errW_none, errW_some] <;> rfl) | (simp [*, errW_none, errW_some] <;> rfl), by repeat (first | (with_reducible first | exact HB.out | apply below_alloc | apply pw_below_drewN | apply below_drew1 | refine below_set ?_ GE624.out | refine below_set ?_ GE625.out) | exact HB.out)⟩
      · replace c29 := Bool.eq_false_iff.mpr c29
        subst c29
        have H1 : ((impl_sameQc.f kj2 a0_4 a0_5 l0_6 a1_4 a1_5 l1_6).bind fun t626 => (if t626 = true then ((impl_sameTc.f kj2 a0_7 l0_8 l0_9 a1_7 l1_8 l1_9).bind fun t627 => (if t627 = true then ((impl_Tx.f kj2 l0_10 l1_10).bind fun t628 => (if t628 = true then ((impl_Val_94.f kj2 l0_12 l1_12).bind fun t629 => (some t629)) else (some false))) else (some false))) else (some false))) = some r := by rw [if_neg (show ¬ (false = true) by decide)] at H; exact H
        clear H
        have H := H1
        clear H1
        replace H := Option.bind_eq_some_iff.mp H
        obtain ⟨t626, A300, H⟩ := H
        replace H : (if t626 = true then ((impl_sameTc.f kj2 a0_7 l0_8 l0_9 a1_7 l1_8 l1_9).bind fun t627 => (if t627 = true then ((impl_Tx.f kj2 l0_10 l1_10).bind fun t628 => (if t628 = true then ((impl_Val_94.f kj2 l0_12 l1_12).bind fun t629 => (some t629)) else (some false))) else (some false))) else (some false)) = some r := H
        have A30 := Aside0.mk A300
        clear A300
        by_cases c31 : t626 = true
        · subst c31
          have H1 : ((impl_sameTc.f kj2 a0_7 l0_8 l0_9 a1_7 l1_8 l1_9).bind fun t627 => (if t627 = true then ((impl_Tx.f kj2 l0_10 l1_10).bind fun t628 => (if t628 = true then ((impl_Val_94.f kj2 l0_12 l1_12).bind fun t629 => (some t629)) else (some false))) else (some false))) = some r := by rw [if_pos rfl] at H; exact H
          clear H
          have H := H1
          clear H1
          replace H := Option.bind_eq_some_iff.mp H
          obtain ⟨t627, A320, H⟩ := H
          replace H : (if t627 = true then ((impl_Tx.f kj2 l0_10 l1_10).bind fun t628 => (if t628 = true then ((impl_Val_94.f kj2 l0_12 l1_12).bind fun t629 => (some t629)) else (some false))) else (some false)) = some r := H
          have A32 := Aside0.mk A320
          clear A320
          by_cases c33 : t627 = true
          · subst c33
            have H1 : ((impl_Tx.f kj2 l0_10 l1_10).bind fun t628 => (if t628 = true then ((impl_Val_94.f kj2 l0_12 l1_12).bind fun t629 => (some t629)) else (some false))) = some r := by rw [if_pos rfl] at H; exact H
            clear H
            have H := H1
            clear H1
            replace H := Option.bind_eq_some_iff.mp H
            obtain ⟨t628, A340, H⟩ := H
            replace H : (if t628 = true then ((impl_Val_94.f kj2 l0_12 l1_12).bind fun t629 => (some t629)) else (some false)) = some r := H
            have A34 := Aside0.mk A340
            clear A340
            by_cases c35 : t628 = true
            · subst c35
              have H1 : ((impl_Val_94.f kj2 l0_12 l1_12).bind fun t629 => (some t629)) = some r := by rw [if_pos rfl] at H; exact H
              clear H
              have H := H1
              clear H1
              replace H := Option.bind_eq_some_iff.mp H
              obtain ⟨t629, A360, H⟩ := H
              replace H : (some t629) = some r := H
              have A36 := Aside0.mk A360
              clear A360
              obtain rfl := Option.some.inj H
              have hnb37 := NB624_625.out
              have hnc37 := NB625_624.out
              obtain ⟨hcz38_0, hcz38_1, hcz38_2, hcz38_3, hcz38_4, hcz38_5, hcz38_6, hcz38_7, hcz38_8, hcz38_9, hcz38_10, hcz38_11, hcz38_12, hcz38_13⟩ := cells14 BK624.out
              obtain ⟨hfz38_0, hfz38_1, hfz38_2, hfz38_3, hfz38_4, hfz38_5, hfz38_6, hfz38_7, hfz38_8, hfz38_9, hfz38_10, hfz38_11, hfz38_12, hfz38_13⟩ := frozens14 BK624.out
              obtain ⟨hcz39_0, hcz39_1, hcz39_2, hcz39_3, hcz39_4, hcz39_5, hcz39_6, hcz39_7, hcz39_8, hcz39_9, hcz39_10, hcz39_11, hcz39_12, hcz39_13⟩ := cells14 BK625.out
              obtain ⟨hfz39_0, hfz39_1, hfz39_2, hfz39_3, hfz39_4, hfz39_5, hfz39_6, hfz39_7, hfz39_8, hfz39_9, hfz39_10, hfz39_11, hfz39_12, hfz39_13⟩ := frozens14 BK625.out
              go_wp2_with (first | ((with_reducible refine gate_callee (f := 91) rfl ?_); refine goesL_ (some 49) rfl rfl Try.func91 (by kernel_rfl) rfl #[.agg #[.int .i64 a0_4, .int .i64 a0_5, .slice A0_6 l0_6.length c0_6], .agg #[.int .i64 a1_4, .int .i64 a1_5, .slice A1_6 l1_6.length c1_6]] rfl (by (try simp only [List.map_toArray, List.map_cons, List.map_nil]); first | done | rfl | (simp only [List.length_drop, List.length_take]; rfl)) ?_; (with_reducible refine (impl_sameQc.calls kj2 a0_4 a0_5 _ _ l0_6 a1_4 a1_5 _ _ l1_6 true _ ?side1 ?side2 ?side3 ?side4 A30.out).mono ?_); (case side1 => repeat (first | exact (Kd.C_below HR0_6.out HB.out) | (with_reducible refine Kd.C_alloc ?_ _) | (with_reducible refine Kd.C_drewN ?_ _) | (with_reducible refine Kd.C_drew ?_))); (case side2 => exact HC0_6.out); (case side3 => repeat (first | exact (Kd.C_below HR1_6.out HB.out) | (with_reducible refine Kd.C_alloc ?_ _) | (with_reducible refine Kd.C_drewN ?_ _) | (with_reducible refine Kd.C_drew ?_))); (case side4 => exact HC1_6.out); rintro e w40 ⟨rfl, hb⟩; refine ⟨_, rfl, ?_⟩; have n0_ := Aside0.mk (blk_below (g := gb624) (by (with_reducible repeat (first | refine blk_drewN ?_ _ | refine blk_drew ?_ | refine blk_alloc ?_ _)); exact BK624.out) hb); have n1_ := Aside0.mk (blk_below (g := gb625) (by (with_reducible repeat (first | refine blk_drewN ?_ _ | refine blk_drew ?_ | refine blk_alloc ?_ _)); exact BK625.out) hb); have n2_ := Aside0.mk (below_step (by repeat (first | (with_reducible first | exact HB.out | apply below_alloc | apply pw_below_drewN | apply below_drew1 | refine below_set ?_ GE624.out | refine below_set ?_ GE625.out) | exact HB.out)) hb); clear BK624; clear BK625; clear HB; have BK624 := n0_; have BK625 := n1_; have HB := n2_; clear n0_ n1_ n2_; (try clear hb); (try clear hb2); (try clear hk); (try clear hi); obtain ⟨hcz41_0, hcz41_1, hcz41_2, hcz41_3, hcz41_4, hcz41_5, hcz41_6, hcz41_7, hcz41_8, hcz41_9, hcz41_10, hcz41_11, hcz41_12, hcz41_13⟩ := cells14 BK624.out; obtain ⟨hfz41_0, hfz41_1, hfz41_2, hfz41_3, hfz41_4, hfz41_5, hfz41_6, hfz41_7, hfz41_8, hfz41_9, hfz41_10, hfz41_11, hfz41_12, hfz41_13⟩ := frozens14 BK624.out; obtain ⟨hcz42_0, hcz42_1, hcz42_2, hcz42_3, hcz42_4, hcz42_5, hcz42_6, hcz42_7, hcz42_8, hcz42_9, hcz42_10, hcz42_11, hcz42_12, hcz42_13⟩ := cells14 BK625.out; obtain ⟨hfz42_0, hfz42_1, hfz42_2, hfz42_3, hfz42_4, hfz42_5, hfz42_6, hfz42_7, hfz42_8, hfz42_9, hfz42_10, hfz42_11, hfz42_12, hfz42_13⟩ := frozens14 BK625.out) | (go_at_call 92; (with_reducible refine (impl_sameTc.calls kj2 a0_7 _ _ l0_8 _ _ l0_9 a1_7 _ _ l1_8 _ _ l1_9 true _ ?side1 ?side2 ?side3 ?side4 ?side5 ?side6 ?side7 ?side8 A32.out).mono ?_); (case side1 => repeat (first | exact (Kd.C_below HR0_8.out HB.out) | (with_reducible refine Kd.C_alloc ?_ _) | (with_reducible refine Kd.C_drewN ?_ _) | (with_reducible refine Kd.C_drew ?_))); (case side2 => exact HC0_8.out); (case side3 => repeat (first | exact (Kd.C_below HR0_9.out HB.out) | (with_reducible refine Kd.C_alloc ?_ _) | (with_reducible refine Kd.C_drewN ?_ _) | (with_reducible refine Kd.C_drew ?_))); (case side4 => exact HC0_9.out); (case side5 => repeat (first | exact (Kd.C_below HR1_8.out HB.out) | (with_reducible refine Kd.C_alloc ?_ _) | (with_reducible refine Kd.C_drewN ?_ _) | (with_reducible refine Kd.C_drew ?_))); (case side6 => exact HC1_8.out); (case side7 => repeat (first | exact (Kd.C_below HR1_9.out HB.out) | (with_reducible refine Kd.C_alloc ?_ _) | (with_reducible refine Kd.C_drewN ?_ _) | (with_reducible refine Kd.C_drew ?_))); (case side8 => exact HC1_9.out); rintro e w43 ⟨rfl, hb⟩; have n0_ := Aside0.mk (blk_below (g := gb624) (by (with_reducible repeat (first | refine blk_drewN ?_ _ | refine blk_drew ?_ | refine blk_alloc ?_ _)); exact BK624.out) hb); have n1_ := Aside0.mk (blk_below (g := gb625) (by (with_reducible repeat (first | refine blk_drewN ?_ _ | refine blk_drew ?_ | refine blk_alloc ?_ _)); exact BK625.out) hb); have n2_ := Aside0.mk (below_step (by repeat (first | (with_reducible first | exact HB.out | apply below_alloc | apply pw_below_drewN | apply below_drew1 | refine below_set ?_ GE624.out | refine below_set ?_ GE625.out) | exact HB.out)) hb); clear BK624; clear BK625; clear HB; have BK624 := n0_; have BK625 := n1_; have HB := n2_; clear n0_ n1_ n2_; (try clear hb); (try clear hb2); (try clear hk); (try clear hi); obtain ⟨hcz44_0, hcz44_1, hcz44_2, hcz44_3, hcz44_4, hcz44_5, hcz44_6, hcz44_7, hcz44_8, hcz44_9, hcz44_10, hcz44_11, hcz44_12, hcz44_13⟩ := cells14 BK624.out; obtain ⟨hfz44_0, hfz44_1, hfz44_2, hfz44_3, hfz44_4, hfz44_5, hfz44_6, hfz44_7, hfz44_8, hfz44_9, hfz44_10, hfz44_11, hfz44_12, hfz44_13⟩ := frozens14 BK624.out; obtain ⟨hcz45_0, hcz45_1, hcz45_2, hcz45_3, hcz45_4, hcz45_5, hcz45_6, hcz45_7, hcz45_8, hcz45_9, hcz45_10, hcz45_11, hcz45_12, hcz45_13⟩ := cells14 BK625.out; obtain ⟨hfz45_0, hfz45_1, hfz45_2, hfz45_3, hfz45_4, hfz45_5, hfz45_6, hfz45_7, hfz45_8, hfz45_9, hfz45_10, hfz45_11, hfz45_12, hfz45_13⟩ := frozens14 BK625.out) | (go_at_call 93; (with_reducible refine (impl_Tx.calls kj2 _ _ l0_10 _ _ l1_10 true _ ?side1 ?side2 ?side3 ?side4 A34.out).mono ?_); (case side1 => repeat (first | exact (Kd.C_below HR0_10.out HB.out) | (with_reducible refine Kd.C_alloc ?_ _) | (with_reducible refine Kd.C_drewN ?_ _) | (with_reducible refine Kd.C_drew ?_))); (case side2 => exact HC0_10.out); (case side3 => repeat (first | exact (Kd.C_below HR1_10.out HB.out) | (with_reducible refine Kd.C_alloc ?_ _) | (with_reducible refine Kd.C_drewN ?_ _) | (with_reducible refine Kd.C_drew ?_))); (case side4 => exact HC1_10.out); rintro e w' ⟨rfl, ⟨nd, rfl⟩⟩) | (go_at_call 94; (with_reducible refine (impl_Val_94.calls kj2 _ _ l0_12 _ _ l1_12 t629 _ ?side1 ?side2 ?side3 ?side4 A36.out).mono ?_); (case side1 => repeat (first | exact (Kd.C_below HR0_12.out (by repeat (first | (with_reducible first | exact HB.out | apply below_alloc | apply pw_below_drewN | apply below_drew1 | refine below_set ?_ GE624.out | refine below_set ?_ GE625.out) | exact HB.out))) | (with_reducible refine Kd.C_alloc ?_ _) | (with_reducible refine Kd.C_drewN ?_ _) | (with_reducible refine Kd.C_drew ?_))); (case side2 => exact HC0_12.out); (case side3 => repeat (first | exact (Kd.C_below HR1_12.out (by repeat (first | (with_reducible first | exact HB.out | apply below_alloc | apply pw_below_drewN | apply below_drew1 | refine below_set ?_ GE624.out | refine below_set ?_ GE625.out) | exact HB.out))) | (with_reducible refine Kd.C_alloc ?_ _) | (with_reducible refine Kd.C_drewN ?_ _) | (with_reducible refine Kd.C_drew ?_))); (case side4 => exact HC1_12.out); rintro e w' ⟨rfl, ⟨nd, rfl⟩⟩))
              go_ret
              exact ⟨by first | rfl | (simp [errW_none, errW_some] <;> rfl) | (simp [*, errW_none, errW_some] <;> rfl), by repeat (first | (with_reducible first | exact HB.out | apply below_alloc | apply pw_below_drewN | apply below_drew1 | refine below_set ?_ GE624.out | refine below_set ?_ GE625.out) | exact HB.out)⟩
            · replace c35 := Bool.eq_false_iff.mpr c35
              subst c35
              have H1 : (some false) = some r := by rw [if_neg (show ¬ (false = true) by decide)] at H; exact H
              clear H
              have H := H1
              clear H1
              obtain rfl := Option.some.inj H
              have hnb46 := NB624_625.out
              have hnc46 := NB625_624.out
              obtain ⟨hcz47_0, hcz47_1, hcz47_2, hcz47_3, hcz47_4, hcz47_5, hcz47_6, hcz47_7, hcz47_8, hcz47_9, hcz47_10, hcz47_11, hcz47_12, hcz47_13⟩ := cells14 BK624.out
              obtain ⟨hfz47_0, hfz47_1, hfz47_2, hfz47_3, hfz47_4, hfz47_5, hfz47_6, hfz47_7, hfz47_8, hfz47_9, hfz47_10, hfz47_11, hfz47_12, hfz47_13⟩ := frozens14 BK624.out
              obtain ⟨hcz48_0, hcz48_1, hcz48_2, hcz48_3, hcz48_4, hcz48_5, hcz48_6, hcz48_7, hcz48_8, hcz48_9, hcz48_10, hcz48_11, hcz48_12, hcz48_13⟩ := cells14 BK625.out
              obtain ⟨hfz48_0, hfz48_1, hfz48_2, hfz48_3, hfz48_4, hfz48_5, hfz48_6, hfz48_7, hfz48_8, hfz48_9, hfz48_10, hfz48_11, hfz48_12, hfz48_13⟩ := frozens14 BK625.out
              go_wp2_with (first | ((with_reducible refine gate_callee (f := 91) rfl ?_); refine goesL_ (some 49) rfl rfl Try.func91 (by kernel_rfl) rfl #[.agg #[.int .i64 a0_4, .int .i64 a0_5, .slice A0_6 l0_6.length c0_6], .agg #[.int .i64 a1_4, .int .i64 a1_5, .slice A1_6 l1_6.length c1_6]] rfl (by (try simp only [List.map_toArray, List.map_cons, List.map_nil]); first | done | rfl | (simp only [List.length_drop, List.length_take]; rfl)) ?_; (with_reducible refine (impl_sameQc.calls kj2 a0_4 a0_5 _ _ l0_6 a1_4 a1_5 _ _ l1_6 true _ ?side1 ?side2 ?side3 ?side4 A30.out).mono ?_); (case side1 => repeat (first | exact (Kd.C_below HR0_6.out HB.out) | (with_reducible refine Kd.C_alloc ?_ _) | (with_reducible refine Kd.C_drewN ?_ _) | (with_reducible refine Kd.C_drew ?_))); (case side2 => exact HC0_6.out); (case side3 => repeat (first | exact (Kd.C_below HR1_6.out HB.out) | (with_reducible refine Kd.C_alloc ?_ _) | (with_reducible refine Kd.C_drewN ?_ _) | (with_reducible refine Kd.C_drew ?_))); (case side4 => exact HC1_6.out); rintro e w49 ⟨rfl, hb⟩; refine ⟨_, rfl, ?_⟩; have n0_ := Aside0.mk (blk_below (g := gb624) (by (with_reducible repeat (first | refine blk_drewN ?_ _ | refine blk_drew ?_ | refine blk_alloc ?_ _)); exact BK624.out) hb); have n1_ := Aside0.mk (blk_below (g := gb625) (by (with_reducible repeat (first | refine blk_drewN ?_ _ | refine blk_drew ?_ | refine blk_alloc ?_ _)); exact BK625.out) hb); have n2_ := Aside0.mk (below_step (by repeat (first | (with_reducible first | exact HB.out | apply below_alloc | apply pw_below_drewN | apply below_drew1 | refine below_set ?_ GE624.out | refine below_set ?_ GE625.out) | exact HB.out)) hb); clear BK624; clear BK625; clear HB; have BK624 := n0_; have BK625 := n1_; have HB := n2_; clear n0_ n1_ n2_; (try clear hb); (try clear hb2); (try clear hk); (try clear hi); obtain ⟨hcz50_0, hcz50_1, hcz50_2, hcz50_3, hcz50_4, hcz50_5, hcz50_6, hcz50_7, hcz50_8, hcz50_9, hcz50_10, hcz50_11, hcz50_12, hcz50_13⟩ := cells14 BK624.out; obtain ⟨hfz50_0, hfz50_1, hfz50_2, hfz50_3, hfz50_4, hfz50_5, hfz50_6, hfz50_7, hfz50_8, hfz50_9, hfz50_10, hfz50_11, hfz50_12, hfz50_13⟩ := frozens14 BK624.out; obtain ⟨hcz51_0, hcz51_1, hcz51_2, hcz51_3, hcz51_4, hcz51_5, hcz51_6, hcz51_7, hcz51_8, hcz51_9, hcz51_10, hcz51_11, hcz51_12, hcz51_13⟩ := cells14 BK625.out; obtain ⟨hfz51_0, hfz51_1, hfz51_2, hfz51_3, hfz51_4, hfz51_5, hfz51_6, hfz51_7, hfz51_8, hfz51_9, hfz51_10, hfz51_11, hfz51_12, hfz51_13⟩ := frozens14 BK625.out) | (go_at_call 92; (with_reducible refine (impl_sameTc.calls kj2 a0_7 _ _ l0_8 _ _ l0_9 a1_7 _ _ l1_8 _ _ l1_9 true _ ?side1 ?side2 ?side3 ?side4 ?side5 ?side6 ?side7 ?side8 A32.out).mono ?_); (case side1 => repeat (first | exact (Kd.C_below HR0_8.out HB.out) | (with_reducible refine Kd.C_alloc ?_ _) | (with_reducible refine Kd.C_drewN ?_ _) | (with_reducible refine Kd.C_drew ?_))); (case side2 => exact HC0_8.out); (case side3 => repeat (first | exact (Kd.C_below HR0_9.out HB.out) | (with_reducible refine Kd.C_alloc ?_ _) | (with_reducible refine Kd.C_drewN ?_ _) | (with_reducible refine Kd.C_drew ?_))); (case side4 => exact HC0_9.out); (case side5 => repeat (first | exact (Kd.C_below HR1_8.out HB.out) | (with_reducible refine Kd.C_alloc ?_ _) | (with_reducible refine Kd.C_drewN ?_ _) | (with_reducible refine Kd.C_drew ?_))); (case side6 => exact HC1_8.out); (case side7 => repeat (first | exact (Kd.C_below HR1_9.out HB.out) | (with_reducible refine Kd.C_alloc ?_ _) | (with_reducible refine Kd.C_drewN ?_ _) | (with_reducible refine Kd.C_drew ?_))); (case side8 => exact HC1_9.out); rintro e w52 ⟨rfl, hb⟩; have n0_ := Aside0.mk (blk_below (g := gb624) (by (with_reducible repeat (first | refine blk_drewN ?_ _ | refine blk_drew ?_ | refine blk_alloc ?_ _)); exact BK624.out) hb); have n1_ := Aside0.mk (blk_below (g := gb625) (by (with_reducible repeat (first | refine blk_drewN ?_ _ | refine blk_drew ?_ | refine blk_alloc ?_ _)); exact BK625.out) hb); have n2_ := Aside0.mk (below_step (by repeat (first | (with_reducible first | exact HB.out | apply below_alloc | apply pw_below_drewN | apply below_drew1 | refine below_set ?_ GE624.out | refine below_set ?_ GE625.out) | exact HB.out)) hb); clear BK624; clear BK625; clear HB; have BK624 := n0_; have BK625 := n1_; have HB := n2_; clear n0_ n1_ n2_; (try clear hb); (try clear hb2); (try clear hk); (try clear hi); obtain ⟨hcz53_0, hcz53_1, hcz53_2, hcz53_3, hcz53_4, hcz53_5, hcz53_6, hcz53_7, hcz53_8, hcz53_9, hcz53_10, hcz53_11, hcz53_12, hcz53_13⟩ := cells14 BK624.out; obtain ⟨hfz53_0, hfz53_1, hfz53_2, hfz53_3, hfz53_4, hfz53_5, hfz53_6, hfz53_7, hfz53_8, hfz53_9, hfz53_10, hfz53_11, hfz53_12, hfz53_13⟩ := frozens14 BK624.out; obtain ⟨hcz54_0, hcz54_1, hcz54_2, hcz54_3, hcz54_4, hcz54_5, hcz54_6, hcz54_7, hcz54_8, hcz54_9, hcz54_10, hcz54_11, hcz54_12, hcz54_13⟩ := cells14 BK625.out; obtain ⟨hfz54_0, hfz54_1, hfz54_2, hfz54_3, hfz54_4, hfz54_5, hfz54_6, hfz54_7, hfz54_8, hfz54_9, hfz54_10, hfz54_11, hfz54_12, hfz54_13⟩ := frozens14 BK625.out) | (go_at_call 93; (with_reducible refine (impl_Tx.calls kj2 _ _ l0_10 _ _ l1_10 false _ ?side1 ?side2 ?side3 ?side4 A34.out).mono ?_); (case side1 => repeat (first | exact (Kd.C_below HR0_10.out HB.out) | (with_reducible refine Kd.C_alloc ?_ _) | (with_reducible refine Kd.C_drewN ?_ _) | (with_reducible refine Kd.C_drew ?_))); (case side2 => exact HC0_10.out); (case side3 => repeat (first | exact (Kd.C_below HR1_10.out HB.out) | (with_reducible refine Kd.C_alloc ?_ _) | (with_reducible refine Kd.C_drewN ?_ _) | (with_reducible refine Kd.C_drew ?_))); (case side4 => exact HC1_10.out); rintro e w' ⟨rfl, ⟨nd, rfl⟩⟩))
              go_ret
              exact ⟨by first | rfl | (simp [errW_none, errW_some] <;> rfl) | (simp [*, errW_none, errW_some] <;> rfl), by repeat (first | (with_reducible first | exact HB.out | apply below_alloc | apply pw_below_drewN | apply below_drew1 | refine below_set ?_ GE624.out | refine below_set ?_ GE625.out) | exact HB.out)⟩
          · replace c33 := Bool.eq_false_iff.mpr c33
            subst c33
            have H1 : (some false) = some r := by rw [if_neg (show ¬ (false = true) by decide)] at H; exact H
            clear H
            have H := H1
            clear H1
            obtain rfl := Option.some.inj H
            have hnb55 := NB624_625.out
            have hnc55 := NB625_624.out
            obtain ⟨hcz56_0, hcz56_1, hcz56_2, hcz56_3, hcz56_4, hcz56_5, hcz56_6, hcz56_7, hcz56_8, hcz56_9, hcz56_10, hcz56_11, hcz56_12, hcz56_13⟩ := cells14 BK624.out
            obtain ⟨hfz56_0, hfz56_1, hfz56_2, hfz56_3, hfz56_4, hfz56_5, hfz56_6, hfz56_7, hfz56_8, hfz56_9, hfz56_10, hfz56_11, hfz56_12, hfz56_13⟩ := frozens14 BK624.out
            obtain ⟨hcz57_0, hcz57_1, hcz57_2, hcz57_3, hcz57_4, hcz57_5, hcz57_6, hcz57_7, hcz57_8, hcz57_9, hcz57_10, hcz57_11, hcz57_12, hcz57_13⟩ := cells14 BK625.out
            obtain ⟨hfz57_0, hfz57_1, hfz57_2, hfz57_3, hfz57_4, hfz57_5, hfz57_6, hfz57_7, hfz57_8, hfz57_9, hfz57_10, hfz57_11, hfz57_12, hfz57_13⟩ := frozens14 BK625.out
            go_wp2_with (first | ((with_reducible refine gate_callee (f := 91) rfl ?_); refine goesL_ (some 49) rfl rfl Try.func91 (by kernel_rfl) rfl #[.agg #[.int .i64 a0_4, .int .i64 a0_5, .slice A0_6 l0_6.length c0_6], .agg #[.int .i64 a1_4, .int .i64 a1_5, .slice A1_6 l1_6.length c1_6]] rfl (by (try simp only [List.map_toArray, List.map_cons, List.map_nil]); first | done | rfl | (simp only [List.length_drop, List.length_take]; rfl)) ?_; (with_reducible refine (impl_sameQc.calls kj2 a0_4 a0_5 _ _ l0_6 a1_4 a1_5 _ _ l1_6 true _ ?side1 ?side2 ?side3 ?side4 A30.out).mono ?_); (case side1 => repeat (first | exact (Kd.C_below HR0_6.out HB.out) | (with_reducible refine Kd.C_alloc ?_ _) | (with_reducible refine Kd.C_drewN ?_ _) | (with_reducible refine Kd.C_drew ?_))); (case side2 => exact HC0_6.out); (case side3 => repeat (first | exact (Kd.C_below HR1_6.out HB.out) | (with_reducible refine Kd.C_alloc ?_ _) | (with_reducible refine Kd.C_drewN ?_ _) | (with_reducible refine Kd.C_drew ?_))); (case side4 => exact HC1_6.out); rintro e w58 ⟨rfl, hb⟩; refine ⟨_, rfl, ?_⟩; have n0_ := Aside0.mk (blk_below (g := gb624) (by (with_reducible repeat (first | refine blk_drewN ?_ _ | refine blk_drew ?_ | refine blk_alloc ?_ _)); exact BK624.out) hb); have n1_ := Aside0.mk (blk_below (g := gb625) (by (with_reducible repeat (first | refine blk_drewN ?_ _ | refine blk_drew ?_ | refine blk_alloc ?_ _)); exact BK625.out) hb); have n2_ := Aside0.mk (below_step (by repeat (first | (with_reducible first | exact HB.out | apply below_alloc | apply pw_below_drewN | apply below_drew1 | refine below_set ?_ GE624.out | refine below_set ?_ GE625.out) | exact HB.out)) hb); clear BK624; clear BK625; clear HB; have BK624 := n0_; have BK625 := n1_; have HB := n2_; clear n0_ n1_ n2_; (try clear hb); (try clear hb2); (try clear hk); (try clear hi); obtain ⟨hcz59_0, hcz59_1, hcz59_2, hcz59_3, hcz59_4, hcz59_5, hcz59_6, hcz59_7, hcz59_8, hcz59_9, hcz59_10, hcz59_11, hcz59_12, hcz59_13⟩ := cells14 BK624.out; obtain ⟨hfz59_0, hfz59_1, hfz59_2, hfz59_3, hfz59_4, hfz59_5, hfz59_6, hfz59_7, hfz59_8, hfz59_9, hfz59_10, hfz59_11, hfz59_12, hfz59_13⟩ := frozens14 BK624.out; obtain ⟨hcz60_0, hcz60_1, hcz60_2, hcz60_3, hcz60_4, hcz60_5, hcz60_6, hcz60_7, hcz60_8, hcz60_9, hcz60_10, hcz60_11, hcz60_12, hcz60_13⟩ := cells14 BK625.out; obtain ⟨hfz60_0, hfz60_1, hfz60_2, hfz60_3, hfz60_4, hfz60_5, hfz60_6, hfz60_7, hfz60_8, hfz60_9, hfz60_10, hfz60_11, hfz60_12, hfz60_13⟩ := frozens14 BK625.out) | (go_at_call 92; (with_reducible refine (impl_sameTc.calls kj2 a0_7 _ _ l0_8 _ _ l0_9 a1_7 _ _ l1_8 _ _ l1_9 false _ ?side1 ?side2 ?side3 ?side4 ?side5 ?side6 ?side7 ?side8 A32.out).mono ?_); (case side1 => repeat (first | exact (Kd.C_below HR0_8.out HB.out) | (with_reducible refine Kd.C_alloc ?_ _) | (with_reducible refine Kd.C_drewN ?_ _) | (with_reducible refine Kd.C_drew ?_))); (case side2 => exact HC0_8.out); (case side3 => repeat (first | exact (Kd.C_below HR0_9.out HB.out) | (with_reducible refine Kd.C_alloc ?_ _) | (with_reducible refine Kd.C_drewN ?_ _) | (with_reducible refine Kd.C_drew ?_))); (case side4 => exact HC0_9.out); (case side5 => repeat (first | exact (Kd.C_below HR1_8.out HB.out) | (with_reducible refine Kd.C_alloc ?_ _) | (with_reducible refine Kd.C_drewN ?_ _) | (with_reducible refine Kd.C_drew ?_))); (case side6 => exact HC1_8.out); (case side7 => repeat (first | exact (Kd.C_below HR1_9.out HB.out) | (with_reducible refine Kd.C_alloc ?_ _) | (with_reducible refine Kd.C_drewN ?_ _) | (with_reducible refine Kd.C_drew ?_))); (case side8 => exact HC1_9.out); rintro e w61 ⟨rfl, hb⟩; have n0_ := Aside0.mk (blk_below (g := gb624) (by (with_reducible repeat (first | refine blk_drewN ?_ _ | refine blk_drew ?_ | refine blk_alloc ?_ _)); exact BK624.out) hb); have n1_ := Aside0.mk (blk_below (g := gb625) (by (with_reducible repeat (first | refine blk_drewN ?_ _ | refine blk_drew ?_ | refine blk_alloc ?_ _)); exact BK625.out) hb); have n2_ := Aside0.mk (below_step (by repeat (first | (with_reducible first | exact HB.out | apply below_alloc | apply pw_below_drewN | apply below_drew1 | refine below_set ?_ GE624.out | refine below_set ?_ GE625.out) | exact HB.out)) hb); clear BK624; clear BK625; clear HB; have BK624 := n0_; have BK625 := n1_; have HB := n2_; clear n0_ n1_ n2_; (try clear hb); (try clear hb2); (try clear hk); (try clear hi)))
            go_ret
            exact ⟨by first | rfl | (simp [errW_none, errW_some] <;> rfl) | (simp [*, errW_none, errW_some] <;> rfl), by repeat (first | (with_reducible first | exact HB.out | apply below_alloc | apply pw_below_drewN | apply below_drew1 | refine below_set ?_ GE624.out | refine below_set ?_ GE625.out) | exact HB.out)⟩
        · replace c31 := Bool.eq_false_iff.mpr c31
          subst c31
          have H1 : (some false) = some r := by rw [if_neg (show ¬ (false = true) by decide)] at H; exact H
          clear H
          have H := H1
          clear H1
          obtain rfl := Option.some.inj H
          have hnb62 := NB624_625.out
          have hnc62 := NB625_624.out
          obtain ⟨hcz63_0, hcz63_1, hcz63_2, hcz63_3, hcz63_4, hcz63_5, hcz63_6, hcz63_7, hcz63_8, hcz63_9, hcz63_10, hcz63_11, hcz63_12, hcz63_13⟩ := cells14 BK624.out
          obtain ⟨hfz63_0, hfz63_1, hfz63_2, hfz63_3, hfz63_4, hfz63_5, hfz63_6, hfz63_7, hfz63_8, hfz63_9, hfz63_10, hfz63_11, hfz63_12, hfz63_13⟩ := frozens14 BK624.out
          obtain ⟨hcz64_0, hcz64_1, hcz64_2, hcz64_3, hcz64_4, hcz64_5, hcz64_6, hcz64_7, hcz64_8, hcz64_9, hcz64_10, hcz64_11, hcz64_12, hcz64_13⟩ := cells14 BK625.out
          obtain ⟨hfz64_0, hfz64_1, hfz64_2, hfz64_3, hfz64_4, hfz64_5, hfz64_6, hfz64_7, hfz64_8, hfz64_9, hfz64_10, hfz64_11, hfz64_12, hfz64_13⟩ := frozens14 BK625.out
          go_wp2_with (first | ((with_reducible refine gate_callee (f := 91) rfl ?_); refine goesL_ (some 49) rfl rfl Try.func91 (by kernel_rfl) rfl #[.agg #[.int .i64 a0_4, .int .i64 a0_5, .slice A0_6 l0_6.length c0_6], .agg #[.int .i64 a1_4, .int .i64 a1_5, .slice A1_6 l1_6.length c1_6]] rfl (by (try simp only [List.map_toArray, List.map_cons, List.map_nil]); first | done | rfl | (simp only [List.length_drop, List.length_take]; rfl)) ?_; (with_reducible refine (impl_sameQc.calls kj2 a0_4 a0_5 _ _ l0_6 a1_4 a1_5 _ _ l1_6 false _ ?side1 ?side2 ?side3 ?side4 A30.out).mono ?_); (case side1 => repeat (first | exact (Kd.C_below HR0_6.out HB.out) | (with_reducible refine Kd.C_alloc ?_ _) | (with_reducible refine Kd.C_drewN ?_ _) | (with_reducible refine Kd.C_drew ?_))); (case side2 => exact HC0_6.out); (case side3 => repeat (first | exact (Kd.C_below HR1_6.out HB.out) | (with_reducible refine Kd.C_alloc ?_ _) | (with_reducible refine Kd.C_drewN ?_ _) | (with_reducible refine Kd.C_drew ?_))); (case side4 => exact HC1_6.out); rintro e w65 ⟨rfl, hb⟩; refine ⟨_, rfl, ?_⟩; have n0_ := Aside0.mk (blk_below (g := gb624) (by (with_reducible repeat (first | refine blk_drewN ?_ _ | refine blk_drew ?_ | refine blk_alloc ?_ _)); exact BK624.out) hb); have n1_ := Aside0.mk (blk_below (g := gb625) (by (with_reducible repeat (first | refine blk_drewN ?_ _ | refine blk_drew ?_ | refine blk_alloc ?_ _)); exact BK625.out) hb); have n2_ := Aside0.mk (below_step (by repeat (first | (with_reducible first | exact HB.out | apply below_alloc | apply pw_below_drewN | apply below_drew1 | refine below_set ?_ GE624.out | refine below_set ?_ GE625.out) | exact HB.out)) hb); clear BK624; clear BK625; clear HB; have BK624 := n0_; have BK625 := n1_; have HB := n2_; clear n0_ n1_ n2_; (try clear hb); (try clear hb2); (try clear hk); (try clear hi)))
          go_ret
          exact ⟨by first | rfl | (simp [errW_none, errW_some] <;> rfl) | (simp [*, errW_none, errW_some] <;> rfl), by repeat (first | (with_reducible first | exact HB.out | apply below_alloc | apply pw_below_drewN | apply below_drew1 | refine below_set ?_ GE624.out | refine below_set ?_ GE625.out) | exact HB.out)⟩

theorem impl_SameBlock.is {a b : S68} (hq : a.f4.f2.length ≤ 9223372036854775807) (ht : a.f5.f1.length ≤ 9223372036854775807) (hh : a.f5.f2.length ≤ 9223372036854775807) (hx : a.f6.length ≤ 9223372036854775807) (hs : a.f8.length ≤ 9223372036854775807) :
    Ev (fun k => impl_SameBlock.f k a.f0 a.f1 a.f2 a.f3 a.f4.f0 a.f4.f1 a.f4.f2 a.f5.f0 a.f5.f1 a.f5.f2 a.f6 a.f7 a.f8 a.f9 b.f0 b.f1 b.f2 b.f3 b.f4.f0 b.f4.f1 b.f4.f2 b.f5.f0 b.f5.f1 b.f5.f2 b.f6 b.f7 b.f8 b.f9) (sameBlock a b) := by
  unfold impl_SameBlock.f sameBlock
  have hj : ∀ t : Bool, t = true → Ev (fun k => impl_SameBlock.j0 k t a.f0 a.f1 a.f2 a.f3 a.f4.f0 a.f4.f1 a.f4.f2 a.f5.f0 a.f5.f1 a.f5.f2 a.f6 a.f7 a.f8 a.f9 b.f0 b.f1 b.f2 b.f3 b.f4.f0 b.f4.f1 b.f4.f2 b.f5.f0 b.f5.f1 b.f5.f2 b.f6 b.f7 b.f8 b.f9) false := fun t ht => by
    refine Ev.up ?_
    simp only [impl_SameBlock.j0]
    exact Ev.yes ht (Ev.now _)
  refine Ev.cond (fun h0 => ?_) (fun h0 => Ev.to (hj true rfl) (by rw [decide_eq_false h0]; rfl))
  refine Ev.cond (fun h1 => ?_) (fun h1 => Ev.to (hj true rfl) (by rw [decide_eq_false h1]; simp))
  refine Ev.cond (fun h2 => ?_) (fun h2 => Ev.to (hj true rfl) (by rw [decide_eq_false h2]; simp))
  refine Ev.cond (fun h3 => ?_) (fun h3 => Ev.to (hj true rfl) (by rw [decide_eq_false (fun h => h3 (toList_eq.2 h))]; simp))
  refine Ev.cond (fun h7 => Ev.to (hj true rfl) (by have h7' : (a.f7 == b.f7) = false := by cases hq : a.f7 == b.f7 <;> simp_all [bne]
                                                    rw [h7']; simp)) (fun h7 => ?_)
  have h7' : (a.f7 == b.f7) = true := by cases hq : a.f7 == b.f7 <;> simp_all [bne]
  rw [decide_eq_true h0, decide_eq_true h1, decide_eq_true h2, decide_eq_true (toList_eq.1 h3), h7']
  simp only [Bool.true_and]
  refine Ev.up ?_
  simp only [impl_SameBlock.j0]
  have h9 : (a.f9.toList != b.f9.toList) = !decide (a.f9 = b.f9) := by rw [← bytes_beq]; rfl
  rw [h9]
  refine Ev.cond (fun h => Ev.is (by have : decide (a.f9 = b.f9) = false := by simpa using h
                                     rw [this]; rfl)) (fun h => ?_)
  have h9' : decide (a.f9 = b.f9) = true := by simpa using h
  rw [h9', Bool.true_and]
  refine Ev.bind (impl_sameQc.is hq) (Ev.cond (fun h4 => ?_) (fun h4 => Ev.is (by rw [Bool.eq_false_iff.2 h4]; simp)))
  refine Ev.bind (impl_sameTc.is ht hh) (Ev.cond (fun h5 => ?_) (fun h5 => Ev.is (by rw [Bool.eq_false_iff.2 h5]; simp)))
  refine Ev.bind (impl_Tx.is hx) (Ev.cond (fun h6 => ?_) (fun h6 => Ev.is (by rw [Bool.eq_false_iff.2 h6]; simp)))
  refine Ev.bind (impl_Val_94.is hs) (Ev.is (by rw [h4, h5, h6]; simp))
theorem impl_SameBlock.does {a b : S68} (hq : a.f4.f2.length ≤ 9223372036854775807) (ht : a.f5.f1.length ≤ 9223372036854775807) (hh : a.f5.f2.length ≤ 9223372036854775807) (hx : a.f6.length ≤ 9223372036854775807) (hs : a.f8.length ≤ 9223372036854775807)
    {cs cs' : List Value} {w : World} (hK : k68.K w a cs) (hL : k68.K w b cs') :
    Calls Try.prog 52 #[.agg cs.toArray, .agg cs'.toArray] w fun e w' => e = .returned (.bool (sameBlock a b)) ∧ Below w.heap.size w w' := by
  obtain ⟨A0_6, c0_6, A0_8, c0_8, A0_9, c0_9, A0_10, c0_10, A0_12, c0_12, rfl, l0_6, g0_6, l0_8, g0_8, l0_9, g0_9, l0_10, g0_10, l0_12, g0_12⟩ := k68_open hK
  obtain ⟨A1_6, c1_6, A1_8, c1_8, A1_9, c1_9, A1_10, c1_10, A1_12, c1_12, rfl, l1_6, g1_6, l1_8, g1_8, l1_9, g1_9, l1_10, g1_10, l1_12, g1_12⟩ := k68_open hL
  obtain ⟨k, h⟩ := (impl_SameBlock.is (b := b) hq ht hh hx hs).rounds
  exact (impl_SameBlock.calls (hr0_6 := g0_6) (hc0_6 := l0_6) (hr0_8 := g0_8) (hc0_8 := l0_8) (hr0_9 := g0_9) (hc0_9 := l0_9) (hr0_10 := g0_10) (hc0_10 := l0_10) (hr0_12 := g0_12) (hc0_12 := l0_12) (hr1_6 := g1_6) (hc1_6 := l1_6) (hr1_8 := g1_8) (hc1_8 := l1_8) (hr1_9 := g1_9) (hc1_9 := l1_9) (hr1_10 := g1_10) (hc1_10 := l1_10) (hr1_12 := g1_12) (hc1_12 := l1_12) (h := h)).mono fun _ _ ⟨a, b⟩ => ⟨a, b⟩

/-! ### laws_FnExactSameBlock: printed by lawwalk.py -/
set_option maxHeartbeats 4000000 in
set_option maxRecDepth 100000 in
theorem laws_FnExactSameBlock.does {w : World} (x0 : S64) (hw0 : w64 x0) {cs0 : List Value} (hK0 : k64.K w x0 cs0) (x1 : S64) (hw1 : w64 x1) {cs1 : List Value} (hK1 : k64.K w x1 cs1) :
    Calls Try.prog 12 #[.agg cs0.toArray, .agg cs1.toArray] w fun e w' => e = .returned (.bool true) ∧ Below w.heap.size w w' := by
  have hK0' := hK0
  obtain ⟨A0_6, c0_6, A0_8, c0_8, A0_9, c0_9, A0_10, c0_10, A0_12, c0_12, rfl, l0_6, g0_6, l0_8, g0_8, l0_9, g0_9, l0_10, g0_10, l0_12, g0_12⟩ := k64_open hK0
  have nn0 := hold64.nn x0
  have hK1' := hK1
  obtain ⟨A1_6, c1_6, A1_8, c1_8, A1_9, c1_9, A1_10, c1_10, A1_12, c1_12, rfl, l1_6, g1_6, l1_8, g1_8, l1_9, g1_9, l1_10, g1_10, l1_12, g1_12⟩ := k64_open hK1
  have nn1 := hold64.nn x1
  have NB0 := fun e : On ((w.alloc (.cells #[.int .i64 x0.f0, .int .i64 x0.f1, .int .i64 x0.f2, .string x0.f3, .int .i64 x0.f4.f0, .int .i64 x0.f4.f1, .slice A0_6 x0.f4.f2.length c0_6, .int .i64 x0.f5.f0, .slice A0_8 x0.f5.f1.length c0_8, .slice A0_9 x0.f5.f2.length c0_9, .slice A0_10 x0.f6.length c0_10, .bool x0.f7, .slice A0_12 x0.f8.length c0_12, .string x0.f9] 64)).alloc (.cells #[.int .i64 x1.f0, .int .i64 x1.f1, .int .i64 x1.f2, .string x1.f3, .int .i64 x1.f4.f0, .int .i64 x1.f4.f1, .slice A1_6 x1.f4.f2.length c1_6, .int .i64 x1.f5.f0, .slice A1_8 x1.f5.f1.length c1_8, .slice A1_9 x1.f5.f2.length c1_9, .slice A1_10 x1.f6.length c1_10, .bool x1.f7, .slice A1_12 x1.f8.length c1_12, .string x1.f9] 64)) => cells14 (On.blk e.boxed)
  have NB1 := fun e : On ((w.alloc (.cells #[.int .i64 x0.f0, .int .i64 x0.f1, .int .i64 x0.f2, .string x0.f3, .int .i64 x0.f4.f0, .int .i64 x0.f4.f1, .slice A0_6 x0.f4.f2.length c0_6, .int .i64 x0.f5.f0, .slice A0_8 x0.f5.f1.length c0_8, .slice A0_9 x0.f5.f2.length c0_9, .slice A0_10 x0.f6.length c0_10, .bool x0.f7, .slice A0_12 x0.f8.length c0_12, .string x0.f9] 64)).alloc (.cells #[.int .i64 x1.f0, .int .i64 x1.f1, .int .i64 x1.f2, .string x1.f3, .int .i64 x1.f4.f0, .int .i64 x1.f4.f1, .slice A1_6 x1.f4.f2.length c1_6, .int .i64 x1.f5.f0, .slice A1_8 x1.f5.f1.length c1_8, .slice A1_9 x1.f5.f2.length c1_9, .slice A1_10 x1.f6.length c1_10, .bool x1.f7, .slice A1_12 x1.f8.length c1_12, .string x1.f9] 64)) => cells14 (On.blk2 e)
  have N0_0 := fun e => (NB0 e).1
  have N0_1 := fun e => (NB0 e).2.1
  have N0_2 := fun e => (NB0 e).2.2.1
  have N0_3 := fun e => (NB0 e).2.2.2.1
  have N0_4 := fun e => (NB0 e).2.2.2.2.1
  have N0_5 := fun e => (NB0 e).2.2.2.2.2.1
  have N0_6 := fun e => (NB0 e).2.2.2.2.2.2.1
  have N0_7 := fun e => (NB0 e).2.2.2.2.2.2.2.1
  have N0_8 := fun e => (NB0 e).2.2.2.2.2.2.2.2.1
  have N0_9 := fun e => (NB0 e).2.2.2.2.2.2.2.2.2.1
  have N0_10 := fun e => (NB0 e).2.2.2.2.2.2.2.2.2.2.1
  have N0_11 := fun e => (NB0 e).2.2.2.2.2.2.2.2.2.2.2.1
  have N0_12 := fun e => (NB0 e).2.2.2.2.2.2.2.2.2.2.2.2.1
  have N0_13 := fun e => (NB0 e).2.2.2.2.2.2.2.2.2.2.2.2.2
  have N1_0 := fun e => (NB1 e).1
  have N1_1 := fun e => (NB1 e).2.1
  have N1_2 := fun e => (NB1 e).2.2.1
  have N1_3 := fun e => (NB1 e).2.2.2.1
  have N1_4 := fun e => (NB1 e).2.2.2.2.1
  have N1_5 := fun e => (NB1 e).2.2.2.2.2.1
  have N1_6 := fun e => (NB1 e).2.2.2.2.2.2.1
  have N1_7 := fun e => (NB1 e).2.2.2.2.2.2.2.1
  have N1_8 := fun e => (NB1 e).2.2.2.2.2.2.2.2.1
  have N1_9 := fun e => (NB1 e).2.2.2.2.2.2.2.2.2.1
  have N1_10 := fun e => (NB1 e).2.2.2.2.2.2.2.2.2.2.1
  have N1_11 := fun e => (NB1 e).2.2.2.2.2.2.2.2.2.2.2.1
  have N1_12 := fun e => (NB1 e).2.2.2.2.2.2.2.2.2.2.2.2.1
  have N1_13 := fun e => (NB1 e).2.2.2.2.2.2.2.2.2.2.2.2.2
  clear NB0 NB1
  simp only [On.boxed_now] at N0_0 N0_1 N0_2 N0_3 N0_4 N0_5 N0_6 N0_7 N0_8 N0_9 N0_10 N0_11 N0_12 N0_13
  have D0 := Aside0.mk (fun e : On ((w.alloc (.cells #[.int .i64 x0.f0, .int .i64 x0.f1, .int .i64 x0.f2, .string x0.f3, .int .i64 x0.f4.f0, .int .i64 x0.f4.f1, .slice A0_6 x0.f4.f2.length c0_6, .int .i64 x0.f5.f0, .slice A0_8 x0.f5.f1.length c0_8, .slice A0_9 x0.f5.f2.length c0_9, .slice A0_10 x0.f6.length c0_10, .bool x0.f7, .slice A0_12 x0.f8.length c0_12, .string x0.f9] 64)).alloc (.cells #[.int .i64 x1.f0, .int .i64 x1.f1, .int .i64 x1.f2, .string x1.f3, .int .i64 x1.f4.f0, .int .i64 x1.f4.f1, .slice A1_6 x1.f4.f2.length c1_6, .int .i64 x1.f5.f0, .slice A1_8 x1.f5.f1.length c1_8, .slice A1_9 x1.f5.f2.length c1_9, .slice A1_10 x1.f6.length c1_10, .bool x1.f7, .slice A1_12 x1.f8.length c1_12, .string x1.f9] 64)) => laws_szBlock.does hw0 (left := 1048576) (by omega) (by omega) (On.val hK0' (e.boxed.boxed)))
  obtain ⟨left0, hleft0⟩ : ∃ l : Int, l = szR (hold64 x0) 1048576 := ⟨_, rfl⟩
  simp only [On.boxed_now, ← hleft0] at D0
  by_cases hd0 : left0 < 0
  · have hdd : decide (left0 < 0) = true := decide_eq_true hd0
    clear hw0 hK0' nn0 hw1 hK1' nn1 g0_6 l0_6 g0_8 l0_8 g0_9 l0_9 g0_10 l0_10 g0_12 l0_12 g1_6 l1_6 g1_8 l1_8 g1_9 l1_9 g1_10 l1_10 g1_12 l1_12
    clear hleft0 hd0
    go_enter Try.func12, Try.ntmps12
    go_wp2_with fail
    refine BW.call (e := On.here ((w.alloc (.cells #[.int .i64 x0.f0, .int .i64 x0.f1, .int .i64 x0.f2, .string x0.f3, .int .i64 x0.f4.f0, .int .i64 x0.f4.f1, .slice A0_6 x0.f4.f2.length c0_6, .int .i64 x0.f5.f0, .slice A0_8 x0.f5.f1.length c0_8, .slice A0_9 x0.f5.f2.length c0_9, .slice A0_10 x0.f6.length c0_10, .bool x0.f7, .slice A0_12 x0.f8.length c0_12, .string x0.f9] 64)).alloc (.cells #[.int .i64 x1.f0, .int .i64 x1.f1, .int .i64 x1.f2, .string x1.f3, .int .i64 x1.f4.f0, .int .i64 x1.f4.f1, .slice A1_6 x1.f4.f2.length c1_6, .int .i64 x1.f5.f0, .slice A1_8 x1.f5.f1.length c1_8, .slice A1_9 x1.f5.f2.length c1_9, .slice A1_10 x1.f6.length c1_10, .bool x1.f7, .slice A1_12 x1.f8.length c1_12, .string x1.f9] 64))) (D0.out _) (fun e0 => ?_)
    go_wp2
    go_ret
    exact ⟨rfl, (e0.boxed.boxed).ok⟩
  · have hdd0 : decide (left0 < 0) = false := decide_eq_false hd0
    have hl0 : left0 ≤ 1048576 := by rw [hleft0]; exact szR_up (by omega) (by omega)
    have hm0 : hold64 x0 ≤ 1048576 := by have := mt (szR_lt (h := hold64 x0) (left := 1048576) (by omega)).2 (by rw [← hleft0]; exact hd0); omega
    have hs0 : s64 x0 := small64 hm0
    have D1 := Aside0.mk (fun e : On ((w.alloc (.cells #[.int .i64 x0.f0, .int .i64 x0.f1, .int .i64 x0.f2, .string x0.f3, .int .i64 x0.f4.f0, .int .i64 x0.f4.f1, .slice A0_6 x0.f4.f2.length c0_6, .int .i64 x0.f5.f0, .slice A0_8 x0.f5.f1.length c0_8, .slice A0_9 x0.f5.f2.length c0_9, .slice A0_10 x0.f6.length c0_10, .bool x0.f7, .slice A0_12 x0.f8.length c0_12, .string x0.f9] 64)).alloc (.cells #[.int .i64 x1.f0, .int .i64 x1.f1, .int .i64 x1.f2, .string x1.f3, .int .i64 x1.f4.f0, .int .i64 x1.f4.f1, .slice A1_6 x1.f4.f2.length c1_6, .int .i64 x1.f5.f0, .slice A1_8 x1.f5.f1.length c1_8, .slice A1_9 x1.f5.f2.length c1_9, .slice A1_10 x1.f6.length c1_10, .bool x1.f7, .slice A1_12 x1.f8.length c1_12, .string x1.f9] 64)) => laws_szBlock.does hw1 (left := left0) (by omega) (by omega) (On.val hK1' (e.boxed.boxed)))
    obtain ⟨left1, hleft1⟩ : ∃ l : Int, l = szR (hold64 x1) left0 := ⟨_, rfl⟩
    simp only [On.boxed_now, ← hleft1] at D1
    by_cases hd1 : left1 < 0
    · have hdd : decide (left1 < 0) = true := decide_eq_true hd1
      clear hw0 hK0' nn0 hw1 hK1' nn1 g0_6 l0_6 g0_8 l0_8 g0_9 l0_9 g0_10 l0_10 g0_12 l0_12 g1_6 l1_6 g1_8 l1_8 g1_9 l1_9 g1_10 l1_10 g1_12 l1_12
      clear hleft0 hd0 hleft1 hd1 hl0 hs0 hm0
      go_enter Try.func12, Try.ntmps12
      go_wp2_with fail
      refine BW.call (e := On.here ((w.alloc (.cells #[.int .i64 x0.f0, .int .i64 x0.f1, .int .i64 x0.f2, .string x0.f3, .int .i64 x0.f4.f0, .int .i64 x0.f4.f1, .slice A0_6 x0.f4.f2.length c0_6, .int .i64 x0.f5.f0, .slice A0_8 x0.f5.f1.length c0_8, .slice A0_9 x0.f5.f2.length c0_9, .slice A0_10 x0.f6.length c0_10, .bool x0.f7, .slice A0_12 x0.f8.length c0_12, .string x0.f9] 64)).alloc (.cells #[.int .i64 x1.f0, .int .i64 x1.f1, .int .i64 x1.f2, .string x1.f3, .int .i64 x1.f4.f0, .int .i64 x1.f4.f1, .slice A1_6 x1.f4.f2.length c1_6, .int .i64 x1.f5.f0, .slice A1_8 x1.f5.f1.length c1_8, .slice A1_9 x1.f5.f2.length c1_9, .slice A1_10 x1.f6.length c1_10, .bool x1.f7, .slice A1_12 x1.f8.length c1_12, .string x1.f9] 64))) (D0.out _) (fun e0 => ?_)
      go_wp2_with fail
      refine BW.call (D1.out _) (fun e1 => ?_)
      go_wp2
      go_ret
      exact ⟨rfl, (e1.boxed.boxed).ok⟩
    · have hdd1 : decide (left1 < 0) = false := decide_eq_false hd1
      have hl1 : left1 ≤ 1048576 := by rw [hleft1]; exact szR_up (by omega) (by omega)
      have hm1 : hold64 x1 ≤ 1048576 := by have := mt (szR_lt (h := hold64 x1) (left := left0) (by omega)).2 (by rw [← hleft1]; exact hd1); omega
      have hs1 : s64 x1 := small64 hm1
      have hg0 := long64 hs0
      have hg1 := long64 hs1
      have hz1 : (c64 x0).f4.f2.length ≤ 9223372036854775807 := hg0.1
      have hz2 : (c64 x0).f5.f1.length ≤ 9223372036854775807 := hg0.2.1.1
      have hz3 : (c64 x0).f5.f2.length ≤ 9223372036854775807 := hg0.2.1.2
      have hz4 : (c64 x0).f6.length ≤ 9223372036854775807 := hg0.2.2.1
      have hz5 : (c64 x0).f8.length ≤ 9223372036854775807 := hg0.2.2.2
      have T0 := Aside0.mk (fun e : On w => laws_toBlock.does hs0 (On.val hK0' e))
      have T1 := Aside0.mk (fun e : On w => laws_toBlock.does hs1 (On.val hK1' e))
      have SP := Aside0.mk (fun (W : World) ds0 ds1 (hK0 : k68.K W (c64 x0) ds0) (hK1 : k68.K W (c64 x1) ds1) => spec_SameBlock.does (a := (c64 x0)) (b := (c64 x1)) hz1 hz2 hz3 hz4 hz5 hK0 hK1)
      have IM := Aside0.mk (fun (W : World) ds0 ds1 (hK0 : k68.K W (c64 x0) ds0) (hK1 : k68.K W (c64 x1) ds1) => impl_SameBlock.does (a := (c64 x0)) (b := (c64 x1)) hz1 hz2 hz3 hz4 hz5 hK0 hK1)
      have EQ0 := Aside0.mk (fun (W : World) ds ds' (hK : k68.K W (c64 x0) ds) (hL : k68.K W (c64 x0) ds') => laws_eqBlock.same hg0 hK hL)
      have EQ1 := Aside0.mk (fun (W : World) ds ds' (hK : k68.K W (c64 x1) ds) (hL : k68.K W (c64 x1) ds') => laws_eqBlock.same hg1 hK hL)
      clear hw0 hK0' nn0 hleft0 hd0 hl0 hm0 hs0 hg0 hw1 hK1' nn1 hleft1 hd1 hl1 hm1 hs1 hg1 g0_6 l0_6 g0_8 l0_8 g0_9 l0_9 g0_10 l0_10 g0_12 l0_12 g1_6 l1_6 g1_8 l1_8 g1_9 l1_9 g1_10 l1_10 g1_12 l1_12 hz1 hz2 hz3 hz4 hz5
      generalize hb : sameBlock (c64 x0) (c64 x1) = b at *
      clear hb
      generalize c64 x0 = y0 at *
      generalize c64 x1 = y1 at *
      go_enter Try.func12, Try.ntmps12
      go_wp2_with fail
      refine BW.call (e := On.here ((w.alloc (.cells #[.int .i64 x0.f0, .int .i64 x0.f1, .int .i64 x0.f2, .string x0.f3, .int .i64 x0.f4.f0, .int .i64 x0.f4.f1, .slice A0_6 x0.f4.f2.length c0_6, .int .i64 x0.f5.f0, .slice A0_8 x0.f5.f1.length c0_8, .slice A0_9 x0.f5.f2.length c0_9, .slice A0_10 x0.f6.length c0_10, .bool x0.f7, .slice A0_12 x0.f8.length c0_12, .string x0.f9] 64)).alloc (.cells #[.int .i64 x1.f0, .int .i64 x1.f1, .int .i64 x1.f2, .string x1.f3, .int .i64 x1.f4.f0, .int .i64 x1.f4.f1, .slice A1_6 x1.f4.f2.length c1_6, .int .i64 x1.f5.f0, .slice A1_8 x1.f5.f1.length c1_8, .slice A1_9 x1.f5.f2.length c1_9, .slice A1_10 x1.f6.length c1_10, .bool x1.f7, .slice A1_12 x1.f8.length c1_12, .string x1.f9] 64))) (D0.out _) (fun e0 => ?_)
      go_wp2_with fail
      refine BW.call (D1.out _) (fun e1 => ?_)
      go_wp2_with fail
      have HV : BW.Lasts (VL [IsV (.agg #[.int .i64 x0.f0, .int .i64 x0.f1, .int .i64 x0.f2, .string x0.f3, .int .i64 x0.f4.f0, .int .i64 x0.f4.f1, .slice A0_6 x0.f4.f2.length c0_6, .int .i64 x0.f5.f0, .slice A0_8 x0.f5.f1.length c0_8, .slice A0_9 x0.f5.f2.length c0_9, .slice A0_10 x0.f6.length c0_10, .bool x0.f7, .slice A0_12 x0.f8.length c0_12, .string x0.f9]), AggV k68 y0, IsV (.agg #[.int .i64 x1.f0, .int .i64 x1.f1, .int .i64 x1.f2, .string x1.f3, .int .i64 x1.f4.f0, .int .i64 x1.f4.f1, .slice A1_6 x1.f4.f2.length c1_6, .int .i64 x1.f5.f0, .slice A1_8 x1.f5.f1.length c1_8, .slice A1_9 x1.f5.f2.length c1_9, .slice A1_10 x1.f6.length c1_10, .bool x1.f7, .slice A1_12 x1.f8.length c1_12, .string x1.f9]), AggV k68 y1, IsV (.bool b), IsV (.bool b)]) := lasts_cons (last_is _) (lasts_cons (last_agg _ _) (lasts_cons (last_is _) (lasts_cons (last_agg _ _) (lasts_cons (last_is _) (lasts_cons (last_is _) lasts_nil)))))
      refine BW.loose (n := 6) (by kernel_rfl) rfl (VL [IsV (.agg #[.int .i64 x0.f0, .int .i64 x0.f1, .int .i64 x0.f2, .string x0.f3, .int .i64 x0.f4.f0, .int .i64 x0.f4.f1, .slice A0_6 x0.f4.f2.length c0_6, .int .i64 x0.f5.f0, .slice A0_8 x0.f5.f1.length c0_8, .slice A0_9 x0.f5.f2.length c0_9, .slice A0_10 x0.f6.length c0_10, .bool x0.f7, .slice A0_12 x0.f8.length c0_12, .string x0.f9]), AggV k68 y0, IsV (.agg #[.int .i64 x1.f0, .int .i64 x1.f1, .int .i64 x1.f2, .string x1.f3, .int .i64 x1.f4.f0, .int .i64 x1.f4.f1, .slice A1_6 x1.f4.f2.length c1_6, .int .i64 x1.f5.f0, .slice A1_8 x1.f5.f1.length c1_8, .slice A1_9 x1.f5.f2.length c1_9, .slice A1_10 x1.f6.length c1_10, .bool x1.f7, .slice A1_12 x1.f8.length c1_12, .string x1.f9]), AggV k68 y1, IsV (.bool b), IsV (.bool b)]) HV [(0, 20), (1, 21), (2, 22), (3, 23), (4, 24), (5, 6)] (by kernel_rfl) (by kernel_rfl) (by kernel_rfl) (by rfl) ?_ ?_
      · show ∀ i ∈ [0, 1, 2, 3, 4, 5], _
        refine steps_cons ?_ (steps_cons ?_ (steps_cons ?_ (steps_cons ?_ (steps_cons ?_ (steps_cons ?_ steps_nil)))))
        · exact BW.loose_row HV (k := 0) rfl rfl rfl rfl rfl 64 rfl (by kernel_rfl) rfl e1.boxed.blk rfl rfl rfl (fun e => rfl)
        · refine BW.loose_call HV (k := 1) rfl rfl rfl rfl rfl rfl rfl rfl rfl (fun b e vs hdep hv => ?_)
          have h0 : vs 0 = _ := hv 0 (hdep 0 (by kernel_rfl))
          simp only [List.map_toArray, List.map_cons, List.map_nil]
          rw [eval_on (k := 0) (j := 0) rfl (by kernel_rfl) (hdep 0 (by kernel_rfl)) (by kernel_rfl), h0]
          exact (T0.out (e1.thens e).boxed.boxed).mono fun r W ⟨ds, hr, hR, hb⟩ => ⟨_, hr, ⟨ds, rfl, hR⟩, hb⟩
        · exact BW.loose_row HV (k := 2) rfl rfl rfl rfl rfl 64 rfl (by kernel_rfl) rfl e1.blk2 rfl rfl rfl (fun e => rfl)
        · refine BW.loose_call HV (k := 3) rfl rfl rfl rfl rfl rfl rfl rfl rfl (fun b e vs hdep hv => ?_)
          have h2 : vs 2 = _ := hv 2 (hdep 2 (by kernel_rfl))
          simp only [List.map_toArray, List.map_cons, List.map_nil]
          rw [eval_on (k := 2) (j := 2) rfl (by kernel_rfl) (hdep 2 (by kernel_rfl)) (by kernel_rfl), h2]
          exact (T1.out (e1.thens e).boxed.boxed).mono fun r W ⟨ds, hr, hR, hb⟩ => ⟨_, hr, ⟨ds, rfl, hR⟩, hb⟩
        · refine BW.loose_call HV (k := 4) rfl rfl rfl rfl rfl rfl rfl rfl rfl (fun b e vs hdep hv => ?_)
          obtain ⟨ds1, h1, hk1⟩ : AggV _ _ _ _ := hv 1 (hdep 1 (by kernel_rfl))
          obtain ⟨ds3, h3, hk3⟩ : AggV _ _ _ _ := hv 3 (hdep 3 (by kernel_rfl))
          simp only [List.map_toArray, List.map_cons, List.map_nil]
          rw [eval_on (k := 1) (j := 1) rfl (by kernel_rfl) (hdep 1 (by kernel_rfl)) (by kernel_rfl), h1, eval_on (k := 3) (j := 3) rfl (by kernel_rfl) (hdep 3 (by kernel_rfl)) (by kernel_rfl), h3]
          exact (SP.out _ _ _ hk1 hk3).mono fun r W ⟨hr, hb⟩ => ⟨_, hr, rfl, hb⟩
        · refine BW.loose_run HV (k := 5) rfl rfl rfl rfl rfl (fun b e vs hdep hv => ⟨_, rfl, ?_⟩)
          exact (eval_on (k := 4) (j := 4) rfl (by kernel_rfl) (hdep 4 (by kernel_rfl)) (by kernel_rfl)).trans (hv 4 (hdep 4 (by kernel_rfl)))
      · intro e vs hv
        have h0 : vs 0 = _ := hv 0 (by decide)
        have h2 : vs 2 = _ := hv 2 (by decide)
        have h4 : vs 4 = _ := hv 4 (by decide)
        have h5 : vs 5 = _ := hv 5 (by decide)
        simp only [fillL, List.map_cons, List.map_nil, putSel, if_true, Act.put, List.setIfInBounds_toArray, List.set_cons_zero, List.set_cons_succ]
        rw [h0, h2, h4, h5]
        clear hv HV h0 h2 h4 h5
        obtain ⟨e2, he2⟩ : ∃ e2 : On ((w.alloc (.cells #[.int .i64 x0.f0, .int .i64 x0.f1, .int .i64 x0.f2, .string x0.f3, .int .i64 x0.f4.f0, .int .i64 x0.f4.f1, .slice A0_6 x0.f4.f2.length c0_6, .int .i64 x0.f5.f0, .slice A0_8 x0.f5.f1.length c0_8, .slice A0_9 x0.f5.f2.length c0_9, .slice A0_10 x0.f6.length c0_10, .bool x0.f7, .slice A0_12 x0.f8.length c0_12, .string x0.f9] 64)).alloc (.cells #[.int .i64 x1.f0, .int .i64 x1.f1, .int .i64 x1.f2, .string x1.f3, .int .i64 x1.f4.f0, .int .i64 x1.f4.f1, .slice A1_6 x1.f4.f2.length c1_6, .int .i64 x1.f5.f0, .slice A1_8 x1.f5.f1.length c1_8, .slice A1_9 x1.f5.f2.length c1_9, .slice A1_10 x1.f6.length c1_10, .bool x1.f7, .slice A1_12 x1.f8.length c1_12, .string x1.f9] 64)), e.now = e2.now := ⟨e1.thens e, rfl⟩
        rw [he2]
        clear he2 e
        go_wp2_with fail
        refine (T0.out e2.boxed.boxed).mono ?_
        rintro _ W3 ⟨dz3, rfl, hZ3, hb3⟩
        obtain ⟨e3, rfl⟩ := e2.next hb3
        clear hb3
        have hG0 := hZ3
        obtain ⟨B0_6, d0_6, B0_8, d0_8, B0_9, d0_9, B0_10, d0_10, B0_12, d0_12, rfl, m0_6, h0_6, m0_8, h0_8, m0_9, h0_9, m0_10, h0_10, m0_12, h0_12⟩ := k68_open hZ3
        clear m0_6 h0_6 m0_8 h0_8 m0_9 h0_9 m0_10 h0_10 m0_12 h0_12
        have MB0 := fun e : On (e3.now.alloc (.cells #[.int .i64 y0.f0, .int .i64 y0.f1, .int .i64 y0.f2, .string y0.f3, .int .i64 y0.f4.f0, .int .i64 y0.f4.f1, .slice B0_6 y0.f4.f2.length d0_6, .int .i64 y0.f5.f0, .slice B0_8 y0.f5.f1.length d0_8, .slice B0_9 y0.f5.f2.length d0_9, .slice B0_10 y0.f6.length d0_10, .bool y0.f7, .slice B0_12 y0.f8.length d0_12, .string y0.f9] 68)) => cells14 (On.blk e)
        have N0_0' := On.oldBy MB0 N0_0
        have N0_1' := On.oldBy MB0 N0_1
        have N0_2' := On.oldBy MB0 N0_2
        have N0_3' := On.oldBy MB0 N0_3
        have N0_4' := On.oldBy MB0 N0_4
        have N0_5' := On.oldBy MB0 N0_5
        have N0_6' := On.oldBy MB0 N0_6
        have N0_7' := On.oldBy MB0 N0_7
        have N0_8' := On.oldBy MB0 N0_8
        have N0_9' := On.oldBy MB0 N0_9
        have N0_10' := On.oldBy MB0 N0_10
        have N0_11' := On.oldBy MB0 N0_11
        have N0_12' := On.oldBy MB0 N0_12
        have N0_13' := On.oldBy MB0 N0_13
        have N1_0' := On.oldBy MB0 N1_0
        have N1_1' := On.oldBy MB0 N1_1
        have N1_2' := On.oldBy MB0 N1_2
        have N1_3' := On.oldBy MB0 N1_3
        have N1_4' := On.oldBy MB0 N1_4
        have N1_5' := On.oldBy MB0 N1_5
        have N1_6' := On.oldBy MB0 N1_6
        have N1_7' := On.oldBy MB0 N1_7
        have N1_8' := On.oldBy MB0 N1_8
        have N1_9' := On.oldBy MB0 N1_9
        have N1_10' := On.oldBy MB0 N1_10
        have N1_11' := On.oldBy MB0 N1_11
        have N1_12' := On.oldBy MB0 N1_12
        have N1_13' := On.oldBy MB0 N1_13
        clear N0_0 N0_1 N0_2 N0_3 N0_4 N0_5 N0_6 N0_7 N0_8 N0_9 N0_10 N0_11 N0_12 N0_13 N1_0 N1_1 N1_2 N1_3 N1_4 N1_5 N1_6 N1_7 N1_8 N1_9 N1_10 N1_11 N1_12 N1_13
        have M0_0 := fun e => (MB0 e).1
        have M0_1 := fun e => (MB0 e).2.1
        have M0_2 := fun e => (MB0 e).2.2.1
        have M0_3 := fun e => (MB0 e).2.2.2.1
        have M0_4 := fun e => (MB0 e).2.2.2.2.1
        have M0_5 := fun e => (MB0 e).2.2.2.2.2.1
        have M0_6 := fun e => (MB0 e).2.2.2.2.2.2.1
        have M0_7 := fun e => (MB0 e).2.2.2.2.2.2.2.1
        have M0_8 := fun e => (MB0 e).2.2.2.2.2.2.2.2.1
        have M0_9 := fun e => (MB0 e).2.2.2.2.2.2.2.2.2.1
        have M0_10 := fun e => (MB0 e).2.2.2.2.2.2.2.2.2.2.1
        have M0_11 := fun e => (MB0 e).2.2.2.2.2.2.2.2.2.2.2.1
        have M0_12 := fun e => (MB0 e).2.2.2.2.2.2.2.2.2.2.2.2.1
        have M0_13 := fun e => (MB0 e).2.2.2.2.2.2.2.2.2.2.2.2.2
        clear MB0
        have LN1_0' := N1_0' (On.here (e3.now.alloc (.cells #[.int .i64 y0.f0, .int .i64 y0.f1, .int .i64 y0.f2, .string y0.f3, .int .i64 y0.f4.f0, .int .i64 y0.f4.f1, .slice B0_6 y0.f4.f2.length d0_6, .int .i64 y0.f5.f0, .slice B0_8 y0.f5.f1.length d0_8, .slice B0_9 y0.f5.f2.length d0_9, .slice B0_10 y0.f6.length d0_10, .bool y0.f7, .slice B0_12 y0.f8.length d0_12, .string y0.f9] 68)))
        have LN1_1' := N1_1' (On.here (e3.now.alloc (.cells #[.int .i64 y0.f0, .int .i64 y0.f1, .int .i64 y0.f2, .string y0.f3, .int .i64 y0.f4.f0, .int .i64 y0.f4.f1, .slice B0_6 y0.f4.f2.length d0_6, .int .i64 y0.f5.f0, .slice B0_8 y0.f5.f1.length d0_8, .slice B0_9 y0.f5.f2.length d0_9, .slice B0_10 y0.f6.length d0_10, .bool y0.f7, .slice B0_12 y0.f8.length d0_12, .string y0.f9] 68)))
        have LN1_2' := N1_2' (On.here (e3.now.alloc (.cells #[.int .i64 y0.f0, .int .i64 y0.f1, .int .i64 y0.f2, .string y0.f3, .int .i64 y0.f4.f0, .int .i64 y0.f4.f1, .slice B0_6 y0.f4.f2.length d0_6, .int .i64 y0.f5.f0, .slice B0_8 y0.f5.f1.length d0_8, .slice B0_9 y0.f5.f2.length d0_9, .slice B0_10 y0.f6.length d0_10, .bool y0.f7, .slice B0_12 y0.f8.length d0_12, .string y0.f9] 68)))
        have LN1_3' := N1_3' (On.here (e3.now.alloc (.cells #[.int .i64 y0.f0, .int .i64 y0.f1, .int .i64 y0.f2, .string y0.f3, .int .i64 y0.f4.f0, .int .i64 y0.f4.f1, .slice B0_6 y0.f4.f2.length d0_6, .int .i64 y0.f5.f0, .slice B0_8 y0.f5.f1.length d0_8, .slice B0_9 y0.f5.f2.length d0_9, .slice B0_10 y0.f6.length d0_10, .bool y0.f7, .slice B0_12 y0.f8.length d0_12, .string y0.f9] 68)))
        have LN1_4' := N1_4' (On.here (e3.now.alloc (.cells #[.int .i64 y0.f0, .int .i64 y0.f1, .int .i64 y0.f2, .string y0.f3, .int .i64 y0.f4.f0, .int .i64 y0.f4.f1, .slice B0_6 y0.f4.f2.length d0_6, .int .i64 y0.f5.f0, .slice B0_8 y0.f5.f1.length d0_8, .slice B0_9 y0.f5.f2.length d0_9, .slice B0_10 y0.f6.length d0_10, .bool y0.f7, .slice B0_12 y0.f8.length d0_12, .string y0.f9] 68)))
        have LN1_5' := N1_5' (On.here (e3.now.alloc (.cells #[.int .i64 y0.f0, .int .i64 y0.f1, .int .i64 y0.f2, .string y0.f3, .int .i64 y0.f4.f0, .int .i64 y0.f4.f1, .slice B0_6 y0.f4.f2.length d0_6, .int .i64 y0.f5.f0, .slice B0_8 y0.f5.f1.length d0_8, .slice B0_9 y0.f5.f2.length d0_9, .slice B0_10 y0.f6.length d0_10, .bool y0.f7, .slice B0_12 y0.f8.length d0_12, .string y0.f9] 68)))
        have LN1_6' := N1_6' (On.here (e3.now.alloc (.cells #[.int .i64 y0.f0, .int .i64 y0.f1, .int .i64 y0.f2, .string y0.f3, .int .i64 y0.f4.f0, .int .i64 y0.f4.f1, .slice B0_6 y0.f4.f2.length d0_6, .int .i64 y0.f5.f0, .slice B0_8 y0.f5.f1.length d0_8, .slice B0_9 y0.f5.f2.length d0_9, .slice B0_10 y0.f6.length d0_10, .bool y0.f7, .slice B0_12 y0.f8.length d0_12, .string y0.f9] 68)))
        have LN1_7' := N1_7' (On.here (e3.now.alloc (.cells #[.int .i64 y0.f0, .int .i64 y0.f1, .int .i64 y0.f2, .string y0.f3, .int .i64 y0.f4.f0, .int .i64 y0.f4.f1, .slice B0_6 y0.f4.f2.length d0_6, .int .i64 y0.f5.f0, .slice B0_8 y0.f5.f1.length d0_8, .slice B0_9 y0.f5.f2.length d0_9, .slice B0_10 y0.f6.length d0_10, .bool y0.f7, .slice B0_12 y0.f8.length d0_12, .string y0.f9] 68)))
        have LN1_8' := N1_8' (On.here (e3.now.alloc (.cells #[.int .i64 y0.f0, .int .i64 y0.f1, .int .i64 y0.f2, .string y0.f3, .int .i64 y0.f4.f0, .int .i64 y0.f4.f1, .slice B0_6 y0.f4.f2.length d0_6, .int .i64 y0.f5.f0, .slice B0_8 y0.f5.f1.length d0_8, .slice B0_9 y0.f5.f2.length d0_9, .slice B0_10 y0.f6.length d0_10, .bool y0.f7, .slice B0_12 y0.f8.length d0_12, .string y0.f9] 68)))
        have LN1_9' := N1_9' (On.here (e3.now.alloc (.cells #[.int .i64 y0.f0, .int .i64 y0.f1, .int .i64 y0.f2, .string y0.f3, .int .i64 y0.f4.f0, .int .i64 y0.f4.f1, .slice B0_6 y0.f4.f2.length d0_6, .int .i64 y0.f5.f0, .slice B0_8 y0.f5.f1.length d0_8, .slice B0_9 y0.f5.f2.length d0_9, .slice B0_10 y0.f6.length d0_10, .bool y0.f7, .slice B0_12 y0.f8.length d0_12, .string y0.f9] 68)))
        have LN1_10' := N1_10' (On.here (e3.now.alloc (.cells #[.int .i64 y0.f0, .int .i64 y0.f1, .int .i64 y0.f2, .string y0.f3, .int .i64 y0.f4.f0, .int .i64 y0.f4.f1, .slice B0_6 y0.f4.f2.length d0_6, .int .i64 y0.f5.f0, .slice B0_8 y0.f5.f1.length d0_8, .slice B0_9 y0.f5.f2.length d0_9, .slice B0_10 y0.f6.length d0_10, .bool y0.f7, .slice B0_12 y0.f8.length d0_12, .string y0.f9] 68)))
        have LN1_11' := N1_11' (On.here (e3.now.alloc (.cells #[.int .i64 y0.f0, .int .i64 y0.f1, .int .i64 y0.f2, .string y0.f3, .int .i64 y0.f4.f0, .int .i64 y0.f4.f1, .slice B0_6 y0.f4.f2.length d0_6, .int .i64 y0.f5.f0, .slice B0_8 y0.f5.f1.length d0_8, .slice B0_9 y0.f5.f2.length d0_9, .slice B0_10 y0.f6.length d0_10, .bool y0.f7, .slice B0_12 y0.f8.length d0_12, .string y0.f9] 68)))
        have LN1_12' := N1_12' (On.here (e3.now.alloc (.cells #[.int .i64 y0.f0, .int .i64 y0.f1, .int .i64 y0.f2, .string y0.f3, .int .i64 y0.f4.f0, .int .i64 y0.f4.f1, .slice B0_6 y0.f4.f2.length d0_6, .int .i64 y0.f5.f0, .slice B0_8 y0.f5.f1.length d0_8, .slice B0_9 y0.f5.f2.length d0_9, .slice B0_10 y0.f6.length d0_10, .bool y0.f7, .slice B0_12 y0.f8.length d0_12, .string y0.f9] 68)))
        have LN1_13' := N1_13' (On.here (e3.now.alloc (.cells #[.int .i64 y0.f0, .int .i64 y0.f1, .int .i64 y0.f2, .string y0.f3, .int .i64 y0.f4.f0, .int .i64 y0.f4.f1, .slice B0_6 y0.f4.f2.length d0_6, .int .i64 y0.f5.f0, .slice B0_8 y0.f5.f1.length d0_8, .slice B0_9 y0.f5.f2.length d0_9, .slice B0_10 y0.f6.length d0_10, .bool y0.f7, .slice B0_12 y0.f8.length d0_12, .string y0.f9] 68)))
        simp only [On.here_now] at LN1_0' LN1_1' LN1_2' LN1_3' LN1_4' LN1_5' LN1_6' LN1_7' LN1_8' LN1_9' LN1_10' LN1_11' LN1_12' LN1_13'
        go_wp2_with fail
        clear LN1_0' LN1_1' LN1_2' LN1_3' LN1_4' LN1_5' LN1_6' LN1_7' LN1_8' LN1_9' LN1_10' LN1_11' LN1_12' LN1_13'
        refine (T1.out (e3.up (On.here (e3.now.alloc (.cells #[.int .i64 y0.f0, .int .i64 y0.f1, .int .i64 y0.f2, .string y0.f3, .int .i64 y0.f4.f0, .int .i64 y0.f4.f1, .slice B0_6 y0.f4.f2.length d0_6, .int .i64 y0.f5.f0, .slice B0_8 y0.f5.f1.length d0_8, .slice B0_9 y0.f5.f2.length d0_9, .slice B0_10 y0.f6.length d0_10, .bool y0.f7, .slice B0_12 y0.f8.length d0_12, .string y0.f9] 68)))).boxed.boxed).mono ?_
        rintro _ W4 ⟨dz4, rfl, hZ4, hb4⟩
        obtain ⟨e4, rfl⟩ := (On.here (e3.now.alloc (.cells #[.int .i64 y0.f0, .int .i64 y0.f1, .int .i64 y0.f2, .string y0.f3, .int .i64 y0.f4.f0, .int .i64 y0.f4.f1, .slice B0_6 y0.f4.f2.length d0_6, .int .i64 y0.f5.f0, .slice B0_8 y0.f5.f1.length d0_8, .slice B0_9 y0.f5.f2.length d0_9, .slice B0_10 y0.f6.length d0_10, .bool y0.f7, .slice B0_12 y0.f8.length d0_12, .string y0.f9] 68))).next hb4
        clear hb4
        have hG1 := hZ4
        obtain ⟨B1_6, d1_6, B1_8, d1_8, B1_9, d1_9, B1_10, d1_10, B1_12, d1_12, rfl, m1_6, h1_6, m1_8, h1_8, m1_9, h1_9, m1_10, h1_10, m1_12, h1_12⟩ := k68_open hZ4
        clear m1_6 h1_6 m1_8 h1_8 m1_9 h1_9 m1_10 h1_10 m1_12 h1_12
        have MB1 := fun e : On (e4.now.alloc (.cells #[.int .i64 y1.f0, .int .i64 y1.f1, .int .i64 y1.f2, .string y1.f3, .int .i64 y1.f4.f0, .int .i64 y1.f4.f1, .slice B1_6 y1.f4.f2.length d1_6, .int .i64 y1.f5.f0, .slice B1_8 y1.f5.f1.length d1_8, .slice B1_9 y1.f5.f2.length d1_9, .slice B1_10 y1.f6.length d1_10, .bool y1.f7, .slice B1_12 y1.f8.length d1_12, .string y1.f9] 68)) => cells14 (On.blk e)
        have N0_0'' := On.oldBy MB1 N0_0'
        have N0_1'' := On.oldBy MB1 N0_1'
        have N0_2'' := On.oldBy MB1 N0_2'
        have N0_3'' := On.oldBy MB1 N0_3'
        have N0_4'' := On.oldBy MB1 N0_4'
        have N0_5'' := On.oldBy MB1 N0_5'
        have N0_6'' := On.oldBy MB1 N0_6'
        have N0_7'' := On.oldBy MB1 N0_7'
        have N0_8'' := On.oldBy MB1 N0_8'
        have N0_9'' := On.oldBy MB1 N0_9'
        have N0_10'' := On.oldBy MB1 N0_10'
        have N0_11'' := On.oldBy MB1 N0_11'
        have N0_12'' := On.oldBy MB1 N0_12'
        have N0_13'' := On.oldBy MB1 N0_13'
        have N1_0'' := On.oldBy MB1 N1_0'
        have N1_1'' := On.oldBy MB1 N1_1'
        have N1_2'' := On.oldBy MB1 N1_2'
        have N1_3'' := On.oldBy MB1 N1_3'
        have N1_4'' := On.oldBy MB1 N1_4'
        have N1_5'' := On.oldBy MB1 N1_5'
        have N1_6'' := On.oldBy MB1 N1_6'
        have N1_7'' := On.oldBy MB1 N1_7'
        have N1_8'' := On.oldBy MB1 N1_8'
        have N1_9'' := On.oldBy MB1 N1_9'
        have N1_10'' := On.oldBy MB1 N1_10'
        have N1_11'' := On.oldBy MB1 N1_11'
        have N1_12'' := On.oldBy MB1 N1_12'
        have N1_13'' := On.oldBy MB1 N1_13'
        have M0_0' := On.oldBy MB1 M0_0
        have M0_1' := On.oldBy MB1 M0_1
        have M0_2' := On.oldBy MB1 M0_2
        have M0_3' := On.oldBy MB1 M0_3
        have M0_4' := On.oldBy MB1 M0_4
        have M0_5' := On.oldBy MB1 M0_5
        have M0_6' := On.oldBy MB1 M0_6
        have M0_7' := On.oldBy MB1 M0_7
        have M0_8' := On.oldBy MB1 M0_8
        have M0_9' := On.oldBy MB1 M0_9
        have M0_10' := On.oldBy MB1 M0_10
        have M0_11' := On.oldBy MB1 M0_11
        have M0_12' := On.oldBy MB1 M0_12
        have M0_13' := On.oldBy MB1 M0_13
        clear N0_0' N0_1' N0_2' N0_3' N0_4' N0_5' N0_6' N0_7' N0_8' N0_9' N0_10' N0_11' N0_12' N0_13' N1_0' N1_1' N1_2' N1_3' N1_4' N1_5' N1_6' N1_7' N1_8' N1_9' N1_10' N1_11' N1_12' N1_13' M0_0 M0_1 M0_2 M0_3 M0_4 M0_5 M0_6 M0_7 M0_8 M0_9 M0_10 M0_11 M0_12 M0_13
        have M1_0 := fun e => (MB1 e).1
        have M1_1 := fun e => (MB1 e).2.1
        have M1_2 := fun e => (MB1 e).2.2.1
        have M1_3 := fun e => (MB1 e).2.2.2.1
        have M1_4 := fun e => (MB1 e).2.2.2.2.1
        have M1_5 := fun e => (MB1 e).2.2.2.2.2.1
        have M1_6 := fun e => (MB1 e).2.2.2.2.2.2.1
        have M1_7 := fun e => (MB1 e).2.2.2.2.2.2.2.1
        have M1_8 := fun e => (MB1 e).2.2.2.2.2.2.2.2.1
        have M1_9 := fun e => (MB1 e).2.2.2.2.2.2.2.2.2.1
        have M1_10 := fun e => (MB1 e).2.2.2.2.2.2.2.2.2.2.1
        have M1_11 := fun e => (MB1 e).2.2.2.2.2.2.2.2.2.2.2.1
        have M1_12 := fun e => (MB1 e).2.2.2.2.2.2.2.2.2.2.2.2.1
        have M1_13 := fun e => (MB1 e).2.2.2.2.2.2.2.2.2.2.2.2.2
        clear MB1
        have LM0_0' := M0_0' (On.here (e4.now.alloc (.cells #[.int .i64 y1.f0, .int .i64 y1.f1, .int .i64 y1.f2, .string y1.f3, .int .i64 y1.f4.f0, .int .i64 y1.f4.f1, .slice B1_6 y1.f4.f2.length d1_6, .int .i64 y1.f5.f0, .slice B1_8 y1.f5.f1.length d1_8, .slice B1_9 y1.f5.f2.length d1_9, .slice B1_10 y1.f6.length d1_10, .bool y1.f7, .slice B1_12 y1.f8.length d1_12, .string y1.f9] 68)))
        have LM0_1' := M0_1' (On.here (e4.now.alloc (.cells #[.int .i64 y1.f0, .int .i64 y1.f1, .int .i64 y1.f2, .string y1.f3, .int .i64 y1.f4.f0, .int .i64 y1.f4.f1, .slice B1_6 y1.f4.f2.length d1_6, .int .i64 y1.f5.f0, .slice B1_8 y1.f5.f1.length d1_8, .slice B1_9 y1.f5.f2.length d1_9, .slice B1_10 y1.f6.length d1_10, .bool y1.f7, .slice B1_12 y1.f8.length d1_12, .string y1.f9] 68)))
        have LM0_2' := M0_2' (On.here (e4.now.alloc (.cells #[.int .i64 y1.f0, .int .i64 y1.f1, .int .i64 y1.f2, .string y1.f3, .int .i64 y1.f4.f0, .int .i64 y1.f4.f1, .slice B1_6 y1.f4.f2.length d1_6, .int .i64 y1.f5.f0, .slice B1_8 y1.f5.f1.length d1_8, .slice B1_9 y1.f5.f2.length d1_9, .slice B1_10 y1.f6.length d1_10, .bool y1.f7, .slice B1_12 y1.f8.length d1_12, .string y1.f9] 68)))
        have LM0_3' := M0_3' (On.here (e4.now.alloc (.cells #[.int .i64 y1.f0, .int .i64 y1.f1, .int .i64 y1.f2, .string y1.f3, .int .i64 y1.f4.f0, .int .i64 y1.f4.f1, .slice B1_6 y1.f4.f2.length d1_6, .int .i64 y1.f5.f0, .slice B1_8 y1.f5.f1.length d1_8, .slice B1_9 y1.f5.f2.length d1_9, .slice B1_10 y1.f6.length d1_10, .bool y1.f7, .slice B1_12 y1.f8.length d1_12, .string y1.f9] 68)))
        have LM0_4' := M0_4' (On.here (e4.now.alloc (.cells #[.int .i64 y1.f0, .int .i64 y1.f1, .int .i64 y1.f2, .string y1.f3, .int .i64 y1.f4.f0, .int .i64 y1.f4.f1, .slice B1_6 y1.f4.f2.length d1_6, .int .i64 y1.f5.f0, .slice B1_8 y1.f5.f1.length d1_8, .slice B1_9 y1.f5.f2.length d1_9, .slice B1_10 y1.f6.length d1_10, .bool y1.f7, .slice B1_12 y1.f8.length d1_12, .string y1.f9] 68)))
        have LM0_5' := M0_5' (On.here (e4.now.alloc (.cells #[.int .i64 y1.f0, .int .i64 y1.f1, .int .i64 y1.f2, .string y1.f3, .int .i64 y1.f4.f0, .int .i64 y1.f4.f1, .slice B1_6 y1.f4.f2.length d1_6, .int .i64 y1.f5.f0, .slice B1_8 y1.f5.f1.length d1_8, .slice B1_9 y1.f5.f2.length d1_9, .slice B1_10 y1.f6.length d1_10, .bool y1.f7, .slice B1_12 y1.f8.length d1_12, .string y1.f9] 68)))
        have LM0_6' := M0_6' (On.here (e4.now.alloc (.cells #[.int .i64 y1.f0, .int .i64 y1.f1, .int .i64 y1.f2, .string y1.f3, .int .i64 y1.f4.f0, .int .i64 y1.f4.f1, .slice B1_6 y1.f4.f2.length d1_6, .int .i64 y1.f5.f0, .slice B1_8 y1.f5.f1.length d1_8, .slice B1_9 y1.f5.f2.length d1_9, .slice B1_10 y1.f6.length d1_10, .bool y1.f7, .slice B1_12 y1.f8.length d1_12, .string y1.f9] 68)))
        have LM0_7' := M0_7' (On.here (e4.now.alloc (.cells #[.int .i64 y1.f0, .int .i64 y1.f1, .int .i64 y1.f2, .string y1.f3, .int .i64 y1.f4.f0, .int .i64 y1.f4.f1, .slice B1_6 y1.f4.f2.length d1_6, .int .i64 y1.f5.f0, .slice B1_8 y1.f5.f1.length d1_8, .slice B1_9 y1.f5.f2.length d1_9, .slice B1_10 y1.f6.length d1_10, .bool y1.f7, .slice B1_12 y1.f8.length d1_12, .string y1.f9] 68)))
        have LM0_8' := M0_8' (On.here (e4.now.alloc (.cells #[.int .i64 y1.f0, .int .i64 y1.f1, .int .i64 y1.f2, .string y1.f3, .int .i64 y1.f4.f0, .int .i64 y1.f4.f1, .slice B1_6 y1.f4.f2.length d1_6, .int .i64 y1.f5.f0, .slice B1_8 y1.f5.f1.length d1_8, .slice B1_9 y1.f5.f2.length d1_9, .slice B1_10 y1.f6.length d1_10, .bool y1.f7, .slice B1_12 y1.f8.length d1_12, .string y1.f9] 68)))
        have LM0_9' := M0_9' (On.here (e4.now.alloc (.cells #[.int .i64 y1.f0, .int .i64 y1.f1, .int .i64 y1.f2, .string y1.f3, .int .i64 y1.f4.f0, .int .i64 y1.f4.f1, .slice B1_6 y1.f4.f2.length d1_6, .int .i64 y1.f5.f0, .slice B1_8 y1.f5.f1.length d1_8, .slice B1_9 y1.f5.f2.length d1_9, .slice B1_10 y1.f6.length d1_10, .bool y1.f7, .slice B1_12 y1.f8.length d1_12, .string y1.f9] 68)))
        have LM0_10' := M0_10' (On.here (e4.now.alloc (.cells #[.int .i64 y1.f0, .int .i64 y1.f1, .int .i64 y1.f2, .string y1.f3, .int .i64 y1.f4.f0, .int .i64 y1.f4.f1, .slice B1_6 y1.f4.f2.length d1_6, .int .i64 y1.f5.f0, .slice B1_8 y1.f5.f1.length d1_8, .slice B1_9 y1.f5.f2.length d1_9, .slice B1_10 y1.f6.length d1_10, .bool y1.f7, .slice B1_12 y1.f8.length d1_12, .string y1.f9] 68)))
        have LM0_11' := M0_11' (On.here (e4.now.alloc (.cells #[.int .i64 y1.f0, .int .i64 y1.f1, .int .i64 y1.f2, .string y1.f3, .int .i64 y1.f4.f0, .int .i64 y1.f4.f1, .slice B1_6 y1.f4.f2.length d1_6, .int .i64 y1.f5.f0, .slice B1_8 y1.f5.f1.length d1_8, .slice B1_9 y1.f5.f2.length d1_9, .slice B1_10 y1.f6.length d1_10, .bool y1.f7, .slice B1_12 y1.f8.length d1_12, .string y1.f9] 68)))
        have LM0_12' := M0_12' (On.here (e4.now.alloc (.cells #[.int .i64 y1.f0, .int .i64 y1.f1, .int .i64 y1.f2, .string y1.f3, .int .i64 y1.f4.f0, .int .i64 y1.f4.f1, .slice B1_6 y1.f4.f2.length d1_6, .int .i64 y1.f5.f0, .slice B1_8 y1.f5.f1.length d1_8, .slice B1_9 y1.f5.f2.length d1_9, .slice B1_10 y1.f6.length d1_10, .bool y1.f7, .slice B1_12 y1.f8.length d1_12, .string y1.f9] 68)))
        have LM0_13' := M0_13' (On.here (e4.now.alloc (.cells #[.int .i64 y1.f0, .int .i64 y1.f1, .int .i64 y1.f2, .string y1.f3, .int .i64 y1.f4.f0, .int .i64 y1.f4.f1, .slice B1_6 y1.f4.f2.length d1_6, .int .i64 y1.f5.f0, .slice B1_8 y1.f5.f1.length d1_8, .slice B1_9 y1.f5.f2.length d1_9, .slice B1_10 y1.f6.length d1_10, .bool y1.f7, .slice B1_12 y1.f8.length d1_12, .string y1.f9] 68)))
        simp only [On.here_now] at LM0_0' LM0_1' LM0_2' LM0_3' LM0_4' LM0_5' LM0_6' LM0_7' LM0_8' LM0_9' LM0_10' LM0_11' LM0_12' LM0_13'
        go_wp2_with fail
        clear LM0_0' LM0_1' LM0_2' LM0_3' LM0_4' LM0_5' LM0_6' LM0_7' LM0_8' LM0_9' LM0_10' LM0_11' LM0_12' LM0_13'
        refine BW.call (e := On.here (e4.now.alloc (.cells #[.int .i64 y1.f0, .int .i64 y1.f1, .int .i64 y1.f2, .string y1.f3, .int .i64 y1.f4.f0, .int .i64 y1.f4.f1, .slice B1_6 y1.f4.f2.length d1_6, .int .i64 y1.f5.f0, .slice B1_8 y1.f5.f1.length d1_8, .slice B1_9 y1.f5.f2.length d1_9, .slice B1_10 y1.f6.length d1_10, .bool y1.f7, .slice B1_12 y1.f8.length d1_12, .string y1.f9] 68))) (IM.out _ _ _ (On.val hG0 (e4.up (On.here _)).boxed) (On.val hG1 (On.here _).boxed)) (fun e5 => ?_)
        go_wp2_with fail
        have HV : BW.Lasts (VL [IsV (.agg #[.int .i64 y0.f0, .int .i64 y0.f1, .int .i64 y0.f2, .string y0.f3, .int .i64 y0.f4.f0, .int .i64 y0.f4.f1, .slice B0_6 y0.f4.f2.length d0_6, .int .i64 y0.f5.f0, .slice B0_8 y0.f5.f1.length d0_8, .slice B0_9 y0.f5.f2.length d0_9, .slice B0_10 y0.f6.length d0_10, .bool y0.f7, .slice B0_12 y0.f8.length d0_12, .string y0.f9]), IsV (.agg #[.int .i64 x0.f0, .int .i64 x0.f1, .int .i64 x0.f2, .string x0.f3, .int .i64 x0.f4.f0, .int .i64 x0.f4.f1, .slice A0_6 x0.f4.f2.length c0_6, .int .i64 x0.f5.f0, .slice A0_8 x0.f5.f1.length c0_8, .slice A0_9 x0.f5.f2.length c0_9, .slice A0_10 x0.f6.length c0_10, .bool x0.f7, .slice A0_12 x0.f8.length c0_12, .string x0.f9]), AggV k68 y0, IsV (.bool true), IsV (.bool false)]) := lasts_cons (last_is _) (lasts_cons (last_is _) (lasts_cons (last_agg _ _) (lasts_cons (last_is _) (lasts_cons (last_is _) lasts_nil))))
        refine BW.loose (n := 5) (by kernel_rfl) rfl (VL [IsV (.agg #[.int .i64 y0.f0, .int .i64 y0.f1, .int .i64 y0.f2, .string y0.f3, .int .i64 y0.f4.f0, .int .i64 y0.f4.f1, .slice B0_6 y0.f4.f2.length d0_6, .int .i64 y0.f5.f0, .slice B0_8 y0.f5.f1.length d0_8, .slice B0_9 y0.f5.f2.length d0_9, .slice B0_10 y0.f6.length d0_10, .bool y0.f7, .slice B0_12 y0.f8.length d0_12, .string y0.f9]), IsV (.agg #[.int .i64 x0.f0, .int .i64 x0.f1, .int .i64 x0.f2, .string x0.f3, .int .i64 x0.f4.f0, .int .i64 x0.f4.f1, .slice A0_6 x0.f4.f2.length c0_6, .int .i64 x0.f5.f0, .slice A0_8 x0.f5.f1.length c0_8, .slice A0_9 x0.f5.f2.length c0_9, .slice A0_10 x0.f6.length c0_10, .bool x0.f7, .slice A0_12 x0.f8.length c0_12, .string x0.f9]), AggV k68 y0, IsV (.bool true), IsV (.bool false)]) HV [(0, 35), (1, 36), (2, 37), (3, 38), (4, 39)] (by kernel_rfl) (by kernel_rfl) (by kernel_rfl) (by rfl) ?_ ?_
        · show ∀ i ∈ [0, 1, 2, 3, 4], _
          refine steps_cons ?_ (steps_cons ?_ (steps_cons ?_ (steps_cons ?_ (steps_cons ?_ steps_nil))))
          · exact BW.loose_row HV (k := 0) rfl rfl rfl rfl rfl 68 rfl (by kernel_rfl) rfl (e4.up e5).blk rfl rfl rfl (fun e => rfl)
          · exact BW.loose_row HV (k := 1) rfl rfl rfl rfl rfl 64 rfl (by kernel_rfl) rfl (e3.up (e4.up e5)).boxed.blk rfl rfl rfl (fun e => rfl)
          · refine BW.loose_call HV (k := 2) rfl rfl rfl rfl rfl rfl rfl rfl rfl (fun b e vs hdep hv => ?_)
            have h1 : vs 1 = _ := hv 1 (hdep 1 (by kernel_rfl))
            simp only [List.map_toArray, List.map_cons, List.map_nil]
            rw [eval_on (k := 1) (j := 1) rfl (by kernel_rfl) (hdep 1 (by kernel_rfl)) (by kernel_rfl), h1]
            exact (T0.out (e3.up (e4.up (e5.thens e))).boxed.boxed).mono fun r W ⟨ds, hr, hR, hb⟩ => ⟨_, hr, ⟨ds, rfl, hR⟩, hb⟩
          · refine BW.loose_call HV (k := 3) rfl rfl rfl rfl rfl rfl rfl rfl rfl (fun b e vs hdep hv => ?_)
            have h0 : vs 0 = _ := hv 0 (hdep 0 (by kernel_rfl))
            obtain ⟨ds2, h2, hk2⟩ : AggV _ _ _ _ := hv 2 (hdep 2 (by kernel_rfl))
            simp only [List.map_toArray, List.map_cons, List.map_nil]
            rw [eval_on (k := 0) (j := 0) rfl (by kernel_rfl) (hdep 0 (by kernel_rfl)) (by kernel_rfl), h0, eval_on (k := 2) (j := 2) rfl (by kernel_rfl) (hdep 2 (by kernel_rfl)) (by kernel_rfl), h2]
            exact (EQ0.out _ _ _ (On.val hG0 (e4.up (e5.thens e)).boxed) hk2).mono fun r W ⟨hr, hb⟩ => ⟨_, hr, rfl, hb⟩
          · exact BW.loose_not HV (k := 4) rfl rfl rfl rfl rfl rfl (m := 3) (j := 3) rfl (by kernel_rfl) (by kernel_rfl) (by kernel_rfl) (c := true) (fun W v h => h) (fun W => rfl)
        · intro e vs hv
          have h0 : vs 0 = _ := hv 0 (by decide)
          have h1 : vs 1 = _ := hv 1 (by decide)
          have h3 : vs 3 = _ := hv 3 (by decide)
          have h4 : vs 4 = _ := hv 4 (by decide)
          simp only [fillL, List.map_cons, List.map_nil, putSel, if_true, Act.put, List.setIfInBounds_toArray, List.set_cons_zero, List.set_cons_succ]
          rw [h0, h1, h3, h4]
          clear hv HV h0 h1 h3 h4
          obtain ⟨e6, he6⟩ : ∃ e6 : On (e4.now.alloc (.cells #[.int .i64 y1.f0, .int .i64 y1.f1, .int .i64 y1.f2, .string y1.f3, .int .i64 y1.f4.f0, .int .i64 y1.f4.f1, .slice B1_6 y1.f4.f2.length d1_6, .int .i64 y1.f5.f0, .slice B1_8 y1.f5.f1.length d1_8, .slice B1_9 y1.f5.f2.length d1_9, .slice B1_10 y1.f6.length d1_10, .bool y1.f7, .slice B1_12 y1.f8.length d1_12, .string y1.f9] 68)), e.now = e6.now := ⟨e5.thens e, rfl⟩
          rw [he6]
          clear he6 e
          go_wp2_with fail
          have HV : BW.Lasts (VL [IsV (.agg #[.int .i64 y1.f0, .int .i64 y1.f1, .int .i64 y1.f2, .string y1.f3, .int .i64 y1.f4.f0, .int .i64 y1.f4.f1, .slice B1_6 y1.f4.f2.length d1_6, .int .i64 y1.f5.f0, .slice B1_8 y1.f5.f1.length d1_8, .slice B1_9 y1.f5.f2.length d1_9, .slice B1_10 y1.f6.length d1_10, .bool y1.f7, .slice B1_12 y1.f8.length d1_12, .string y1.f9]), IsV (.agg #[.int .i64 x1.f0, .int .i64 x1.f1, .int .i64 x1.f2, .string x1.f3, .int .i64 x1.f4.f0, .int .i64 x1.f4.f1, .slice A1_6 x1.f4.f2.length c1_6, .int .i64 x1.f5.f0, .slice A1_8 x1.f5.f1.length c1_8, .slice A1_9 x1.f5.f2.length c1_9, .slice A1_10 x1.f6.length c1_10, .bool x1.f7, .slice A1_12 x1.f8.length c1_12, .string x1.f9]), AggV k68 y1, IsV (.bool true), IsV (.bool false)]) := lasts_cons (last_is _) (lasts_cons (last_is _) (lasts_cons (last_agg _ _) (lasts_cons (last_is _) (lasts_cons (last_is _) lasts_nil))))
          refine BW.loose (n := 5) (by kernel_rfl) rfl (VL [IsV (.agg #[.int .i64 y1.f0, .int .i64 y1.f1, .int .i64 y1.f2, .string y1.f3, .int .i64 y1.f4.f0, .int .i64 y1.f4.f1, .slice B1_6 y1.f4.f2.length d1_6, .int .i64 y1.f5.f0, .slice B1_8 y1.f5.f1.length d1_8, .slice B1_9 y1.f5.f2.length d1_9, .slice B1_10 y1.f6.length d1_10, .bool y1.f7, .slice B1_12 y1.f8.length d1_12, .string y1.f9]), IsV (.agg #[.int .i64 x1.f0, .int .i64 x1.f1, .int .i64 x1.f2, .string x1.f3, .int .i64 x1.f4.f0, .int .i64 x1.f4.f1, .slice A1_6 x1.f4.f2.length c1_6, .int .i64 x1.f5.f0, .slice A1_8 x1.f5.f1.length c1_8, .slice A1_9 x1.f5.f2.length c1_9, .slice A1_10 x1.f6.length c1_10, .bool x1.f7, .slice A1_12 x1.f8.length c1_12, .string x1.f9]), AggV k68 y1, IsV (.bool true), IsV (.bool false)]) HV [(0, 40), (1, 41), (2, 42), (3, 43), (4, 44)] (by kernel_rfl) (by kernel_rfl) (by kernel_rfl) (by rfl) ?_ ?_
          · show ∀ i ∈ [0, 1, 2, 3, 4], _
            refine steps_cons ?_ (steps_cons ?_ (steps_cons ?_ (steps_cons ?_ (steps_cons ?_ steps_nil))))
            · exact BW.loose_row HV (k := 0) rfl rfl rfl rfl rfl 68 rfl (by kernel_rfl) rfl e6.blk rfl rfl rfl (fun e => rfl)
            · exact BW.loose_row HV (k := 1) rfl rfl rfl rfl rfl 64 rfl (by kernel_rfl) rfl (e3.up (e4.up e6)).blk2 rfl rfl rfl (fun e => rfl)
            · refine BW.loose_call HV (k := 2) rfl rfl rfl rfl rfl rfl rfl rfl rfl (fun b e vs hdep hv => ?_)
              have h1 : vs 1 = _ := hv 1 (hdep 1 (by kernel_rfl))
              simp only [List.map_toArray, List.map_cons, List.map_nil]
              rw [eval_on (k := 1) (j := 1) rfl (by kernel_rfl) (hdep 1 (by kernel_rfl)) (by kernel_rfl), h1]
              exact (T1.out (e3.up (e4.up (e6.thens e))).boxed.boxed).mono fun r W ⟨ds, hr, hR, hb⟩ => ⟨_, hr, ⟨ds, rfl, hR⟩, hb⟩
            · refine BW.loose_call HV (k := 3) rfl rfl rfl rfl rfl rfl rfl rfl rfl (fun b e vs hdep hv => ?_)
              have h0 : vs 0 = _ := hv 0 (hdep 0 (by kernel_rfl))
              obtain ⟨ds2, h2, hk2⟩ : AggV _ _ _ _ := hv 2 (hdep 2 (by kernel_rfl))
              simp only [List.map_toArray, List.map_cons, List.map_nil]
              rw [eval_on (k := 0) (j := 0) rfl (by kernel_rfl) (hdep 0 (by kernel_rfl)) (by kernel_rfl), h0, eval_on (k := 2) (j := 2) rfl (by kernel_rfl) (hdep 2 (by kernel_rfl)) (by kernel_rfl), h2]
              exact (EQ1.out _ _ _ (On.val hG1 (e6.thens e).boxed) hk2).mono fun r W ⟨hr, hb⟩ => ⟨_, hr, rfl, hb⟩
            · exact BW.loose_not HV (k := 4) rfl rfl rfl rfl rfl rfl (m := 3) (j := 3) rfl (by kernel_rfl) (by kernel_rfl) (by kernel_rfl) (c := true) (fun W v h => h) (fun W => rfl)
          · intro e vs hv
            have h0 : vs 0 = _ := hv 0 (by decide)
            have h1 : vs 1 = _ := hv 1 (by decide)
            have h3 : vs 3 = _ := hv 3 (by decide)
            have h4 : vs 4 = _ := hv 4 (by decide)
            simp only [fillL, List.map_cons, List.map_nil, putSel, if_true, Act.put, List.setIfInBounds_toArray, List.set_cons_zero, List.set_cons_succ]
            rw [h0, h1, h3, h4]
            clear hv HV h0 h1 h3 h4
            obtain ⟨e7, he7⟩ : ∃ e7 : On (e4.now.alloc (.cells #[.int .i64 y1.f0, .int .i64 y1.f1, .int .i64 y1.f2, .string y1.f3, .int .i64 y1.f4.f0, .int .i64 y1.f4.f1, .slice B1_6 y1.f4.f2.length d1_6, .int .i64 y1.f5.f0, .slice B1_8 y1.f5.f1.length d1_8, .slice B1_9 y1.f5.f2.length d1_9, .slice B1_10 y1.f6.length d1_10, .bool y1.f7, .slice B1_12 y1.f8.length d1_12, .string y1.f9] 68)), e.now = e7.now := ⟨e6.thens e, rfl⟩
            rw [he7]
            clear he7 e
            go_wp2
            go_ret
            exact ⟨rfl, ((e3.up (e4.up e7)).boxed.boxed).ok⟩

end Go.Proofs.Ytieecjilnaijkaa.F
