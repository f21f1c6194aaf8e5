/-
Functions of the program, what they come to, and that Go comes to just that: spec_l9Qc, spec_l9Tc, spec_BlockOk, impl_txsOk, impl_BlockOk.
Conditions: those that each theorem names.
-/
import Derived.Test.YtieecjilnaijkaaFAbs
import Derived.Test.YtieecjilnaijkaaF4
import Derived.Test.YtieecjilnaijkaaF5
import Derived.Test.YtieecjilnaijkaaF16
import Derived.Test.YtieecjilnaijkaaF20
import Derived.Test.YtieecjilnaijkaaF22
import Derived.Test.YtieecjilnaijkaaF25
import Derived.Test.YtieecjilnaijkaaF27
import Derived.Test.YtieecjilnaijkaaF29
import Derived.Test.YtieecjilnaijkaaFew
set_option linter.unusedVariables false
set_option linter.unusedSimpArgs false
namespace Go.Proofs.Ytieecjilnaijkaa.F
open Go.RowKit Go.Proofs.YtieecjilnaijkaaW.PrintWords Go.Proofs.YtieecjilnaijkaaW.PrintLast Go.Proofs.Ytieecjilnaijkaa.Base Go.Proofs.Ytieecjilnaijkaa.BW
open Go.Proofs.Ytieecjilnaijkaa.Few

/-! ### spec_l9Qc: function 95 -/
def spec_l9Qc.f (k : Nat) (a0_0 : Int) (a0_1 : Int) (a0_2 : Int) (a0_3 : ByteArray) (a0_4 : Int) (a0_5 : Int) (l0_6 : List ByteArray) (a0_7 : Int) (l0_8 : List ByteArray) (l0_9 : List Int) (l0_10 : List (S106)) (a0_11 : Bool) (l0_12 : List (S93)) (a0_13 : ByteArray) : Option (Bool) := (spec_l8Root.f a0_4 a0_5 l0_6).bind fun t786 => (if t786 = true then (some true) else ((spec_l1In.f a0_4 1 (wrap64 (a0_2 - 1))).bind fun t787 => (if t787 = true then ((spec_l1In.f a0_5 0 (wrap64 (a0_0 - 1))).bind fun t788 => (if t788 = true then ((spec_NamesOk.f k l0_6).bind fun t789 => (some t789)) else (some false))) else (some false))))
theorem spec_l9Qc.mono : ∀ a0 a1 a2 a3 a4 a5 a6 a7 a8 a9 a10 a11 a12 a13 k, LeO (spec_l9Qc.f k a0 a1 a2 a3 a4 a5 a6 a7 a8 a9 a10 a11 a12 a13) (spec_l9Qc.f (k + 1) a0 a1 a2 a3 a4 a5 a6 a7 a8 a9 a10 a11 a12 a13) := by
  intro a0 a1 a2 a3 a4 a5 a6 a7 a8 a9 a10 a11 a12 a13 k
  unfold spec_l9Qc.f
  repeat' first
      | (with_reducible exact spec_NamesOk.mono _ _)
      | (with_reducible exact LeO.refl _)
      | (with_reducible exact LeO.none _)
      | (with_reducible refine LeO.ite ?_ ?_)
      | (with_reducible refine LeO.bind ?_ (fun _ => ?_))
      | exact spec_NamesOk.mono _ _
      | exact LeO.none _
      | refine LeO.ite ?_ ?_
      | refine LeO.bind ?_ (fun _ => ?_)
set_option maxHeartbeats 8000000 in
set_option maxRecDepth 100000 in
theorem spec_l9Qc.calls (k : Nat) (a0_0 : Int) (a0_1 : Int) (a0_2 : Int) (a0_3 : ByteArray) (a0_4 : Int) (a0_5 : Int) (A0_6 : Option Addr) (c0_6 : Nat) (l0_6 : List ByteArray) (a0_7 : Int) (A0_8 : Option Addr) (c0_8 : Nat) (l0_8 : List ByteArray) (A0_9 : Option Addr) (c0_9 : Nat) (l0_9 : List Int) (A0_10 : Option Addr) (c0_10 : Nat) (l0_10 : List (S106)) (a0_11 : Bool) (A0_12 : Option Addr) (c0_12 : Nat) (l0_12 : List (S93)) (a0_13 : ByteArray) (r : Bool) (w : World) (hr0_6 : Kd.C Kd.string w A0_6 l0_6.length l0_6) (hc0_6 : l0_6.length ≤ c0_6) (hr0_8 : Kd.C Kd.string w A0_8 l0_8.length l0_8) (hc0_8 : l0_8.length ≤ c0_8) (hr0_9 : Kd.C (Kd.int .i64) w A0_9 l0_9.length l0_9) (hc0_9 : l0_9.length ≤ c0_9) (hr0_10 : Kd.C k106 w A0_10 l0_10.length l0_10) (hc0_10 : l0_10.length ≤ c0_10) (hr0_12 : Kd.C k93 w A0_12 l0_12.length l0_12) (hc0_12 : l0_12.length ≤ c0_12) (h : spec_l9Qc.f k a0_0 a0_1 a0_2 a0_3 a0_4 a0_5 l0_6 a0_7 l0_8 l0_9 l0_10 a0_11 l0_12 a0_13 = some r) :
    Calls Try.prog 95 #[.agg #[.int .i64 a0_0, .int .i64 a0_1, .int .i64 a0_2, .string a0_3, .int .i64 a0_4, .int .i64 a0_5, .slice A0_6 l0_6.length c0_6, .int .i64 a0_7, .slice A0_8 l0_8.length c0_8, .slice A0_9 l0_9.length c0_9, .slice A0_10 l0_10.length c0_10, .bool a0_11, .slice A0_12 l0_12.length c0_12, .string a0_13]] w fun e w' => e = .returned (.bool r) ∧ Below w.heap.size w w' := by
  have hu68 := Try.underlying68
  have hu57 := Try.underlying57
  have HR0_6 := Aside0.mk hr0_6
  have HC0_6 := Aside0.mk hc0_6
  clear hr0_6 hc0_6
  have HR0_8 := Aside0.mk hr0_8
  have HC0_8 := Aside0.mk hc0_8
  clear hr0_8 hc0_8
  have HR0_9 := Aside0.mk hr0_9
  have HC0_9 := Aside0.mk hc0_9
  clear hr0_9 hc0_9
  have HR0_10 := Aside0.mk hr0_10
  have HC0_10 := Aside0.mk hc0_10
  clear hr0_10 hc0_10
  have HR0_12 := Aside0.mk hr0_12
  have HC0_12 := Aside0.mk hc0_12
  clear hr0_12 hc0_12
  have HB := Aside0.mk (Below.refl w.heap.size w)
  have H : ((spec_l8Root.f a0_4 a0_5 l0_6).bind fun t786 => (if t786 = true then (some true) else ((spec_l1In.f a0_4 1 (wrap64 (a0_2 - 1))).bind fun t787 => (if t787 = true then ((spec_l1In.f a0_5 0 (wrap64 (a0_0 - 1))).bind fun t788 => (if t788 = true then ((spec_NamesOk.f k l0_6).bind fun t789 => (some t789)) else (some false))) else (some false))))) = some r := h
  clear h
  replace H := Option.bind_eq_some_iff.mp H
  obtain ⟨t786, A20, H⟩ := H
  replace H : (if t786 = true then (some true) else ((spec_l1In.f a0_4 1 (wrap64 (a0_2 - 1))).bind fun t787 => (if t787 = true then ((spec_l1In.f a0_5 0 (wrap64 (a0_0 - 1))).bind fun t788 => (if t788 = true then ((spec_NamesOk.f k l0_6).bind fun t789 => (some t789)) else (some false))) else (some false)))) = some r := H
  have A2 := Aside0.mk A20
  clear A20
  by_cases c3 : t786 = true
  · subst c3
    have H1 : (some true) = some r := by rw [if_pos rfl] at H; exact H
    clear H
    have H := H1
    clear H1
    obtain rfl := Option.some.inj H
    go_enter Try.func95, Try.ntmps95
    go_wp2_with (first | ((with_reducible refine gate_dst (N := 1) rfl ?_); refine box_event ?hg (N := 1) ?hd (cs := #[.int .i64 a0_0, .int .i64 a0_1, .int .i64 a0_2, .string a0_3, .int .i64 a0_4, .int .i64 a0_5, .slice A0_6 l0_6.length c0_6, .int .i64 a0_7, .slice A0_8 l0_8.length c0_8, .slice A0_9 l0_9.length c0_9, .slice A0_10 l0_10.length c0_10, .bool a0_11, .slice A0_12 l0_12.length c0_12, .string a0_13]) (t := 68) ?hr ?_; (case hd => rfl); (case hg => rfl); (case hr => first | (go_simp; done) | (go_simp; rfl)); intro gb784 hg w4 hbox hb; have n0_ := Aside0.mk (below_step (by repeat (first | (with_reducible first | exact HB.out | apply below_alloc | apply pw_below_drewN | apply below_drew1) | exact HB.out)) hb); have n1_ := Aside0.mk (hbox); have n2_ := Aside0.mk ((by rw [hg]; exact (below_size (by repeat (first | (with_reducible first | exact HB.out | apply below_alloc | apply pw_below_drewN | apply below_drew1) | exact HB.out))) : w.heap.size ≤ gb784)); have n3_ := n2_; clear HB; have HB := n0_; have BK784 := n1_; have GW784 := n2_; have GE784 := n3_; clear n0_ n1_ n2_ n3_; clear hb hbox hg; obtain ⟨hcz5_0, hcz5_1, hcz5_2, hcz5_3, hcz5_4, hcz5_5, hcz5_6, hcz5_7, hcz5_8, hcz5_9, hcz5_10, hcz5_11, hcz5_12, hcz5_13⟩ := cells14 BK784.out; obtain ⟨hfz5_0, hfz5_1, hfz5_2, hfz5_3, hfz5_4, hfz5_5, hfz5_6, hfz5_7, hfz5_8, hfz5_9, hfz5_10, hfz5_11, hfz5_12, hfz5_13⟩ := frozens14 BK784.out) | ((with_reducible refine gate_dst (N := 3) rfl ?_); refine box_event ?hg (N := 3) ?hd (cs := #[.int .i64 0, .int .i64 0, .slice none 0 0]) (t := 57) ?hr ?_; (case hd => rfl); (case hg => rfl); (case hr => first | (go_simp; done) | (go_simp; rfl)); intro gb785 hg w6 hbox hb; have n0_ := Aside0.mk (blk_below (g := gb784) (by (with_reducible repeat (first | refine blk_drewN ?_ _ | refine blk_drew ?_ | refine blk_alloc ?_ _)); exact BK784.out) hb); have n1_ := Aside0.mk (below_step (by repeat (first | (with_reducible first | exact HB.out | apply below_alloc | apply pw_below_drewN | apply below_drew1 | refine below_set ?_ GE784.out) | exact HB.out)) hb); have n2_ := Aside0.mk (hbox); have n3_ := Aside0.mk ((by rw [hg]; exact (below_size (by repeat (first | (with_reducible first | exact HB.out | apply below_alloc | apply pw_below_drewN | apply below_drew1 | refine below_set ?_ GE784.out) | exact HB.out))) : w.heap.size ≤ gb785)); have n4_ := Aside0.mk ((by rw [hg]; exact (below_size (by repeat (first | (with_reducible first | exact HB.out | apply below_alloc | apply pw_below_drewN | apply below_drew1 | refine below_set ?_ GE784.out) | exact HB.out))) : w.heap.size ≤ gb785)); have n5_ := Aside0.mk ((by rw [hg]; exact Nat.ne_of_lt (blk_lt (g := gb784) (o := .cells #[.int .i64 a0_0, .int .i64 a0_1, .int .i64 a0_2, .string a0_3, .int .i64 a0_4, .int .i64 a0_5, .slice A0_6 l0_6.length c0_6, .int .i64 a0_7, .slice A0_8 l0_8.length c0_8, .slice A0_9 l0_9.length c0_9, .slice A0_10 l0_10.length c0_10, .bool a0_11, .slice A0_12 l0_12.length c0_12, .string a0_13] 68 (0, 0)) (by (with_reducible repeat (first | refine blk_drewN ?_ _ | refine blk_drew ?_ | refine blk_alloc ?_ _)); exact BK784.out)) : gb784 ≠ gb785)); have n6_ := Aside0.mk ((by rw [hg]; exact Nat.ne_of_gt (blk_lt (g := gb784) (o := .cells #[.int .i64 a0_0, .int .i64 a0_1, .int .i64 a0_2, .string a0_3, .int .i64 a0_4, .int .i64 a0_5, .slice A0_6 l0_6.length c0_6, .int .i64 a0_7, .slice A0_8 l0_8.length c0_8, .slice A0_9 l0_9.length c0_9, .slice A0_10 l0_10.length c0_10, .bool a0_11, .slice A0_12 l0_12.length c0_12, .string a0_13] 68 (0, 0)) (by (with_reducible repeat (first | refine blk_drewN ?_ _ | refine blk_drew ?_ | refine blk_alloc ?_ _)); exact BK784.out)) : gb785 ≠ gb784)); clear BK784; clear HB; have BK784 := n0_; have HB := n1_; have BK785 := n2_; have GW785 := n3_; have GE785 := n4_; have NB784_785 := n5_; have NB785_784 := n6_; clear n0_ n1_ n2_ n3_ n4_ n5_ n6_; clear hb hbox hg; have hnb7 := NB785_784.out; have hnc7 := NB784_785.out; obtain ⟨hcz8_0, hcz8_1, hcz8_2⟩ := cells3 BK785.out; obtain ⟨hfz8_0, hfz8_1, hfz8_2⟩ := frozens3 BK785.out) | ((with_reducible refine gate_callee (f := 79) rfl ?_); refine goesL_ (some 7) rfl rfl Try.func79 (by kernel_rfl) rfl #[.agg #[.int .i64 a0_4, .int .i64 a0_5, .slice A0_6 l0_6.length c0_6]] rfl (by (try simp only [List.map_toArray, List.map_cons, List.map_nil]); first | done | rfl | (simp only [List.length_drop, List.length_take]; rfl)) ?_; (with_reducible refine (spec_l8Root.calls a0_4 a0_5 _ _ l0_6 true _ ?side1 ?side2 A2.out).mono ?_); (case side1 => exact Kd.C_below HR0_6.out (by repeat (first | (with_reducible first | exact HB.out | apply below_alloc | apply pw_below_drewN | apply below_drew1 | refine below_set ?_ GE784.out | refine below_set ?_ GE785.out) | exact HB.out))); (case side2 => exact HC0_6.out); rintro e w9 ⟨rfl, hb⟩; refine ⟨_, rfl, ?_⟩; have n0_ := Aside0.mk (blk_below (g := gb784) (o := .cells #[.int .i64 a0_0, .int .i64 a0_1, .int .i64 a0_2, .string a0_3, .int .i64 a0_4, .int .i64 a0_5, .slice A0_6 l0_6.length c0_6, .int .i64 a0_7, .slice A0_8 l0_8.length c0_8, .slice A0_9 l0_9.length c0_9, .slice A0_10 l0_10.length c0_10, .bool a0_11, .slice A0_12 l0_12.length c0_12, .string a0_13] 68 (0, 0)) (by (with_reducible repeat (first | refine blk_drewN ?_ _ | refine blk_drew ?_ | refine blk_alloc ?_ _)); refine blk_far ?_ NB784_785.out _; (with_reducible repeat (first | refine blk_drewN ?_ _ | refine blk_drew ?_ | refine blk_alloc ?_ _)); refine blk_far ?_ NB784_785.out _; (with_reducible repeat (first | refine blk_drewN ?_ _ | refine blk_drew ?_ | refine blk_alloc ?_ _)); refine blk_far ?_ NB784_785.out _; (with_reducible repeat (first | refine blk_drewN ?_ _ | refine blk_drew ?_ | refine blk_alloc ?_ _)); exact BK784.out) hb); have n1_ := Aside0.mk (blk_below (g := gb785) (o := .cells #[.int .i64 a0_4, .int .i64 a0_5, .slice A0_6 l0_6.length c0_6] 57 (0, 0)) (by (with_reducible repeat (first | refine blk_drewN ?_ _ | refine blk_drew ?_ | refine blk_alloc ?_ _)); refine blk_put (cs := #[.int .i64 a0_4, .int .i64 a0_5, .slice none 0 0]) ?_ 2 _ rfl; (with_reducible repeat (first | refine blk_drewN ?_ _ | refine blk_drew ?_ | refine blk_alloc ?_ _)); refine blk_put (cs := #[.int .i64 a0_4, .int .i64 0, .slice none 0 0]) ?_ 1 _ rfl; (with_reducible repeat (first | refine blk_drewN ?_ _ | refine blk_drew ?_ | refine blk_alloc ?_ _)); refine blk_put (cs := #[.int .i64 0, .int .i64 0, .slice none 0 0]) ?_ 0 _ rfl; (with_reducible repeat (first | refine blk_drewN ?_ _ | refine blk_drew ?_ | refine blk_alloc ?_ _)); exact BK785.out) hb); have n2_ := Aside0.mk (below_step (by repeat (first | (with_reducible first | exact HB.out | apply below_alloc | apply pw_below_drewN | apply below_drew1 | refine below_set ?_ GE784.out | refine below_set ?_ GE785.out) | exact HB.out)) hb); clear BK784; clear BK785; clear HB; have BK784 := n0_; have BK785 := n1_; have HB := n2_; clear n0_ n1_ n2_; (try clear hb); (try clear hb2); (try clear hk); (try clear hi)))
    go_ret
    exact ⟨by first | rfl | (simp [errW_none, errW_some] <;> rfl) | (simp [*, errW_none, errW_some] <;> rfl), by repeat (first | (with_reducible first | exact HB.out | apply below_alloc | apply pw_below_drewN | apply below_drew1 | refine below_set ?_ GE784.out | refine below_set ?_ GE785.out) | exact HB.out)⟩
  · replace c3 := Bool.eq_false_iff.mpr c3
    subst c3
    have H1 : ((spec_l1In.f a0_4 1 (wrap64 (a0_2 - 1))).bind fun t787 => (if t787 = true then ((spec_l1In.f a0_5 0 (wrap64 (a0_0 - 1))).bind fun t788 => (if t788 = true then ((spec_NamesOk.f k l0_6).bind fun t789 => (some t789)) else (some false))) else (some false))) = some r := by rw [if_neg (show ¬ (false = true) by decide)] at H; exact H
    clear H
    have H := H1
    clear H1
    replace H := Option.bind_eq_some_iff.mp H
    obtain ⟨t787, A100, H⟩ := H
    replace H : (if t787 = true then ((spec_l1In.f a0_5 0 (wrap64 (a0_0 - 1))).bind fun t788 => (if t788 = true then ((spec_NamesOk.f k l0_6).bind fun t789 => (some t789)) else (some false))) else (some false)) = some r := H
    have A10 := Aside0.mk A100
    clear A100
    by_cases c11 : t787 = true
    · subst c11
      have H1 : ((spec_l1In.f a0_5 0 (wrap64 (a0_0 - 1))).bind fun t788 => (if t788 = true then ((spec_NamesOk.f k l0_6).bind fun t789 => (some t789)) else (some false))) = some r := by rw [if_pos rfl] at H; exact H
      clear H
      have H := H1
      clear H1
      replace H := Option.bind_eq_some_iff.mp H
      obtain ⟨t788, A120, H⟩ := H
      replace H : (if t788 = true then ((spec_NamesOk.f k l0_6).bind fun t789 => (some t789)) else (some false)) = some r := H
      have A12 := Aside0.mk A120
      clear A120
      by_cases c13 : t788 = true
      · subst c13
        have H1 : ((spec_NamesOk.f k l0_6).bind fun t789 => (some t789)) = some r := by rw [if_pos rfl] at H; exact H
        clear H
        have H := H1
        clear H1
        replace H := Option.bind_eq_some_iff.mp H
        obtain ⟨t789, A140, H⟩ := H
        replace H : (some t789) = some r := H
        have A14 := Aside0.mk A140
        clear A140
        obtain rfl := Option.some.inj H
        go_enter Try.func95, Try.ntmps95
        go_wp2_with (first | ((with_reducible refine gate_dst (N := 1) rfl ?_); refine box_event ?hg (N := 1) ?hd (cs := #[.int .i64 a0_0, .int .i64 a0_1, .int .i64 a0_2, .string a0_3, .int .i64 a0_4, .int .i64 a0_5, .slice A0_6 l0_6.length c0_6, .int .i64 a0_7, .slice A0_8 l0_8.length c0_8, .slice A0_9 l0_9.length c0_9, .slice A0_10 l0_10.length c0_10, .bool a0_11, .slice A0_12 l0_12.length c0_12, .string a0_13]) (t := 68) ?hr ?_; (case hd => rfl); (case hg => rfl); (case hr => first | (go_simp; done) | (go_simp; rfl)); intro gb784 hg w15 hbox hb; have n0_ := Aside0.mk (below_step (by repeat (first | (with_reducible first | exact HB.out | apply below_alloc | apply pw_below_drewN | apply below_drew1) | exact HB.out)) hb); have n1_ := Aside0.mk (hbox); have n2_ := Aside0.mk ((by rw [hg]; exact (below_size (by repeat (first | (with_reducible first | exact HB.out | apply below_alloc | apply pw_below_drewN | apply below_drew1) | exact HB.out))) : w.heap.size ≤ gb784)); have n3_ := n2_; clear HB; have HB := n0_; have BK784 := n1_; have GW784 := n2_; have GE784 := n3_; clear n0_ n1_ n2_ n3_; clear hb hbox hg; obtain ⟨hcz16_0, hcz16_1, hcz16_2, hcz16_3, hcz16_4, hcz16_5, hcz16_6, hcz16_7, hcz16_8, hcz16_9, hcz16_10, hcz16_11, hcz16_12, hcz16_13⟩ := cells14 BK784.out; obtain ⟨hfz16_0, hfz16_1, hfz16_2, hfz16_3, hfz16_4, hfz16_5, hfz16_6, hfz16_7, hfz16_8, hfz16_9, hfz16_10, hfz16_11, hfz16_12, hfz16_13⟩ := frozens14 BK784.out) | ((with_reducible refine gate_dst (N := 3) rfl ?_); refine box_event ?hg (N := 3) ?hd (cs := #[.int .i64 0, .int .i64 0, .slice none 0 0]) (t := 57) ?hr ?_; (case hd => rfl); (case hg => rfl); (case hr => first | (go_simp; done) | (go_simp; rfl)); intro gb785 hg w17 hbox hb; have n0_ := Aside0.mk (blk_below (g := gb784) (by (with_reducible repeat (first | refine blk_drewN ?_ _ | refine blk_drew ?_ | refine blk_alloc ?_ _)); exact BK784.out) hb); have n1_ := Aside0.mk (below_step (by repeat (first | (with_reducible first | exact HB.out | apply below_alloc | apply pw_below_drewN | apply below_drew1 | refine below_set ?_ GE784.out) | exact HB.out)) hb); have n2_ := Aside0.mk (hbox); have n3_ := Aside0.mk ((by rw [hg]; exact (below_size (by repeat (first | (with_reducible first | exact HB.out | apply below_alloc | apply pw_below_drewN | apply below_drew1 | refine below_set ?_ GE784.out) | exact HB.out))) : w.heap.size ≤ gb785)); have n4_ := Aside0.mk ((by rw [hg]; exact (below_size (by repeat (first | (with_reducible first | exact HB.out | apply below_alloc | apply pw_below_drewN | apply below_drew1 | refine below_set ?_ GE784.out) | exact HB.out))) : w.heap.size ≤ gb785)); have n5_ := Aside0.mk ((by rw [hg]; exact Nat.ne_of_lt (blk_lt (g := gb784) (o := .cells #[.int .i64 a0_0, .int .i64 a0_1, .int .i64 a0_2, .string a0_3, .int .i64 a0_4, .int .i64 a0_5, .slice A0_6 l0_6.length c0_6, .int .i64 a0_7, .slice A0_8 l0_8.length c0_8, .slice A0_9 l0_9.length c0_9, .slice A0_10 l0_10.length c0_10, .bool a0_11, .slice A0_12 l0_12.length c0_12, .string a0_13] 68 (0, 0)) (by (with_reducible repeat (first | refine blk_drewN ?_ _ | refine blk_drew ?_ | refine blk_alloc ?_ _)); exact BK784.out)) : gb784 ≠ gb785)); have n6_ := Aside0.mk ((by rw [hg]; exact Nat.ne_of_gt (blk_lt (g := gb784) (o := .cells #[.int .i64 a0_0, .int .i64 a0_1, .int .i64 a0_2, .string a0_3, .int .i64 a0_4, .int .i64 a0_5, .slice A0_6 l0_6.length c0_6, .int .i64 a0_7, .slice A0_8 l0_8.length c0_8, .slice A0_9 l0_9.length c0_9, .slice A0_10 l0_10.length c0_10, .bool a0_11, .slice A0_12 l0_12.length c0_12, .string a0_13] 68 (0, 0)) (by (with_reducible repeat (first | refine blk_drewN ?_ _ | refine blk_drew ?_ | refine blk_alloc ?_ _)); exact BK784.out)) : gb785 ≠ gb784)); clear BK784; clear HB; have BK784 := n0_; have HB := n1_; have BK785 := n2_; have GW785 := n3_; have GE785 := n4_; have NB784_785 := n5_; have NB785_784 := n6_; clear n0_ n1_ n2_ n3_ n4_ n5_ n6_; clear hb hbox hg; have hnb18 := NB785_784.out; have hnc18 := NB784_785.out; obtain ⟨hcz19_0, hcz19_1, hcz19_2⟩ := cells3 BK785.out; obtain ⟨hfz19_0, hfz19_1, hfz19_2⟩ := frozens3 BK785.out) | ((with_reducible refine gate_callee (f := 79) rfl ?_); refine goesL_ (some 7) rfl rfl Try.func79 (by kernel_rfl) rfl #[.agg #[.int .i64 a0_4, .int .i64 a0_5, .slice A0_6 l0_6.length c0_6]] rfl (by (try simp only [List.map_toArray, List.map_cons, List.map_nil]); first | done | rfl | (simp only [List.length_drop, List.length_take]; rfl)) ?_; (with_reducible refine (spec_l8Root.calls a0_4 a0_5 _ _ l0_6 false _ ?side1 ?side2 A2.out).mono ?_); (case side1 => exact Kd.C_below HR0_6.out (by repeat (first | (with_reducible first | exact HB.out | apply below_alloc | apply pw_below_drewN | apply below_drew1 | refine below_set ?_ GE784.out | refine below_set ?_ GE785.out) | exact HB.out))); (case side2 => exact HC0_6.out); rintro e w20 ⟨rfl, hb⟩; refine ⟨_, rfl, ?_⟩; have n0_ := Aside0.mk (blk_below (g := gb784) (o := .cells #[.int .i64 a0_0, .int .i64 a0_1, .int .i64 a0_2, .string a0_3, .int .i64 a0_4, .int .i64 a0_5, .slice A0_6 l0_6.length c0_6, .int .i64 a0_7, .slice A0_8 l0_8.length c0_8, .slice A0_9 l0_9.length c0_9, .slice A0_10 l0_10.length c0_10, .bool a0_11, .slice A0_12 l0_12.length c0_12, .string a0_13] 68 (0, 0)) (by (with_reducible repeat (first | refine blk_drewN ?_ _ | refine blk_drew ?_ | refine blk_alloc ?_ _)); refine blk_far ?_ NB784_785.out _; (with_reducible repeat (first | refine blk_drewN ?_ _ | refine blk_drew ?_ | refine blk_alloc ?_ _)); refine blk_far ?_ NB784_785.out _; (with_reducible repeat (first | refine blk_drewN ?_ _ | refine blk_drew ?_ | refine blk_alloc ?_ _)); refine blk_far ?_ NB784_785.out _; (with_reducible repeat (first | refine blk_drewN ?_ _ | refine blk_drew ?_ | refine blk_alloc ?_ _)); exact BK784.out) hb); have n1_ := Aside0.mk (blk_below (g := gb785) (o := .cells #[.int .i64 a0_4, .int .i64 a0_5, .slice A0_6 l0_6.length c0_6] 57 (0, 0)) (by (with_reducible repeat (first | refine blk_drewN ?_ _ | refine blk_drew ?_ | refine blk_alloc ?_ _)); refine blk_put (cs := #[.int .i64 a0_4, .int .i64 a0_5, .slice none 0 0]) ?_ 2 _ rfl; (with_reducible repeat (first | refine blk_drewN ?_ _ | refine blk_drew ?_ | refine blk_alloc ?_ _)); refine blk_put (cs := #[.int .i64 a0_4, .int .i64 0, .slice none 0 0]) ?_ 1 _ rfl; (with_reducible repeat (first | refine blk_drewN ?_ _ | refine blk_drew ?_ | refine blk_alloc ?_ _)); refine blk_put (cs := #[.int .i64 0, .int .i64 0, .slice none 0 0]) ?_ 0 _ rfl; (with_reducible repeat (first | refine blk_drewN ?_ _ | refine blk_drew ?_ | refine blk_alloc ?_ _)); exact BK785.out) hb); have n2_ := Aside0.mk (below_step (by repeat (first | (with_reducible first | exact HB.out | apply below_alloc | apply pw_below_drewN | apply below_drew1 | refine below_set ?_ GE784.out | refine below_set ?_ GE785.out) | exact HB.out)) hb); clear BK784; clear BK785; clear HB; have BK784 := n0_; have BK785 := n1_; have HB := n2_; clear n0_ n1_ n2_; (try clear hb); (try clear hb2); (try clear hk); (try clear hi); obtain ⟨hcz21_0, hcz21_1, hcz21_2⟩ := cells3 BK785.out; obtain ⟨hfz21_0, hfz21_1, hfz21_2⟩ := frozens3 BK785.out; obtain ⟨hcz22_0, hcz22_1, hcz22_2, hcz22_3, hcz22_4, hcz22_5, hcz22_6, hcz22_7, hcz22_8, hcz22_9, hcz22_10, hcz22_11, hcz22_12, hcz22_13⟩ := cells14 BK784.out; obtain ⟨hfz22_0, hfz22_1, hfz22_2, hfz22_3, hfz22_4, hfz22_5, hfz22_6, hfz22_7, hfz22_8, hfz22_9, hfz22_10, hfz22_11, hfz22_12, hfz22_13⟩ := frozens14 BK784.out) | ((with_reducible refine gate_callee (f := 64) rfl ?_); refine goesL_ (some 13) rfl rfl Try.func64 (by kernel_rfl) rfl #[.int .i64 a0_4, .int .i64 1, .int .i64 (wrap64 (a0_2 - 1))] rfl (by (try simp only [List.map_toArray, List.map_cons, List.map_nil]); first | done | rfl | (simp only [List.length_drop, List.length_take]; rfl)) ?_; (with_reducible refine (spec_l1In.calls a0_4 1 (wrap64 (a0_2 - 1)) true _ A10.out).mono ?_); rintro e w' ⟨rfl, ⟨nd, rfl⟩⟩; refine ⟨_, rfl, ?_⟩) | (go_at_call 64; (with_reducible refine (spec_l1In.calls a0_5 0 (wrap64 (a0_0 - 1)) true _ A12.out).mono ?_); rintro e w' ⟨rfl, ⟨nd, rfl⟩⟩) | (go_at_call 116; (with_reducible refine (spec_NamesOk.calls k _ _ l0_6 t789 _ ?side1 ?side2 A14.out).mono ?_); (case side1 => repeat (first | exact (Kd.C_below HR0_6.out (by repeat (first | (with_reducible first | exact HB.out | apply below_alloc | apply pw_below_drewN | apply below_drew1 | refine below_set ?_ GE784.out | refine below_set ?_ GE785.out) | exact HB.out))) | (with_reducible refine Kd.C_alloc ?_ _) | (with_reducible refine Kd.C_drewN ?_ _) | (with_reducible refine Kd.C_drew ?_))); (case side2 => exact HC0_6.out); rintro e w' ⟨rfl, ⟨nd, rfl⟩⟩))
        go_ret
        exact ⟨by first | rfl | (simp [errW_none, errW_some] <;> rfl) | (simp [*, errW_none, errW_some] <;> rfl), by repeat (first | (with_reducible first | exact HB.out | apply below_alloc | apply pw_below_drewN | apply below_drew1 | refine below_set ?_ GE784.out | refine below_set ?_ GE785.out) | exact HB.out)⟩
      · replace c13 := Bool.eq_false_iff.mpr c13
        subst c13
        have H1 : (some false) = some r := by rw [if_neg (show ¬ (false = true) by decide)] at H; exact H
        clear H
        have H := H1
        clear H1
        obtain rfl := Option.some.inj H
        go_enter Try.func95, Try.ntmps95
        go_wp2_with (first | ((with_reducible refine gate_dst (N := 1) rfl ?_); refine box_event ?hg (N := 1) ?hd (cs := #[.int .i64 a0_0, .int .i64 a0_1, .int .i64 a0_2, .string a0_3, .int .i64 a0_4, .int .i64 a0_5, .slice A0_6 l0_6.length c0_6, .int .i64 a0_7, .slice A0_8 l0_8.length c0_8, .slice A0_9 l0_9.length c0_9, .slice A0_10 l0_10.length c0_10, .bool a0_11, .slice A0_12 l0_12.length c0_12, .string a0_13]) (t := 68) ?hr ?_; (case hd => rfl); (case hg => rfl); (case hr => first | (go_simp; done) | (go_simp; rfl)); intro gb784 hg w23 hbox hb; have n0_ := Aside0.mk (below_step (by repeat (first | (with_reducible first | exact HB.out | apply below_alloc | apply pw_below_drewN | apply below_drew1) | exact HB.out)) hb); have n1_ := Aside0.mk (hbox); have n2_ := Aside0.mk ((by rw [hg]; exact (below_size (by repeat (first | (with_reducible first | exact HB.out | apply below_alloc | apply pw_below_drewN | apply below_drew1) | exact HB.out))) : w.heap.size ≤ gb784)); have n3_ := n2_; clear HB; have HB := n0_; have BK784 := n1_; have GW784 := n2_; have GE784 := n3_; clear n0_ n1_ n2_ n3_; clear hb hbox hg; obtain ⟨hcz24_0, hcz24_1, hcz24_2, hcz24_3, hcz24_4, hcz24_5, hcz24_6, hcz24_7, hcz24_8, hcz24_9, hcz24_10, hcz24_11, hcz24_12, hcz24_13⟩ := cells14 BK784.out; obtain ⟨hfz24_0, hfz24_1, hfz24_2, hfz24_3, hfz24_4, hfz24_5, hfz24_6, hfz24_7, hfz24_8, hfz24_9, hfz24_10, hfz24_11, hfz24_12, hfz24_13⟩ := frozens14 BK784.out) | ((with_reducible refine gate_dst (N := 3) rfl ?_); refine box_event ?hg (N := 3) ?hd (cs := #[.int .i64 0, .int .i64 0, .slice none 0 0]) (t := 57) ?hr ?_; (case hd => rfl); (case hg => rfl); (case hr => first | (go_simp; done) | (go_simp; rfl)); intro gb785 hg w25 hbox hb; have n0_ := Aside0.mk (blk_below (g := gb784) (by (with_reducible repeat (first | refine blk_drewN ?_ _ | refine blk_drew ?_ | refine blk_alloc ?_ _)); exact BK784.out) hb); have n1_ := Aside0.mk (below_step (by repeat (first | (with_reducible first | exact HB.out | apply below_alloc | apply pw_below_drewN | apply below_drew1 | refine below_set ?_ GE784.out) | exact HB.out)) hb); have n2_ := Aside0.mk (hbox); have n3_ := Aside0.mk ((by rw [hg]; exact (below_size (by repeat (first | (with_reducible first | exact HB.out | apply below_alloc | apply pw_below_drewN | apply below_drew1 | refine below_set ?_ GE784.out) | exact HB.out))) : w.heap.size ≤ gb785)); have n4_ := Aside0.mk ((by rw [hg]; exact (below_size (by repeat (first | (with_reducible first | exact HB.out | apply below_alloc | apply pw_below_drewN | apply below_drew1 | refine below_set ?_ GE784.out) | exact HB.out))) : w.heap.size ≤ gb785)); have n5_ := Aside0.mk ((by rw [hg]; exact Nat.ne_of_lt (blk_lt (g := gb784) (o := .cells #[.int .i64 a0_0, .int .i64 a0_1, .int .i64 a0_2, .string a0_3, .int .i64 a0_4, .int .i64 a0_5, .slice A0_6 l0_6.length c0_6, .int .i64 a0_7, .slice A0_8 l0_8.length c0_8, .slice A0_9 l0_9.length c0_9, .slice A0_10 l0_10.length c0_10, .bool a0_11, .slice A0_12 l0_12.length c0_12, .string a0_13] 68 (0, 0)) (by (with_reducible repeat (first | refine blk_drewN ?_ _ | refine blk_drew ?_ | refine blk_alloc ?_ _)); exact BK784.out)) : gb784 ≠ gb785)); have n6_ := Aside0.mk ((by rw [hg]; exact Nat.ne_of_gt (blk_lt (g := gb784) (o := .cells #[.int .i64 a0_0, .int .i64 a0_1, .int .i64 a0_2, .string a0_3, .int .i64 a0_4, .int .i64 a0_5, .slice A0_6 l0_6.length c0_6, .int .i64 a0_7, .slice A0_8 l0_8.length c0_8, .slice A0_9 l0_9.length c0_9, .slice A0_10 l0_10.length c0_10, .bool a0_11, .slice A0_12 l0_12.length c0_12, .string a0_13] 68 (0, 0)) (by (with_reducible repeat (first | refine blk_drewN ?_ _ | refine blk_drew ?_ | refine blk_alloc ?_ _)); exact BK784.out)) : gb785 ≠ gb784)); clear BK784; clear HB; have BK784 := n0_; have HB := n1_; have BK785 := n2_; have GW785 := n3_; have GE785 := n4_; have NB784_785 := n5_; have NB785_784 := n6_; clear n0_ n1_ n2_ n3_ n4_ n5_ n6_; clear hb hbox hg; have hnb26 := NB785_784.out; have hnc26 := NB784_785.out; obtain ⟨hcz27_0, hcz27_1, hcz27_2⟩ := cells3 BK785.out; obtain ⟨hfz27_0, hfz27_1, hfz27_2⟩ := frozens3 BK785.out) | ((with_reducible refine gate_callee (f := 79) rfl ?_); refine goesL_ (some 7) rfl rfl Try.func79 (by kernel_rfl) rfl #[.agg #[.int .i64 a0_4, .int .i64 a0_5, .slice A0_6 l0_6.length c0_6]] rfl (by (try simp only [List.map_toArray, List.map_cons, List.map_nil]); first | done | rfl | (simp only [List.length_drop, List.length_take]; rfl)) ?_; (with_reducible refine (spec_l8Root.calls a0_4 a0_5 _ _ l0_6 false _ ?side1 ?side2 A2.out).mono ?_); (case side1 => exact Kd.C_below HR0_6.out (by repeat (first | (with_reducible first | exact HB.out | apply below_alloc | apply pw_below_drewN | apply below_drew1 | refine below_set ?_ GE784.out | refine below_set ?_ GE785.out) | exact HB.out))); (case side2 => exact HC0_6.out); rintro e w28 ⟨rfl, hb⟩; refine ⟨_, rfl, ?_⟩; have n0_ := Aside0.mk (blk_below (g := gb784) (o := .cells #[.int .i64 a0_0, .int .i64 a0_1, .int .i64 a0_2, .string a0_3, .int .i64 a0_4, .int .i64 a0_5, .slice A0_6 l0_6.length c0_6, .int .i64 a0_7, .slice A0_8 l0_8.length c0_8, .slice A0_9 l0_9.length c0_9, .slice A0_10 l0_10.length c0_10, .bool a0_11, .slice A0_12 l0_12.length c0_12, .string a0_13] 68 (0, 0)) (by (with_reducible repeat (first | refine blk_drewN ?_ _ | refine blk_drew ?_ | refine blk_alloc ?_ _)); refine blk_far ?_ NB784_785.out _; (with_reducible repeat (first | refine blk_drewN ?_ _ | refine blk_drew ?_ | refine blk_alloc ?_ _)); refine blk_far ?_ NB784_785.out _; (with_reducible repeat (first | refine blk_drewN ?_ _ | refine blk_drew ?_ | refine blk_alloc ?_ _)); refine blk_far ?_ NB784_785.out _; (with_reducible repeat (first | refine blk_drewN ?_ _ | refine blk_drew ?_ | refine blk_alloc ?_ _)); exact BK784.out) hb); have n1_ := Aside0.mk (blk_below (g := gb785) (o := .cells #[.int .i64 a0_4, .int .i64 a0_5, .slice A0_6 l0_6.length c0_6] 57 (0, 0)) (by (with_reducible repeat (first | refine blk_drewN ?_ _ | refine blk_drew ?_ | refine blk_alloc ?_ _)); refine blk_put (cs := #[.int .i64 a0_4, .int .i64 a0_5, .slice none 0 0]) ?_ 2 _ rfl; (with_reducible repeat (first | refine blk_drewN ?_ _ | refine blk_drew ?_ | refine blk_alloc ?_ _)); refine blk_put (cs := #[.int .i64 a0_4, .int .i64 0, .slice none 0 0]) ?_ 1 _ rfl; (with_reducible repeat (first | refine blk_drewN ?_ _ | refine blk_drew ?_ | refine blk_alloc ?_ _)); refine blk_put (cs := #[.int .i64 0, .int .i64 0, .slice none 0 0]) ?_ 0 _ rfl; (with_reducible repeat (first | refine blk_drewN ?_ _ | refine blk_drew ?_ | refine blk_alloc ?_ _)); exact BK785.out) hb); have n2_ := Aside0.mk (below_step (by repeat (first | (with_reducible first | exact HB.out | apply below_alloc | apply pw_below_drewN | apply below_drew1 | refine below_set ?_ GE784.out | refine below_set ?_ GE785.out) | exact HB.out)) hb); clear BK784; clear BK785; clear HB; have BK784 := n0_; have BK785 := n1_; have HB := n2_; clear n0_ n1_ n2_; (try clear hb); (try clear hb2); (try clear hk); (try clear hi); obtain ⟨hcz29_0, hcz29_1, hcz29_2⟩ := cells3 BK785.out; obtain ⟨hfz29_0, hfz29_1, hfz29_2⟩ := frozens3 BK785.out; obtain ⟨hcz30_0, hcz30_1, hcz30_2, hcz30_3, hcz30_4, hcz30_5, hcz30_6, hcz30_7, hcz30_8, hcz30_9, hcz30_10, hcz30_11, hcz30_12, hcz30_13⟩ := cells14 BK784.out; obtain ⟨hfz30_0, hfz30_1, hfz30_2, hfz30_3, hfz30_4, hfz30_5, hfz30_6, hfz30_7, hfz30_8, hfz30_9, hfz30_10, hfz30_11, hfz30_12, hfz30_13⟩ := frozens14 BK784.out) | ((with_reducible refine gate_callee (f := 64) rfl ?_); refine goesL_ (some 13) rfl rfl Try.func64 (by kernel_rfl) rfl #[.int .i64 a0_4, .int .i64 1, .int .i64 (wrap64 (a0_2 - 1))] rfl (by (try simp only [List.map_toArray, List.map_cons, List.map_nil]); first | done | rfl | (simp only [List.length_drop, List.length_take]; rfl)) ?_; (with_reducible refine (spec_l1In.calls a0_4 1 (wrap64 (a0_2 - 1)) true _ A10.out).mono ?_); rintro e w' ⟨rfl, ⟨nd, rfl⟩⟩; refine ⟨_, rfl, ?_⟩) | (go_at_call 64; (with_reducible refine (spec_l1In.calls a0_5 0 (wrap64 (a0_0 - 1)) false _ A12.out).mono ?_); rintro e w' ⟨rfl, ⟨nd, rfl⟩⟩))
        go_ret
        exact ⟨by first | rfl | (simp [errW_none, errW_some] <;> rfl) | (simp [*, errW_none, errW_some] <;> rfl), by repeat (first | (with_reducible first | exact HB.out | apply below_alloc | apply pw_below_drewN | apply below_drew1 | refine below_set ?_ GE784.out | refine below_set ?_ GE785.out) | exact HB.out)⟩
    · replace c11 := Bool.eq_false_iff.mpr c11
      subst c11
      have H1 : (some false) = some r := by rw [if_neg (show ¬ (false = true) by decide)] at H; exact H
      clear H
      have H := H1
      clear H1
      obtain rfl := Option.some.inj H
      go_enter Try.func95, Try.ntmps95
      go_wp2_with (first | ((with_reducible refine gate_dst (N := 1) rfl ?_); refine box_event ?hg (N := 1) ?hd (cs := #[.int .i64 a0_0, .int .i64 a0_1, .int .i64 a0_2, .string a0_3, .int .i64 a0_4, .int .i64 a0_5, .slice A0_6 l0_6.length c0_6, .int .i64 a0_7, .slice A0_8 l0_8.length c0_8, .slice A0_9 l0_9.length c0_9, .slice A0_10 l0_10.length c0_10, .bool a0_11, .slice A0_12 l0_12.length c0_12, .string a0_13]) (t := 68) ?hr ?_; (case hd => rfl); (case hg => rfl); (case hr => first | (go_simp; done) | (go_simp; rfl)); intro gb784 hg w31 hbox hb; have n0_ := Aside0.mk (below_step (by repeat (first | (with_reducible first | exact HB.out | apply below_alloc | apply pw_below_drewN | apply below_drew1) | exact HB.out)) hb); have n1_ := Aside0.mk (hbox); have n2_ := Aside0.mk ((by rw [hg]; exact (below_size (by repeat (first | (with_reducible first | exact HB.out | apply below_alloc | apply pw_below_drewN | apply below_drew1) | exact HB.out))) : w.heap.size ≤ gb784)); have n3_ := n2_; clear HB; have HB := n0_; have BK784 := n1_; have GW784 := n2_; have GE784 := n3_; clear n0_ n1_ n2_ n3_; clear hb hbox hg; obtain ⟨hcz32_0, hcz32_1, hcz32_2, hcz32_3, hcz32_4, hcz32_5, hcz32_6, hcz32_7, hcz32_8, hcz32_9, hcz32_10, hcz32_11, hcz32_12, hcz32_13⟩ := cells14 BK784.out; obtain ⟨hfz32_0, hfz32_1, hfz32_2, hfz32_3, hfz32_4, hfz32_5, hfz32_6, hfz32_7, hfz32_8, hfz32_9, hfz32_10, hfz32_11, hfz32_12, hfz32_13⟩ := frozens14 BK784.out) | ((with_reducible refine gate_dst (N := 3) rfl ?_); refine box_event ?hg (N := 3) ?hd (cs := #[.int .i64 0, .int .i64 0, .slice none 0 0]) (t := 57) ?hr ?_; (case hd => rfl); (case hg => rfl); (case hr => first | (go_simp; done) | (go_simp; rfl)); intro gb785 hg w33 hbox hb; have n0_ := Aside0.mk (blk_below (g := gb784) (by (with_reducible repeat (first | refine blk_drewN ?_ _ | refine blk_drew ?_ | refine blk_alloc ?_ _)); exact BK784.out) hb); have n1_ := Aside0.mk (below_step (by repeat (first | (with_reducible first | exact HB.out | apply below_alloc | apply pw_below_drewN | apply below_drew1 | refine below_set ?_ GE784.out) | exact HB.out)) hb); have n2_ := Aside0.mk (hbox); have n3_ := Aside0.mk ((by rw [hg]; exact (below_size (by repeat (first | (with_reducible first | exact HB.out | apply below_alloc | apply pw_below_drewN | apply below_drew1 | refine below_set ?_ GE784.out) | exact HB.out))) : w.heap.size ≤ gb785)); have n4_ := Aside0.mk ((by rw [hg]; exact (below_size (by repeat (first | (with_reducible first | exact HB.out | apply below_alloc | apply pw_below_drewN | apply below_drew1 | refine below_set ?_ GE784.out) | exact HB.out))) : w.heap.size ≤ gb785)); have n5_ := Aside0.mk ((by rw [hg]; exact Nat.ne_of_lt (blk_lt (g := gb784) (o := .cells #[.int .i64 a0_0, .int .i64 a0_1, .int .i64 a0_2, .string a0_3, .int .i64 a0_4, .int .i64 a0_5, .slice A0_6 l0_6.length c0_6, .int .i64 a0_7, .slice A0_8 l0_8.length c0_8, .slice A0_9 l0_9.length c0_9, .slice A0_10 l0_10.length c0_10, .bool a0_11, .slice A0_12 l0_12.length c0_12, .string a0_13] 68 (0, 0)) (by (with_reducible repeat (first | refine blk_drewN ?_ _ | refine blk_drew ?_ | refine blk_alloc ?_ _)); exact BK784.out)) : gb784 ≠ gb785)); have n6_ := Aside0.mk ((by rw [hg]; exact Nat.ne_of_gt (blk_lt (g := gb784) (o := .cells #[.int .i64 a0_0, .int .i64 a0_1, .int .i64 a0_2, .string a0_3, .int .i64 a0_4, .int .i64 a0_5, .slice A0_6 l0_6.length c0_6, .int .i64 a0_7, .slice A0_8 l0_8.length c0_8, .slice A0_9 l0_9.length c0_9, .slice A0_10 l0_10.length c0_10, .bool a0_11, .slice A0_12 l0_12.length c0_12, .string a0_13] 68 (0, 0)) (by (with_reducible repeat (first | refine blk_drewN ?_ _ | refine blk_drew ?_ | refine blk_alloc ?_ _)); exact BK784.out)) : gb785 ≠ gb784)); clear BK784; clear HB; have BK784 := n0_; have HB := n1_; have BK785 := n2_; have GW785 := n3_; have GE785 := n4_; have NB784_785 := n5_; have NB785_784 := n6_; clear n0_ n1_ n2_ n3_ n4_ n5_ n6_; clear hb hbox hg; have hnb34 := NB785_784.out; have hnc34 := NB784_785.out; obtain ⟨hcz35_0, hcz35_1, hcz35_2⟩ := cells3 BK785.out; obtain ⟨hfz35_0, hfz35_1, hfz35_2⟩ := frozens3 BK785.out) | ((with_reducible refine gate_callee (f := 79) rfl ?_); refine goesL_ (some 7) rfl rfl Try.func79 (by kernel_rfl) rfl #[.agg #[.int .i64 a0_4, .int .i64 a0_5, .slice A0_6 l0_6.length c0_6]] rfl (by (try simp only [List.map_toArray, List.map_cons, List.map_nil]); first | done | rfl | (simp only [List.length_drop, List.length_take]; rfl)) ?_; (with_reducible refine (spec_l8Root.calls a0_4 a0_5 _ _ l0_6 false _ ?side1 ?side2 A2.out).mono ?_); (case side1 => exact Kd.C_below HR0_6.out (by repeat (first | (with_reducible first | exact HB.out | apply below_alloc | apply pw_below_drewN | apply below_drew1 | refine below_set ?_ GE784.out | refine below_set ?_ GE785.out) | exact HB.out))); (case side2 => exact HC0_6.out); rintro e w36 ⟨rfl, hb⟩; refine ⟨_, rfl, ?_⟩; have n0_ := Aside0.mk (blk_below (g := gb784) (o := .cells #[.int .i64 a0_0, .int .i64 a0_1, .int .i64 a0_2, .string a0_3, .int .i64 a0_4, .int .i64 a0_5, .slice A0_6 l0_6.length c0_6, .int .i64 a0_7, .slice A0_8 l0_8.length c0_8, .slice A0_9 l0_9.length c0_9, .slice A0_10 l0_10.length c0_10, .bool a0_11, .slice A0_12 l0_12.length c0_12, .string a0_13] 68 (0, 0)) (by (with_reducible repeat (first | refine blk_drewN ?_ _ | refine blk_drew ?_ | refine blk_alloc ?_ _)); refine blk_far ?_ NB784_785.out _; (with_reducible repeat (first | refine blk_drewN ?_ _ | refine blk_drew ?_ | refine blk_alloc ?_ _)); refine blk_far ?_ NB784_785.out _; (with_reducible repeat (first | refine blk_drewN ?_ _ | refine blk_drew ?_ | refine blk_alloc ?_ _)); refine blk_far ?_ NB784_785.out _; (with_reducible repeat (first | refine blk_drewN ?_ _ | refine blk_drew ?_ | refine blk_alloc ?_ _)); exact BK784.out) hb); have n1_ := Aside0.mk (blk_below (g := gb785) (o := .cells #[.int .i64 a0_4, .int .i64 a0_5, .slice A0_6 l0_6.length c0_6] 57 (0, 0)) (by (with_reducible repeat (first | refine blk_drewN ?_ _ | refine blk_drew ?_ | refine blk_alloc ?_ _)); refine blk_put (cs := #[.int .i64 a0_4, .int .i64 a0_5, .slice none 0 0]) ?_ 2 _ rfl; (with_reducible repeat (first | refine blk_drewN ?_ _ | refine blk_drew ?_ | refine blk_alloc ?_ _)); refine blk_put (cs := #[.int .i64 a0_4, .int .i64 0, .slice none 0 0]) ?_ 1 _ rfl; (with_reducible repeat (first | refine blk_drewN ?_ _ | refine blk_drew ?_ | refine blk_alloc ?_ _)); refine blk_put (cs := #[.int .i64 0, .int .i64 0, .slice none 0 0]) ?_ 0 _ rfl; (with_reducible repeat (first | refine blk_drewN ?_ _ | refine blk_drew ?_ | refine blk_alloc ?_ _)); exact BK785.out) hb); have n2_ := Aside0.mk (below_step (by repeat (first | (with_reducible first | exact HB.out | apply below_alloc | apply pw_below_drewN | apply below_drew1 | refine below_set ?_ GE784.out | refine below_set ?_ GE785.out) | exact HB.out)) hb); clear BK784; clear BK785; clear HB; have BK784 := n0_; have BK785 := n1_; have HB := n2_; clear n0_ n1_ n2_; (try clear hb); (try clear hb2); (try clear hk); (try clear hi); obtain ⟨hcz37_0, hcz37_1, hcz37_2⟩ := cells3 BK785.out; obtain ⟨hfz37_0, hfz37_1, hfz37_2⟩ := frozens3 BK785.out; obtain ⟨hcz38_0, hcz38_1, hcz38_2, hcz38_3, hcz38_4, hcz38_5, hcz38_6, hcz38_7, hcz38_8, hcz38_9, hcz38_10, hcz38_11, hcz38_12, hcz38_13⟩ := cells14 BK784.out; obtain ⟨hfz38_0, hfz38_1, hfz38_2, hfz38_3, hfz38_4, hfz38_5, hfz38_6, hfz38_7, hfz38_8, hfz38_9, hfz38_10, hfz38_11, hfz38_12, hfz38_13⟩ := frozens14 BK784.out) | ((with_reducible refine gate_callee (f := 64) rfl ?_); refine goesL_ (some 13) rfl rfl Try.func64 (by kernel_rfl) rfl #[.int .i64 a0_4, .int .i64 1, .int .i64 (wrap64 (a0_2 - 1))] rfl (by (try simp only [List.map_toArray, List.map_cons, List.map_nil]); first | done | rfl | (simp only [List.length_drop, List.length_take]; rfl)) ?_; (with_reducible refine (spec_l1In.calls a0_4 1 (wrap64 (a0_2 - 1)) false _ A10.out).mono ?_); rintro e w' ⟨rfl, ⟨nd, rfl⟩⟩; refine ⟨_, rfl, ?_⟩))
      go_ret
      exact ⟨by first | rfl | (simp [errW_none, errW_some] <;> rfl) | (simp [*, errW_none, errW_some] <;> rfl), by repeat (first | (with_reducible first | exact HB.out | apply below_alloc | apply pw_below_drewN | apply below_drew1 | refine below_set ?_ GE784.out | refine below_set ?_ GE785.out) | exact HB.out)⟩

theorem spec_l9Qc.is {b : S68} (hn : b.f4.f2.length ≤ maxLen) (hw : ∀ s ∈ b.f4.f2, s.size ≤ maxLen) : Ev (fun k => spec_l9Qc.f k b.f0 b.f1 b.f2 b.f3 b.f4.f0 b.f4.f1 b.f4.f2 b.f5.f0 b.f5.f1 b.f5.f2 b.f6 b.f7 b.f8 b.f9) (qcForm b.f4.f0 b.f4.f1 b.f4.f2 (wrap64 (b.f2 - 1)) (wrap64 (b.f0 - 1))) := by
  unfold spec_l9Qc.f qcForm
  simp only [spec_l8Root.is, spec_l1In.is, Option.bind_some]
  refine Ev.cond (fun h => Ev.is (by rw [h]; rfl)) (fun h => ?_)
  rw [Bool.eq_false_iff.2 h, Bool.false_or]
  refine Ev.cond (fun h1 => ?_) (fun h1 => Ev.is (by rw [Bool.eq_false_iff.2 h1]; rfl))
  rw [h1, Bool.true_and]
  refine Ev.cond (fun h2 => ?_) (fun h2 => Ev.is (by rw [Bool.eq_false_iff.2 h2]; rfl))
  exact Ev.bind (spec_NamesOk.is hn hw) (Ev.is (by rw [h2]; rfl))
theorem spec_l9Qc.does {b : S68} (hn : b.f4.f2.length ≤ maxLen) (hw : ∀ s ∈ b.f4.f2, s.size ≤ maxLen) {cs : List Value} {w : World} (hK : k68.K w b cs) : Calls Try.prog 95 #[.agg cs.toArray] w fun e w' => e = .returned (.bool (qcForm b.f4.f0 b.f4.f1 b.f4.f2 (wrap64 (b.f2 - 1)) (wrap64 (b.f0 - 1)))) ∧ Below w.heap.size w w' := by
  obtain ⟨A6, c6, A8, c8, A9, c9, A10, c10, A12, c12, rfl, l6, g6, l8, g8, l9, g9, l10, g10, l12, g12⟩ := k68_open hK
  obtain ⟨k, h⟩ := (spec_l9Qc.is hn hw).rounds
  exact (spec_l9Qc.calls (hr0_6 := g6) (hc0_6 := l6) (hr0_8 := g8) (hc0_8 := l8) (hr0_9 := g9) (hc0_9 := l9) (hr0_10 := g10) (hc0_10 := l10) (hr0_12 := g12) (hc0_12 := l12) (h := h)).mono fun _ _ ⟨a, b⟩ => ⟨a, b⟩

/-! ### spec_l9Tc: function 96 -/
mutual
def spec_l9Tc.j0 : Nat → Bool → Int → List ByteArray → List Int → Option (Bool)
  | 0, _, _, _, _ => none
  | k + 1, x30, x792000, x792001, x792002 => if x30 = true then (some false) else (spec_l9Tc.l0 k 0 x792000 x792001 x792002)
def spec_l9Tc.l0 : Nat → Int → Int → List ByteArray → List Int → Option (Bool)
  | 0, _, _, _, _ => none
  | k + 1, x4, x792000, x792001, x792002 => if x4 < (x792002.length : Int) then (if 0 ≤ x4 then ((spec_l1In.f (rd x792002 x4) 0 (wrap64 (x792000 - 1))).bind fun t796 => (if t796 = true then (spec_l9Tc.l0 k (wrap64 (x4 + 1)) x792000 x792001 x792002) else (some false))) else (none)) else (some true)
end
def spec_l9Tc.f (k : Nat) (a0_0 : Int) (a0_1 : Int) (a0_2 : Int) (a0_3 : ByteArray) (a0_4 : Int) (a0_5 : Int) (l0_6 : List ByteArray) (a0_7 : Int) (l0_8 : List ByteArray) (l0_9 : List Int) (l0_10 : List (S106)) (a0_11 : Bool) (l0_12 : List (S93)) (a0_13 : ByteArray) : Option (Bool) := (spec_l8None.f a0_7 l0_8 l0_9).bind fun t792 => (if t792 = true then (some true) else ((spec_l1In.f a0_7 1 (wrap64 (a0_2 - 1))).bind fun t793 => (if t793 = true then ((spec_NamesOk.f k l0_8).bind fun t794 => (if t794 = true then (spec_l9Tc.j0 k ((l0_9.length : Int) != (l0_8.length : Int)) a0_7 l0_8 l0_9) else (spec_l9Tc.j0 k true a0_7 l0_8 l0_9))) else (spec_l9Tc.j0 k true a0_7 l0_8 l0_9))))
theorem spec_l9Tc.mono_l : ∀ k, (∀ y0 y1 y2 y3, LeO (spec_l9Tc.j0 k y0 y1 y2 y3) (spec_l9Tc.j0 (k + 1) y0 y1 y2 y3)) ∧ (∀ y0 y1 y2 y3, LeO (spec_l9Tc.l0 k y0 y1 y2 y3) (spec_l9Tc.l0 (k + 1) y0 y1 y2 y3))
  | 0 => ⟨fun _ _ _ _ r h => by simp [spec_l9Tc.j0] at h, fun _ _ _ _ r h => by simp [spec_l9Tc.l0] at h⟩
  | k + 1 => by
    obtain ⟨ih0, ih1⟩ := spec_l9Tc.mono_l k
    refine ⟨?_, ?_⟩
    · intro y0 y1 y2 y3
      unfold spec_l9Tc.j0
      repeat' first
      | (with_reducible exact ih0 _ _ _ _)
      | (with_reducible exact ih1 _ _ _ _)
      | (with_reducible exact spec_NamesOk.mono _ _)
      | (with_reducible exact LeO.refl _)
      | (with_reducible exact LeO.none _)
      | (with_reducible refine LeO.ite ?_ ?_)
      | (with_reducible refine LeO.bind ?_ (fun _ => ?_))
      | exact ih0 _ _ _ _
      | exact ih1 _ _ _ _
      | exact spec_NamesOk.mono _ _
      | exact LeO.none _
      | refine LeO.ite ?_ ?_
      | refine LeO.bind ?_ (fun _ => ?_)
    · intro y0 y1 y2 y3
      unfold spec_l9Tc.l0
      repeat' first
      | (with_reducible exact ih0 _ _ _ _)
      | (with_reducible exact ih1 _ _ _ _)
      | (with_reducible exact spec_NamesOk.mono _ _)
      | (with_reducible exact LeO.refl _)
      | (with_reducible exact LeO.none _)
      | (with_reducible refine LeO.ite ?_ ?_)
      | (with_reducible refine LeO.bind ?_ (fun _ => ?_))
      | exact ih0 _ _ _ _
      | exact ih1 _ _ _ _
      | exact spec_NamesOk.mono _ _
      | exact LeO.none _
      | refine LeO.ite ?_ ?_
      | refine LeO.bind ?_ (fun _ => ?_)
theorem spec_l9Tc.mono : ∀ a0 a1 a2 a3 a4 a5 a6 a7 a8 a9 a10 a11 a12 a13 k, LeO (spec_l9Tc.f k a0 a1 a2 a3 a4 a5 a6 a7 a8 a9 a10 a11 a12 a13) (spec_l9Tc.f (k + 1) a0 a1 a2 a3 a4 a5 a6 a7 a8 a9 a10 a11 a12 a13) := by
  intro a0 a1 a2 a3 a4 a5 a6 a7 a8 a9 a10 a11 a12 a13 k
  obtain ⟨ih0, ih1⟩ := spec_l9Tc.mono_l k
  unfold spec_l9Tc.f
  repeat' first
      | (with_reducible exact ih0 _ _ _ _)
      | (with_reducible exact ih1 _ _ _ _)
      | (with_reducible exact spec_NamesOk.mono _ _)
      | (with_reducible exact LeO.refl _)
      | (with_reducible exact LeO.none _)
      | (with_reducible refine LeO.ite ?_ ?_)
      | (with_reducible refine LeO.bind ?_ (fun _ => ?_))
      | exact ih0 _ _ _ _
      | exact ih1 _ _ _ _
      | exact spec_NamesOk.mono _ _
      | exact LeO.none _
      | refine LeO.ite ?_ ?_
      | refine LeO.bind ?_ (fun _ => ?_)
set_option maxHeartbeats 8000000 in
set_option maxRecDepth 100000 in
theorem spec_l9Tc.calls (k : Nat) (a0_0 : Int) (a0_1 : Int) (a0_2 : Int) (a0_3 : ByteArray) (a0_4 : Int) (a0_5 : Int) (A0_6 : Option Addr) (c0_6 : Nat) (l0_6 : List ByteArray) (a0_7 : Int) (A0_8 : Option Addr) (c0_8 : Nat) (l0_8 : List ByteArray) (A0_9 : Option Addr) (c0_9 : Nat) (l0_9 : List Int) (A0_10 : Option Addr) (c0_10 : Nat) (l0_10 : List (S106)) (a0_11 : Bool) (A0_12 : Option Addr) (c0_12 : Nat) (l0_12 : List (S93)) (a0_13 : ByteArray) (r : Bool) (w : World) (hr0_6 : Kd.C Kd.string w A0_6 l0_6.length l0_6) (hc0_6 : l0_6.length ≤ c0_6) (hr0_8 : Kd.C Kd.string w A0_8 l0_8.length l0_8) (hc0_8 : l0_8.length ≤ c0_8) (hr0_9 : Kd.C (Kd.int .i64) w A0_9 l0_9.length l0_9) (hc0_9 : l0_9.length ≤ c0_9) (hr0_10 : Kd.C k106 w A0_10 l0_10.length l0_10) (hc0_10 : l0_10.length ≤ c0_10) (hr0_12 : Kd.C k93 w A0_12 l0_12.length l0_12) (hc0_12 : l0_12.length ≤ c0_12) (h : spec_l9Tc.f k a0_0 a0_1 a0_2 a0_3 a0_4 a0_5 l0_6 a0_7 l0_8 l0_9 l0_10 a0_11 l0_12 a0_13 = some r) :
    Calls Try.prog 96 #[.agg #[.int .i64 a0_0, .int .i64 a0_1, .int .i64 a0_2, .string a0_3, .int .i64 a0_4, .int .i64 a0_5, .slice A0_6 l0_6.length c0_6, .int .i64 a0_7, .slice A0_8 l0_8.length c0_8, .slice A0_9 l0_9.length c0_9, .slice A0_10 l0_10.length c0_10, .bool a0_11, .slice A0_12 l0_12.length c0_12, .string a0_13]] w fun e w' => e = .returned (.bool r) ∧ Below w.heap.size w w' := by
  have hu68 := Try.underlying68
  have hu36 := Try.underlying36
  have HR0_6 := Aside0.mk hr0_6
  have HC0_6 := Aside0.mk hc0_6
  clear hr0_6 hc0_6
  have HR0_8 := Aside0.mk hr0_8
  have HC0_8 := Aside0.mk hc0_8
  clear hr0_8 hc0_8
  have HR0_9 := Aside0.mk hr0_9
  have HC0_9 := Aside0.mk hc0_9
  clear hr0_9 hc0_9
  have HR0_10 := Aside0.mk hr0_10
  have HC0_10 := Aside0.mk hc0_10
  clear hr0_10 hc0_10
  have HR0_12 := Aside0.mk hr0_12
  have HC0_12 := Aside0.mk hc0_12
  clear hr0_12 hc0_12
  have HB := Aside0.mk (Below.refl w.heap.size w)
  have H : ((spec_l8None.f a0_7 l0_8 l0_9).bind fun t792 => (if t792 = true then (some true) else ((spec_l1In.f a0_7 1 (wrap64 (a0_2 - 1))).bind fun t793 => (if t793 = true then ((spec_NamesOk.f k l0_8).bind fun t794 => (if t794 = true then (spec_l9Tc.j0 k ((l0_9.length : Int) != (l0_8.length : Int)) a0_7 l0_8 l0_9) else (spec_l9Tc.j0 k true a0_7 l0_8 l0_9))) else (spec_l9Tc.j0 k true a0_7 l0_8 l0_9))))) = some r := h
  clear h
  replace H := Option.bind_eq_some_iff.mp H
  obtain ⟨t792, A20, H⟩ := H
  replace H : (if t792 = true then (some true) else ((spec_l1In.f a0_7 1 (wrap64 (a0_2 - 1))).bind fun t793 => (if t793 = true then ((spec_NamesOk.f k l0_8).bind fun t794 => (if t794 = true then (spec_l9Tc.j0 k ((l0_9.length : Int) != (l0_8.length : Int)) a0_7 l0_8 l0_9) else (spec_l9Tc.j0 k true a0_7 l0_8 l0_9))) else (spec_l9Tc.j0 k true a0_7 l0_8 l0_9)))) = some r := H
  have A2 := Aside0.mk A20
  clear A20
  by_cases c3 : t792 = true
  · subst c3
    have H1 : (some true) = some r := by rw [if_pos rfl] at H; exact H
    clear H
    have H := H1
    clear H1
    obtain rfl := Option.some.inj H
    go_enter Try.func96, Try.ntmps96
    go_wp2_with (first | ((with_reducible refine gate_dst (N := 1) rfl ?_); (try (refine gate_guard (by rfl) ?_; dsimp only)); refine box_event ?hg (N := 1) ?hd (cs := #[.int .i64 a0_0, .int .i64 a0_1, .int .i64 a0_2, .string a0_3, .int .i64 a0_4, .int .i64 a0_5, .slice A0_6 l0_6.length c0_6, .int .i64 a0_7, .slice A0_8 l0_8.length c0_8, .slice A0_9 l0_9.length c0_9, .slice A0_10 l0_10.length c0_10, .bool a0_11, .slice A0_12 l0_12.length c0_12, .string a0_13]) (t := 68) ?hr ?_; (case hd => rfl); (case hg => rfl); (case hr => first | (go_simp; done) | (go_simp; rfl)); intro gb790 hg w4 hbox hb; have n0_ := Aside0.mk (below_step (by repeat (first | (with_reducible first | exact HB.out | apply below_alloc | apply pw_below_drewN | apply below_drew1) | exact HB.out)) hb); have n1_ := Aside0.mk (hbox); have n2_ := Aside0.mk ((by rw [hg]; exact (below_size (by repeat (first | (with_reducible first | exact HB.out | apply below_alloc | apply pw_below_drewN | apply below_drew1) | exact HB.out))) : w.heap.size ≤ gb790)); have n3_ := n2_; clear HB; have HB := n0_; have BK790 := n1_; have GW790 := n2_; have GE790 := n3_; clear n0_ n1_ n2_ n3_; clear hb hbox hg; obtain ⟨hcz5_0, hcz5_1, hcz5_2, hcz5_3, hcz5_4, hcz5_5, hcz5_6, hcz5_7, hcz5_8, hcz5_9, hcz5_10, hcz5_11, hcz5_12, hcz5_13⟩ := cells14 BK790.out; obtain ⟨hfz5_0, hfz5_1, hfz5_2, hfz5_3, hfz5_4, hfz5_5, hfz5_6, hfz5_7, hfz5_8, hfz5_9, hfz5_10, hfz5_11, hfz5_12, hfz5_13⟩ := frozens14 BK790.out) | ((with_reducible refine gate_dst (N := 3) rfl ?_); (try (refine gate_guard (by rfl) ?_; dsimp only)); refine box_event ?hg (N := 3) ?hd (cs := #[.int .i64 0, .slice none 0 0, .slice none 0 0]) (t := 36) ?hr ?_; (case hd => rfl); (case hg => rfl); (case hr => first | (go_simp; done) | (go_simp; rfl)); intro gb791 hg w6 hbox hb; have n0_ := Aside0.mk (blk_below (g := gb790) (by (with_reducible repeat (first | refine blk_drewN ?_ _ | refine blk_drew ?_ | refine blk_alloc ?_ _)); exact BK790.out) hb); have n1_ := Aside0.mk (below_step (by repeat (first | (with_reducible first | exact HB.out | apply below_alloc | apply pw_below_drewN | apply below_drew1 | refine below_set ?_ GE790.out) | exact HB.out)) hb); have n2_ := Aside0.mk (hbox); have n3_ := Aside0.mk ((by rw [hg]; exact (below_size (by repeat (first | (with_reducible first | exact HB.out | apply below_alloc | apply pw_below_drewN | apply below_drew1 | refine below_set ?_ GE790.out) | exact HB.out))) : w.heap.size ≤ gb791)); have n4_ := Aside0.mk ((by rw [hg]; exact (below_size (by repeat (first | (with_reducible first | exact HB.out | apply below_alloc | apply pw_below_drewN | apply below_drew1 | refine below_set ?_ GE790.out) | exact HB.out))) : w.heap.size ≤ gb791)); have n5_ := Aside0.mk ((by rw [hg]; exact Nat.ne_of_lt (blk_lt (g := gb790) (o := .cells #[.int .i64 a0_0, .int .i64 a0_1, .int .i64 a0_2, .string a0_3, .int .i64 a0_4, .int .i64 a0_5, .slice A0_6 l0_6.length c0_6, .int .i64 a0_7, .slice A0_8 l0_8.length c0_8, .slice A0_9 l0_9.length c0_9, .slice A0_10 l0_10.length c0_10, .bool a0_11, .slice A0_12 l0_12.length c0_12, .string a0_13] 68 (0, 0)) (by (with_reducible repeat (first | refine blk_drewN ?_ _ | refine blk_drew ?_ | refine blk_alloc ?_ _)); exact BK790.out)) : gb790 ≠ gb791)); have n6_ := Aside0.mk ((by rw [hg]; exact Nat.ne_of_gt (blk_lt (g := gb790) (o := .cells #[.int .i64 a0_0, .int .i64 a0_1, .int .i64 a0_2, .string a0_3, .int .i64 a0_4, .int .i64 a0_5, .slice A0_6 l0_6.length c0_6, .int .i64 a0_7, .slice A0_8 l0_8.length c0_8, .slice A0_9 l0_9.length c0_9, .slice A0_10 l0_10.length c0_10, .bool a0_11, .slice A0_12 l0_12.length c0_12, .string a0_13] 68 (0, 0)) (by (with_reducible repeat (first | refine blk_drewN ?_ _ | refine blk_drew ?_ | refine blk_alloc ?_ _)); exact BK790.out)) : gb791 ≠ gb790)); clear BK790; clear HB; have BK790 := n0_; have HB := n1_; have BK791 := n2_; have GW791 := n3_; have GE791 := n4_; have NB790_791 := n5_; have NB791_790 := n6_; clear n0_ n1_ n2_ n3_ n4_ n5_ n6_; clear hb hbox hg; have hnb7 := NB791_790.out; have hnc7 := NB790_791.out; obtain ⟨hcz8_0, hcz8_1, hcz8_2⟩ := cells3 BK791.out; obtain ⟨hfz8_0, hfz8_1, hfz8_2⟩ := frozens3 BK791.out) | (go_at_call 84; (with_reducible refine (spec_l8None.calls a0_7 _ _ l0_8 _ _ l0_9 true _ ?side1 ?side2 ?side3 ?side4 A2.out).mono ?_); (case side1 => exact Kd.C_below HR0_8.out (by repeat (first | (with_reducible first | exact HB.out | apply below_alloc | apply pw_below_drewN | apply below_drew1 | refine below_set ?_ GE790.out | refine below_set ?_ GE791.out) | exact HB.out))); (case side2 => exact HC0_8.out); (case side3 => exact Kd.C_below HR0_9.out (by repeat (first | (with_reducible first | exact HB.out | apply below_alloc | apply pw_below_drewN | apply below_drew1 | refine below_set ?_ GE790.out | refine below_set ?_ GE791.out) | exact HB.out))); (case side4 => exact HC0_9.out); rintro e w9 ⟨rfl, hb⟩; have n0_ := Aside0.mk (blk_below (g := gb790) (o := .cells #[.int .i64 a0_0, .int .i64 a0_1, .int .i64 a0_2, .string a0_3, .int .i64 a0_4, .int .i64 a0_5, .slice A0_6 l0_6.length c0_6, .int .i64 a0_7, .slice A0_8 l0_8.length c0_8, .slice A0_9 l0_9.length c0_9, .slice A0_10 l0_10.length c0_10, .bool a0_11, .slice A0_12 l0_12.length c0_12, .string a0_13] 68 (0, 0)) (by (with_reducible repeat (first | refine blk_drewN ?_ _ | refine blk_drew ?_ | refine blk_alloc ?_ _)); refine blk_far ?_ NB790_791.out _; (with_reducible repeat (first | refine blk_drewN ?_ _ | refine blk_drew ?_ | refine blk_alloc ?_ _)); refine blk_far ?_ NB790_791.out _; (with_reducible repeat (first | refine blk_drewN ?_ _ | refine blk_drew ?_ | refine blk_alloc ?_ _)); refine blk_far ?_ NB790_791.out _; (with_reducible repeat (first | refine blk_drewN ?_ _ | refine blk_drew ?_ | refine blk_alloc ?_ _)); exact BK790.out) hb); have n1_ := Aside0.mk (blk_below (g := gb791) (o := .cells #[.int .i64 a0_7, .slice A0_8 l0_8.length c0_8, .slice A0_9 l0_9.length c0_9] 36 (0, 0)) (by (with_reducible repeat (first | refine blk_drewN ?_ _ | refine blk_drew ?_ | refine blk_alloc ?_ _)); refine blk_put (cs := #[.int .i64 a0_7, .slice A0_8 l0_8.length c0_8, .slice none 0 0]) ?_ 2 _ rfl; (with_reducible repeat (first | refine blk_drewN ?_ _ | refine blk_drew ?_ | refine blk_alloc ?_ _)); refine blk_put (cs := #[.int .i64 a0_7, .slice none 0 0, .slice none 0 0]) ?_ 1 _ rfl; (with_reducible repeat (first | refine blk_drewN ?_ _ | refine blk_drew ?_ | refine blk_alloc ?_ _)); refine blk_put (cs := #[.int .i64 0, .slice none 0 0, .slice none 0 0]) ?_ 0 _ rfl; (with_reducible repeat (first | refine blk_drewN ?_ _ | refine blk_drew ?_ | refine blk_alloc ?_ _)); exact BK791.out) hb); have n2_ := Aside0.mk (below_step (by repeat (first | (with_reducible first | exact HB.out | apply below_alloc | apply pw_below_drewN | apply below_drew1 | refine below_set ?_ GE790.out | refine below_set ?_ GE791.out) | exact HB.out)) hb); clear BK790; clear BK791; clear HB; have BK790 := n0_; have BK791 := n1_; have HB := n2_; clear n0_ n1_ n2_; (try clear hb); (try clear hb2); (try clear hk); (try clear hi)))
    repeat (go_quiet (first | ((with_reducible refine gate_dst (N := 1) rfl ?_); (try (refine gate_guard (by rfl) ?_; dsimp only)); refine box_event ?hg (N := 1) ?hd (cs := #[.int .i64 a0_0, .int .i64 a0_1, .int .i64 a0_2, .string a0_3, .int .i64 a0_4, .int .i64 a0_5, .slice A0_6 l0_6.length c0_6, .int .i64 a0_7, .slice A0_8 l0_8.length c0_8, .slice A0_9 l0_9.length c0_9, .slice A0_10 l0_10.length c0_10, .bool a0_11, .slice A0_12 l0_12.length c0_12, .string a0_13]) (t := 68) ?hr ?_; (case hd => rfl); (case hg => rfl); (case hr => first | (go_simp; done) | (go_simp; rfl)); intro gb790 hg w4 hbox hb; have n0_ := Aside0.mk (below_step (by repeat (first | (with_reducible first | exact HB.out | apply below_alloc | apply pw_below_drewN | apply below_drew1) | exact HB.out)) hb); have n1_ := Aside0.mk (hbox); have n2_ := Aside0.mk ((by rw [hg]; exact (below_size (by repeat (first | (with_reducible first | exact HB.out | apply below_alloc | apply pw_below_drewN | apply below_drew1) | exact HB.out))) : w.heap.size ≤ gb790)); have n3_ := n2_; clear HB; have HB := n0_; have BK790 := n1_; have GW790 := n2_; have GE790 := n3_; clear n0_ n1_ n2_ n3_; clear hb hbox hg; obtain ⟨hcz5_0, hcz5_1, hcz5_2, hcz5_3, hcz5_4, hcz5_5, hcz5_6, hcz5_7, hcz5_8, hcz5_9, hcz5_10, hcz5_11, hcz5_12, hcz5_13⟩ := cells14 BK790.out; obtain ⟨hfz5_0, hfz5_1, hfz5_2, hfz5_3, hfz5_4, hfz5_5, hfz5_6, hfz5_7, hfz5_8, hfz5_9, hfz5_10, hfz5_11, hfz5_12, hfz5_13⟩ := frozens14 BK790.out) | ((with_reducible refine gate_dst (N := 3) rfl ?_); (try (refine gate_guard (by rfl) ?_; dsimp only)); refine box_event ?hg (N := 3) ?hd (cs := #[.int .i64 0, .slice none 0 0, .slice none 0 0]) (t := 36) ?hr ?_; (case hd => rfl); (case hg => rfl); (case hr => first | (go_simp; done) | (go_simp; rfl)); intro gb791 hg w6 hbox hb; have n0_ := Aside0.mk (blk_below (g := gb790) (by (with_reducible repeat (first | refine blk_drewN ?_ _ | refine blk_drew ?_ | refine blk_alloc ?_ _)); exact BK790.out) hb); have n1_ := Aside0.mk (below_step (by repeat (first | (with_reducible first | exact HB.out | apply below_alloc | apply pw_below_drewN | apply below_drew1 | refine below_set ?_ GE790.out) | exact HB.out)) hb); have n2_ := Aside0.mk (hbox); have n3_ := Aside0.mk ((by rw [hg]; exact (below_size (by repeat (first | (with_reducible first | exact HB.out | apply below_alloc | apply pw_below_drewN | apply below_drew1 | refine below_set ?_ GE790.out) | exact HB.out))) : w.heap.size ≤ gb791)); have n4_ := Aside0.mk ((by rw [hg]; exact (below_size (by repeat (first | (with_reducible first | exact HB.out | apply below_alloc | apply pw_below_drewN | apply below_drew1 | refine below_set ?_ GE790.out) | exact HB.out))) : w.heap.size ≤ gb791)); have n5_ := Aside0.mk ((by rw [hg]; exact Nat.ne_of_lt (blk_lt (g := gb790) (o := .cells #[.int .i64 a0_0, .int .i64 a0_1, .int .i64 a0_2, .string a0_3, .int .i64 a0_4, .int .i64 a0_5, .slice A0_6 l0_6.length c0_6, .int .i64 a0_7, .slice A0_8 l0_8.length c0_8, .slice A0_9 l0_9.length c0_9, .slice A0_10 l0_10.length c0_10, .bool a0_11, .slice A0_12 l0_12.length c0_12, .string a0_13] 68 (0, 0)) (by (with_reducible repeat (first | refine blk_drewN ?_ _ | refine blk_drew ?_ | refine blk_alloc ?_ _)); exact BK790.out)) : gb790 ≠ gb791)); have n6_ := Aside0.mk ((by rw [hg]; exact Nat.ne_of_gt (blk_lt (g := gb790) (o := .cells #[.int .i64 a0_0, .int .i64 a0_1, .int .i64 a0_2, .string a0_3, .int .i64 a0_4, .int .i64 a0_5, .slice A0_6 l0_6.length c0_6, .int .i64 a0_7, .slice A0_8 l0_8.length c0_8, .slice A0_9 l0_9.length c0_9, .slice A0_10 l0_10.length c0_10, .bool a0_11, .slice A0_12 l0_12.length c0_12, .string a0_13] 68 (0, 0)) (by (with_reducible repeat (first | refine blk_drewN ?_ _ | refine blk_drew ?_ | refine blk_alloc ?_ _)); exact BK790.out)) : gb791 ≠ gb790)); clear BK790; clear HB; have BK790 := n0_; have HB := n1_; have BK791 := n2_; have GW791 := n3_; have GE791 := n4_; have NB790_791 := n5_; have NB791_790 := n6_; clear n0_ n1_ n2_ n3_ n4_ n5_ n6_; clear hb hbox hg; have hnb7 := NB791_790.out; have hnc7 := NB790_791.out; obtain ⟨hcz8_0, hcz8_1, hcz8_2⟩ := cells3 BK791.out; obtain ⟨hfz8_0, hfz8_1, hfz8_2⟩ := frozens3 BK791.out) | (go_at_call 84; (with_reducible refine (spec_l8None.calls a0_7 _ _ l0_8 _ _ l0_9 true _ ?side1 ?side2 ?side3 ?side4 A2.out).mono ?_); (case side1 => exact Kd.C_below HR0_8.out (by repeat (first | (with_reducible first | exact HB.out | apply below_alloc | apply pw_below_drewN | apply below_drew1 | refine below_set ?_ GE790.out | refine below_set ?_ GE791.out) | exact HB.out))); (case side2 => exact HC0_8.out); (case side3 => exact Kd.C_below HR0_9.out (by repeat (first | (with_reducible first | exact HB.out | apply below_alloc | apply pw_below_drewN | apply below_drew1 | refine below_set ?_ GE790.out | refine below_set ?_ GE791.out) | exact HB.out))); (case side4 => exact HC0_9.out); rintro e w9 ⟨rfl, hb⟩; have n0_ := Aside0.mk (blk_below (g := gb790) (o := .cells #[.int .i64 a0_0, .int .i64 a0_1, .int .i64 a0_2, .string a0_3, .int .i64 a0_4, .int .i64 a0_5, .slice A0_6 l0_6.length c0_6, .int .i64 a0_7, .slice A0_8 l0_8.length c0_8, .slice A0_9 l0_9.length c0_9, .slice A0_10 l0_10.length c0_10, .bool a0_11, .slice A0_12 l0_12.length c0_12, .string a0_13] 68 (0, 0)) (by (with_reducible repeat (first | refine blk_drewN ?_ _ | refine blk_drew ?_ | refine blk_alloc ?_ _)); refine blk_far ?_ NB790_791.out _; (with_reducible repeat (first | refine blk_drewN ?_ _ | refine blk_drew ?_ | refine blk_alloc ?_ _)); refine blk_far ?_ NB790_791.out _; (with_reducible repeat (first | refine blk_drewN ?_ _ | refine blk_drew ?_ | refine blk_alloc ?_ _)); refine blk_far ?_ NB790_791.out _; (with_reducible repeat (first | refine blk_drewN ?_ _ | refine blk_drew ?_ | refine blk_alloc ?_ _)); exact BK790.out) hb); have n1_ := Aside0.mk (blk_below (g := gb791) (o := .cells #[.int .i64 a0_7, .slice A0_8 l0_8.length c0_8, .slice A0_9 l0_9.length c0_9] 36 (0, 0)) (by (with_reducible repeat (first | refine blk_drewN ?_ _ | refine blk_drew ?_ | refine blk_alloc ?_ _)); refine blk_put (cs := #[.int .i64 a0_7, .slice A0_8 l0_8.length c0_8, .slice none 0 0]) ?_ 2 _ rfl; (with_reducible repeat (first | refine blk_drewN ?_ _ | refine blk_drew ?_ | refine blk_alloc ?_ _)); refine blk_put (cs := #[.int .i64 a0_7, .slice none 0 0, .slice none 0 0]) ?_ 1 _ rfl; (with_reducible repeat (first | refine blk_drewN ?_ _ | refine blk_drew ?_ | refine blk_alloc ?_ _)); refine blk_put (cs := #[.int .i64 0, .slice none 0 0, .slice none 0 0]) ?_ 0 _ rfl; (with_reducible repeat (first | refine blk_drewN ?_ _ | refine blk_drew ?_ | refine blk_alloc ?_ _)); exact BK791.out) hb); have n2_ := Aside0.mk (below_step (by repeat (first | (with_reducible first | exact HB.out | apply below_alloc | apply pw_below_drewN | apply below_drew1 | refine below_set ?_ GE790.out | refine below_set ?_ GE791.out) | exact HB.out)) hb); clear BK790; clear BK791; clear HB; have BK790 := n0_; have BK791 := n1_; have HB := n2_; clear n0_ n1_ n2_; (try clear hb); (try clear hb2); (try clear hk); (try clear hi))); try go_wp2_with (first | ((with_reducible refine gate_dst (N := 1) rfl ?_); (try (refine gate_guard (by rfl) ?_; dsimp only)); refine box_event ?hg (N := 1) ?hd (cs := #[.int .i64 a0_0, .int .i64 a0_1, .int .i64 a0_2, .string a0_3, .int .i64 a0_4, .int .i64 a0_5, .slice A0_6 l0_6.length c0_6, .int .i64 a0_7, .slice A0_8 l0_8.length c0_8, .slice A0_9 l0_9.length c0_9, .slice A0_10 l0_10.length c0_10, .bool a0_11, .slice A0_12 l0_12.length c0_12, .string a0_13]) (t := 68) ?hr ?_; (case hd => rfl); (case hg => rfl); (case hr => first | (go_simp; done) | (go_simp; rfl)); intro gb790 hg w4 hbox hb; have n0_ := Aside0.mk (below_step (by repeat (first | (with_reducible first | exact HB.out | apply below_alloc | apply pw_below_drewN | apply below_drew1) | exact HB.out)) hb); have n1_ := Aside0.mk (hbox); have n2_ := Aside0.mk ((by rw [hg]; exact (below_size (by repeat (first | (with_reducible first | exact HB.out | apply below_alloc | apply pw_below_drewN | apply below_drew1) | exact HB.out))) : w.heap.size ≤ gb790)); have n3_ := n2_; clear HB; have HB := n0_; have BK790 := n1_; have GW790 := n2_; have GE790 := n3_; clear n0_ n1_ n2_ n3_; clear hb hbox hg; obtain ⟨hcz5_0, hcz5_1, hcz5_2, hcz5_3, hcz5_4, hcz5_5, hcz5_6, hcz5_7, hcz5_8, hcz5_9, hcz5_10, hcz5_11, hcz5_12, hcz5_13⟩ := cells14 BK790.out; obtain ⟨hfz5_0, hfz5_1, hfz5_2, hfz5_3, hfz5_4, hfz5_5, hfz5_6, hfz5_7, hfz5_8, hfz5_9, hfz5_10, hfz5_11, hfz5_12, hfz5_13⟩ := frozens14 BK790.out) | ((with_reducible refine gate_dst (N := 3) rfl ?_); (try (refine gate_guard (by rfl) ?_; dsimp only)); refine box_event ?hg (N := 3) ?hd (cs := #[.int .i64 0, .slice none 0 0, .slice none 0 0]) (t := 36) ?hr ?_; (case hd => rfl); (case hg => rfl); (case hr => first | (go_simp; done) | (go_simp; rfl)); intro gb791 hg w6 hbox hb; have n0_ := Aside0.mk (blk_below (g := gb790) (by (with_reducible repeat (first | refine blk_drewN ?_ _ | refine blk_drew ?_ | refine blk_alloc ?_ _)); exact BK790.out) hb); have n1_ := Aside0.mk (below_step (by repeat (first | (with_reducible first | exact HB.out | apply below_alloc | apply pw_below_drewN | apply below_drew1 | refine below_set ?_ GE790.out) | exact HB.out)) hb); have n2_ := Aside0.mk (hbox); have n3_ := Aside0.mk ((by rw [hg]; exact (below_size (by repeat (first | (with_reducible first | exact HB.out | apply below_alloc | apply pw_below_drewN | apply below_drew1 | refine below_set ?_ GE790.out) | exact HB.out))) : w.heap.size ≤ gb791)); have n4_ := Aside0.mk ((by rw [hg]; exact (below_size (by repeat (first | (with_reducible first | exact HB.out | apply below_alloc | apply pw_below_drewN | apply below_drew1 | refine below_set ?_ GE790.out) | exact HB.out))) : w.heap.size ≤ gb791)); have n5_ := Aside0.mk ((by rw [hg]; exact Nat.ne_of_lt (blk_lt (g := gb790) (o := .cells #[.int .i64 a0_0, .int .i64 a0_1, .int .i64 a0_2, .string a0_3, .int .i64 a0_4, .int .i64 a0_5, .slice A0_6 l0_6.length c0_6, .int .i64 a0_7, .slice A0_8 l0_8.length c0_8, .slice A0_9 l0_9.length c0_9, .slice A0_10 l0_10.length c0_10, .bool a0_11, .slice A0_12 l0_12.length c0_12, .string a0_13] 68 (0, 0)) (by (with_reducible repeat (first | refine blk_drewN ?_ _ | refine blk_drew ?_ | refine blk_alloc ?_ _)); exact BK790.out)) : gb790 ≠ gb791)); have n6_ := Aside0.mk ((by rw [hg]; exact Nat.ne_of_gt (blk_lt (g := gb790) (o := .cells #[.int .i64 a0_0, .int .i64 a0_1, .int .i64 a0_2, .string a0_3, .int .i64 a0_4, .int .i64 a0_5, .slice A0_6 l0_6.length c0_6, .int .i64 a0_7, .slice A0_8 l0_8.length c0_8, .slice A0_9 l0_9.length c0_9, .slice A0_10 l0_10.length c0_10, .bool a0_11, .slice A0_12 l0_12.length c0_12, .string a0_13] 68 (0, 0)) (by (with_reducible repeat (first | refine blk_drewN ?_ _ | refine blk_drew ?_ | refine blk_alloc ?_ _)); exact BK790.out)) : gb791 ≠ gb790)); clear BK790; clear HB; have BK790 := n0_; have HB := n1_; have BK791 := n2_; have GW791 := n3_; have GE791 := n4_; have NB790_791 := n5_; have NB791_790 := n6_; clear n0_ n1_ n2_ n3_ n4_ n5_ n6_; clear hb hbox hg; have hnb7 := NB791_790.out; have hnc7 := NB790_791.out; obtain ⟨hcz8_0, hcz8_1, hcz8_2⟩ := cells3 BK791.out; obtain ⟨hfz8_0, hfz8_1, hfz8_2⟩ := frozens3 BK791.out) | (go_at_call 84; (with_reducible refine (spec_l8None.calls a0_7 _ _ l0_8 _ _ l0_9 true _ ?side1 ?side2 ?side3 ?side4 A2.out).mono ?_); (case side1 => exact Kd.C_below HR0_8.out (by repeat (first | (with_reducible first | exact HB.out | apply below_alloc | apply pw_below_drewN | apply below_drew1 | refine below_set ?_ GE790.out | refine below_set ?_ GE791.out) | exact HB.out))); (case side2 => exact HC0_8.out); (case side3 => exact Kd.C_below HR0_9.out (by repeat (first | (with_reducible first | exact HB.out | apply below_alloc | apply pw_below_drewN | apply below_drew1 | refine below_set ?_ GE790.out | refine below_set ?_ GE791.out) | exact HB.out))); (case side4 => exact HC0_9.out); rintro e w9 ⟨rfl, hb⟩; have n0_ := Aside0.mk (blk_below (g := gb790) (o := .cells #[.int .i64 a0_0, .int .i64 a0_1, .int .i64 a0_2, .string a0_3, .int .i64 a0_4, .int .i64 a0_5, .slice A0_6 l0_6.length c0_6, .int .i64 a0_7, .slice A0_8 l0_8.length c0_8, .slice A0_9 l0_9.length c0_9, .slice A0_10 l0_10.length c0_10, .bool a0_11, .slice A0_12 l0_12.length c0_12, .string a0_13] 68 (0, 0)) (by (with_reducible repeat (first | refine blk_drewN ?_ _ | refine blk_drew ?_ | refine blk_alloc ?_ _)); refine blk_far ?_ NB790_791.out _; (with_reducible repeat (first | refine blk_drewN ?_ _ | refine blk_drew ?_ | refine blk_alloc ?_ _)); refine blk_far ?_ NB790_791.out _; (with_reducible repeat (first | refine blk_drewN ?_ _ | refine blk_drew ?_ | refine blk_alloc ?_ _)); refine blk_far ?_ NB790_791.out _; (with_reducible repeat (first | refine blk_drewN ?_ _ | refine blk_drew ?_ | refine blk_alloc ?_ _)); exact BK790.out) hb); have n1_ := Aside0.mk (blk_below (g := gb791) (o := .cells #[.int .i64 a0_7, .slice A0_8 l0_8.length c0_8, .slice A0_9 l0_9.length c0_9] 36 (0, 0)) (by (with_reducible repeat (first | refine blk_drewN ?_ _ | refine blk_drew ?_ | refine blk_alloc ?_ _)); refine blk_put (cs := #[.int .i64 a0_7, .slice A0_8 l0_8.length c0_8, .slice none 0 0]) ?_ 2 _ rfl; (with_reducible repeat (first | refine blk_drewN ?_ _ | refine blk_drew ?_ | refine blk_alloc ?_ _)); refine blk_put (cs := #[.int .i64 a0_7, .slice none 0 0, .slice none 0 0]) ?_ 1 _ rfl; (with_reducible repeat (first | refine blk_drewN ?_ _ | refine blk_drew ?_ | refine blk_alloc ?_ _)); refine blk_put (cs := #[.int .i64 0, .slice none 0 0, .slice none 0 0]) ?_ 0 _ rfl; (with_reducible repeat (first | refine blk_drewN ?_ _ | refine blk_drew ?_ | refine blk_alloc ?_ _)); exact BK791.out) hb); have n2_ := Aside0.mk (below_step (by repeat (first | (with_reducible first | exact HB.out | apply below_alloc | apply pw_below_drewN | apply below_drew1 | refine below_set ?_ GE790.out | refine below_set ?_ GE791.out) | exact HB.out)) hb); clear BK790; clear BK791; clear HB; have BK790 := n0_; have BK791 := n1_; have HB := n2_; clear n0_ n1_ n2_; (try clear hb); (try clear hb2); (try clear hk); (try clear hi))))
    go_ret
    exact ⟨by first | rfl | (simp [errW_none, errW_some] <;> rfl) | (simp [*, errW_none, errW_some] <;> rfl), by repeat (first | (with_reducible first | exact HB.out | apply below_alloc | apply pw_below_drewN | apply below_drew1 | refine below_set ?_ GE790.out | refine below_set ?_ GE791.out) | exact HB.out)⟩
  · replace c3 := Bool.eq_false_iff.mpr c3
    subst c3
    have H1 : ((spec_l1In.f a0_7 1 (wrap64 (a0_2 - 1))).bind fun t793 => (if t793 = true then ((spec_NamesOk.f k l0_8).bind fun t794 => (if t794 = true then (spec_l9Tc.j0 k ((l0_9.length : Int) != (l0_8.length : Int)) a0_7 l0_8 l0_9) else (spec_l9Tc.j0 k true a0_7 l0_8 l0_9))) else (spec_l9Tc.j0 k true a0_7 l0_8 l0_9))) = some r := by rw [if_neg (show ¬ (false = true) by decide)] at H; exact H
    clear H
    have H := H1
    clear H1
    have HC10 := Aside0.mk H
    clear H
    go_enter Try.func96, Try.ntmps96
    go_upto_region 4 with (first | ((with_reducible refine gate_dst (N := 1) rfl ?_); (try (refine gate_guard (by rfl) ?_; dsimp only)); refine box_event ?hg (N := 1) ?hd (cs := #[.int .i64 a0_0, .int .i64 a0_1, .int .i64 a0_2, .string a0_3, .int .i64 a0_4, .int .i64 a0_5, .slice A0_6 l0_6.length c0_6, .int .i64 a0_7, .slice A0_8 l0_8.length c0_8, .slice A0_9 l0_9.length c0_9, .slice A0_10 l0_10.length c0_10, .bool a0_11, .slice A0_12 l0_12.length c0_12, .string a0_13]) (t := 68) ?hr ?_; (case hd => rfl); (case hg => rfl); (case hr => first | (go_simp; done) | (go_simp; rfl)); intro gb790 hg w11 hbox hb; have n0_ := Aside0.mk (below_step (by repeat (first | (with_reducible first | exact HB.out | apply below_alloc | apply pw_below_drewN | apply below_drew1) | exact HB.out)) hb); have n1_ := Aside0.mk (hbox); have n2_ := Aside0.mk ((by rw [hg]; exact (below_size (by repeat (first | (with_reducible first | exact HB.out | apply below_alloc | apply pw_below_drewN | apply below_drew1) | exact HB.out))) : w.heap.size ≤ gb790)); have n3_ := n2_; clear HB; have HB := n0_; have BK790 := n1_; have GW790 := n2_; have GE790 := n3_; clear n0_ n1_ n2_ n3_; clear hb hbox hg; obtain ⟨hcz12_0, hcz12_1, hcz12_2, hcz12_3, hcz12_4, hcz12_5, hcz12_6, hcz12_7, hcz12_8, hcz12_9, hcz12_10, hcz12_11, hcz12_12, hcz12_13⟩ := cells14 BK790.out; obtain ⟨hfz12_0, hfz12_1, hfz12_2, hfz12_3, hfz12_4, hfz12_5, hfz12_6, hfz12_7, hfz12_8, hfz12_9, hfz12_10, hfz12_11, hfz12_12, hfz12_13⟩ := frozens14 BK790.out) | ((with_reducible refine gate_dst (N := 3) rfl ?_); (try (refine gate_guard (by rfl) ?_; dsimp only)); refine box_event ?hg (N := 3) ?hd (cs := #[.int .i64 0, .slice none 0 0, .slice none 0 0]) (t := 36) ?hr ?_; (case hd => rfl); (case hg => rfl); (case hr => first | (go_simp; done) | (go_simp; rfl)); intro gb791 hg w13 hbox hb; have n0_ := Aside0.mk (blk_below (g := gb790) (by (with_reducible repeat (first | refine blk_drewN ?_ _ | refine blk_drew ?_ | refine blk_alloc ?_ _)); exact BK790.out) hb); have n1_ := Aside0.mk (below_step (by repeat (first | (with_reducible first | exact HB.out | apply below_alloc | apply pw_below_drewN | apply below_drew1 | refine below_set ?_ GE790.out) | exact HB.out)) hb); have n2_ := Aside0.mk (hbox); have n3_ := Aside0.mk ((by rw [hg]; exact (below_size (by repeat (first | (with_reducible first | exact HB.out | apply below_alloc | apply pw_below_drewN | apply below_drew1 | refine below_set ?_ GE790.out) | exact HB.out))) : w.heap.size ≤ gb791)); have n4_ := Aside0.mk ((by rw [hg]; exact (below_size (by repeat (first | (with_reducible first | exact HB.out | apply below_alloc | apply pw_below_drewN | apply below_drew1 | refine below_set ?_ GE790.out) | exact HB.out))) : w.heap.size ≤ gb791)); have n5_ := Aside0.mk ((by rw [hg]; exact Nat.ne_of_lt (blk_lt (g := gb790) (o := .cells #[.int .i64 a0_0, .int .i64 a0_1, .int .i64 a0_2, .string a0_3, .int .i64 a0_4, .int .i64 a0_5, .slice A0_6 l0_6.length c0_6, .int .i64 a0_7, .slice A0_8 l0_8.length c0_8, .slice A0_9 l0_9.length c0_9, .slice A0_10 l0_10.length c0_10, .bool a0_11, .slice A0_12 l0_12.length c0_12, .string a0_13] 68 (0, 0)) (by (with_reducible repeat (first | refine blk_drewN ?_ _ | refine blk_drew ?_ | refine blk_alloc ?_ _)); exact BK790.out)) : gb790 ≠ gb791)); have n6_ := Aside0.mk ((by rw [hg]; exact Nat.ne_of_gt (blk_lt (g := gb790) (o := .cells #[.int .i64 a0_0, .int .i64 a0_1, .int .i64 a0_2, .string a0_3, .int .i64 a0_4, .int .i64 a0_5, .slice A0_6 l0_6.length c0_6, .int .i64 a0_7, .slice A0_8 l0_8.length c0_8, .slice A0_9 l0_9.length c0_9, .slice A0_10 l0_10.length c0_10, .bool a0_11, .slice A0_12 l0_12.length c0_12, .string a0_13] 68 (0, 0)) (by (with_reducible repeat (first | refine blk_drewN ?_ _ | refine blk_drew ?_ | refine blk_alloc ?_ _)); exact BK790.out)) : gb791 ≠ gb790)); clear BK790; clear HB; have BK790 := n0_; have HB := n1_; have BK791 := n2_; have GW791 := n3_; have GE791 := n4_; have NB790_791 := n5_; have NB791_790 := n6_; clear n0_ n1_ n2_ n3_ n4_ n5_ n6_; clear hb hbox hg; have hnb14 := NB791_790.out; have hnc14 := NB790_791.out; obtain ⟨hcz15_0, hcz15_1, hcz15_2⟩ := cells3 BK791.out; obtain ⟨hfz15_0, hfz15_1, hfz15_2⟩ := frozens3 BK791.out) | (go_at_call 84; (with_reducible refine (spec_l8None.calls a0_7 _ _ l0_8 _ _ l0_9 false _ ?side1 ?side2 ?side3 ?side4 A2.out).mono ?_); (case side1 => exact Kd.C_below HR0_8.out (by repeat (first | (with_reducible first | exact HB.out | apply below_alloc | apply pw_below_drewN | apply below_drew1 | refine below_set ?_ GE790.out | refine below_set ?_ GE791.out) | exact HB.out))); (case side2 => exact HC0_8.out); (case side3 => exact Kd.C_below HR0_9.out (by repeat (first | (with_reducible first | exact HB.out | apply below_alloc | apply pw_below_drewN | apply below_drew1 | refine below_set ?_ GE790.out | refine below_set ?_ GE791.out) | exact HB.out))); (case side4 => exact HC0_9.out); rintro e w16 ⟨rfl, hb⟩; have n0_ := Aside0.mk (blk_below (g := gb790) (o := .cells #[.int .i64 a0_0, .int .i64 a0_1, .int .i64 a0_2, .string a0_3, .int .i64 a0_4, .int .i64 a0_5, .slice A0_6 l0_6.length c0_6, .int .i64 a0_7, .slice A0_8 l0_8.length c0_8, .slice A0_9 l0_9.length c0_9, .slice A0_10 l0_10.length c0_10, .bool a0_11, .slice A0_12 l0_12.length c0_12, .string a0_13] 68 (0, 0)) (by (with_reducible repeat (first | refine blk_drewN ?_ _ | refine blk_drew ?_ | refine blk_alloc ?_ _)); refine blk_far ?_ NB790_791.out _; (with_reducible repeat (first | refine blk_drewN ?_ _ | refine blk_drew ?_ | refine blk_alloc ?_ _)); refine blk_far ?_ NB790_791.out _; (with_reducible repeat (first | refine blk_drewN ?_ _ | refine blk_drew ?_ | refine blk_alloc ?_ _)); refine blk_far ?_ NB790_791.out _; (with_reducible repeat (first | refine blk_drewN ?_ _ | refine blk_drew ?_ | refine blk_alloc ?_ _)); exact BK790.out) hb); have n1_ := Aside0.mk (blk_below (g := gb791) (o := .cells #[.int .i64 a0_7, .slice A0_8 l0_8.length c0_8, .slice A0_9 l0_9.length c0_9] 36 (0, 0)) (by (with_reducible repeat (first | refine blk_drewN ?_ _ | refine blk_drew ?_ | refine blk_alloc ?_ _)); refine blk_put (cs := #[.int .i64 a0_7, .slice A0_8 l0_8.length c0_8, .slice none 0 0]) ?_ 2 _ rfl; (with_reducible repeat (first | refine blk_drewN ?_ _ | refine blk_drew ?_ | refine blk_alloc ?_ _)); refine blk_put (cs := #[.int .i64 a0_7, .slice none 0 0, .slice none 0 0]) ?_ 1 _ rfl; (with_reducible repeat (first | refine blk_drewN ?_ _ | refine blk_drew ?_ | refine blk_alloc ?_ _)); refine blk_put (cs := #[.int .i64 0, .slice none 0 0, .slice none 0 0]) ?_ 0 _ rfl; (with_reducible repeat (first | refine blk_drewN ?_ _ | refine blk_drew ?_ | refine blk_alloc ?_ _)); exact BK791.out) hb); have n2_ := Aside0.mk (below_step (by repeat (first | (with_reducible first | exact HB.out | apply below_alloc | apply pw_below_drewN | apply below_drew1 | refine below_set ?_ GE790.out | refine below_set ?_ GE791.out) | exact HB.out)) hb); clear BK790; clear BK791; clear HB; have BK790 := n0_; have BK791 := n1_; have HB := n2_; clear n0_ n1_ n2_; (try clear hb); (try clear hb2); (try clear hk); (try clear hi)))
    repeat (go_quiet (first | ((with_reducible refine gate_dst (N := 1) rfl ?_); (try (refine gate_guard (by rfl) ?_; dsimp only)); refine box_event ?hg (N := 1) ?hd (cs := #[.int .i64 a0_0, .int .i64 a0_1, .int .i64 a0_2, .string a0_3, .int .i64 a0_4, .int .i64 a0_5, .slice A0_6 l0_6.length c0_6, .int .i64 a0_7, .slice A0_8 l0_8.length c0_8, .slice A0_9 l0_9.length c0_9, .slice A0_10 l0_10.length c0_10, .bool a0_11, .slice A0_12 l0_12.length c0_12, .string a0_13]) (t := 68) ?hr ?_; (case hd => rfl); (case hg => rfl); (case hr => first | (go_simp; done) | (go_simp; rfl)); intro gb790 hg w11 hbox hb; have n0_ := Aside0.mk (below_step (by repeat (first | (with_reducible first | exact HB.out | apply below_alloc | apply pw_below_drewN | apply below_drew1) | exact HB.out)) hb); have n1_ := Aside0.mk (hbox); have n2_ := Aside0.mk ((by rw [hg]; exact (below_size (by repeat (first | (with_reducible first | exact HB.out | apply below_alloc | apply pw_below_drewN | apply below_drew1) | exact HB.out))) : w.heap.size ≤ gb790)); have n3_ := n2_; clear HB; have HB := n0_; have BK790 := n1_; have GW790 := n2_; have GE790 := n3_; clear n0_ n1_ n2_ n3_; clear hb hbox hg; obtain ⟨hcz12_0, hcz12_1, hcz12_2, hcz12_3, hcz12_4, hcz12_5, hcz12_6, hcz12_7, hcz12_8, hcz12_9, hcz12_10, hcz12_11, hcz12_12, hcz12_13⟩ := cells14 BK790.out; obtain ⟨hfz12_0, hfz12_1, hfz12_2, hfz12_3, hfz12_4, hfz12_5, hfz12_6, hfz12_7, hfz12_8, hfz12_9, hfz12_10, hfz12_11, hfz12_12, hfz12_13⟩ := frozens14 BK790.out) | ((with_reducible refine gate_dst (N := 3) rfl ?_); (try (refine gate_guard (by rfl) ?_; dsimp only)); refine box_event ?hg (N := 3) ?hd (cs := #[.int .i64 0, .slice none 0 0, .slice none 0 0]) (t := 36) ?hr ?_; (case hd => rfl); (case hg => rfl); (case hr => first | (go_simp; done) | (go_simp; rfl)); intro gb791 hg w13 hbox hb; have n0_ := Aside0.mk (blk_below (g := gb790) (by (with_reducible repeat (first | refine blk_drewN ?_ _ | refine blk_drew ?_ | refine blk_alloc ?_ _)); exact BK790.out) hb); have n1_ := Aside0.mk (below_step (by repeat (first | (with_reducible first | exact HB.out | apply below_alloc | apply pw_below_drewN | apply below_drew1 | refine below_set ?_ GE790.out) | exact HB.out)) hb); have n2_ := Aside0.mk (hbox); have n3_ := Aside0.mk ((by rw [hg]; exact (below_size (by repeat (first | (with_reducible first | exact HB.out | apply below_alloc | apply pw_below_drewN | apply below_drew1 | refine below_set ?_ GE790.out) | exact HB.out))) : w.heap.size ≤ gb791)); have n4_ := Aside0.mk ((by rw [hg]; exact (below_size (by repeat (first | (with_reducible first | exact HB.out | apply below_alloc | apply pw_below_drewN | apply below_drew1 | refine below_set ?_ GE790.out) | exact HB.out))) : w.heap.size ≤ gb791)); have n5_ := Aside0.mk ((by rw [hg]; exact Nat.ne_of_lt (blk_lt (g := gb790) (o := .cells #[.int .i64 a0_0, .int .i64 a0_1, .int .i64 a0_2, .string a0_3, .int .i64 a0_4, .int .i64 a0_5, .slice A0_6 l0_6.length c0_6, .int .i64 a0_7, .slice A0_8 l0_8.length c0_8, .slice A0_9 l0_9.length c0_9, .slice A0_10 l0_10.length c0_10, .bool a0_11, .slice A0_12 l0_12.length c0_12, .string a0_13] 68 (0, 0)) (by (with_reducible repeat (first | refine blk_drewN ?_ _ | refine blk_drew ?_ | refine blk_alloc ?_ _)); exact BK790.out)) : gb790 ≠ gb791)); have n6_ := Aside0.mk ((by rw [hg]; exact Nat.ne_of_gt (blk_lt (g := gb790) (o := .cells #[.int .i64 a0_0, .int .i64 a0_1, .int .i64 a0_2, .string a0_3, .int .i64 a0_4, .int .i64 a0_5, .slice A0_6 l0_6.length c0_6, .int .i64 a0_7, .slice A0_8 l0_8.length c0_8, .slice A0_9 l0_9.length c0_9, .slice A0_10 l0_10.length c0_10, .bool a0_11, .slice A0_12 l0_12.length c0_12, .string a0_13] 68 (0, 0)) (by (with_reducible repeat (first | refine blk_drewN ?_ _ | refine blk_drew ?_ | refine blk_alloc ?_ _)); exact BK790.out)) : gb791 ≠ gb790)); clear BK790; clear HB; have BK790 := n0_; have HB := n1_; have BK791 := n2_; have GW791 := n3_; have GE791 := n4_; have NB790_791 := n5_; have NB791_790 := n6_; clear n0_ n1_ n2_ n3_ n4_ n5_ n6_; clear hb hbox hg; have hnb14 := NB791_790.out; have hnc14 := NB790_791.out; obtain ⟨hcz15_0, hcz15_1, hcz15_2⟩ := cells3 BK791.out; obtain ⟨hfz15_0, hfz15_1, hfz15_2⟩ := frozens3 BK791.out) | (go_at_call 84; (with_reducible refine (spec_l8None.calls a0_7 _ _ l0_8 _ _ l0_9 false _ ?side1 ?side2 ?side3 ?side4 A2.out).mono ?_); (case side1 => exact Kd.C_below HR0_8.out (by repeat (first | (with_reducible first | exact HB.out | apply below_alloc | apply pw_below_drewN | apply below_drew1 | refine below_set ?_ GE790.out | refine below_set ?_ GE791.out) | exact HB.out))); (case side2 => exact HC0_8.out); (case side3 => exact Kd.C_below HR0_9.out (by repeat (first | (with_reducible first | exact HB.out | apply below_alloc | apply pw_below_drewN | apply below_drew1 | refine below_set ?_ GE790.out | refine below_set ?_ GE791.out) | exact HB.out))); (case side4 => exact HC0_9.out); rintro e w16 ⟨rfl, hb⟩; have n0_ := Aside0.mk (blk_below (g := gb790) (o := .cells #[.int .i64 a0_0, .int .i64 a0_1, .int .i64 a0_2, .string a0_3, .int .i64 a0_4, .int .i64 a0_5, .slice A0_6 l0_6.length c0_6, .int .i64 a0_7, .slice A0_8 l0_8.length c0_8, .slice A0_9 l0_9.length c0_9, .slice A0_10 l0_10.length c0_10, .bool a0_11, .slice A0_12 l0_12.length c0_12, .string a0_13] 68 (0, 0)) (by (with_reducible repeat (first | refine blk_drewN ?_ _ | refine blk_drew ?_ | refine blk_alloc ?_ _)); refine blk_far ?_ NB790_791.out _; (with_reducible repeat (first | refine blk_drewN ?_ _ | refine blk_drew ?_ | refine blk_alloc ?_ _)); refine blk_far ?_ NB790_791.out _; (with_reducible repeat (first | refine blk_drewN ?_ _ | refine blk_drew ?_ | refine blk_alloc ?_ _)); refine blk_far ?_ NB790_791.out _; (with_reducible repeat (first | refine blk_drewN ?_ _ | refine blk_drew ?_ | refine blk_alloc ?_ _)); exact BK790.out) hb); have n1_ := Aside0.mk (blk_below (g := gb791) (o := .cells #[.int .i64 a0_7, .slice A0_8 l0_8.length c0_8, .slice A0_9 l0_9.length c0_9] 36 (0, 0)) (by (with_reducible repeat (first | refine blk_drewN ?_ _ | refine blk_drew ?_ | refine blk_alloc ?_ _)); refine blk_put (cs := #[.int .i64 a0_7, .slice A0_8 l0_8.length c0_8, .slice none 0 0]) ?_ 2 _ rfl; (with_reducible repeat (first | refine blk_drewN ?_ _ | refine blk_drew ?_ | refine blk_alloc ?_ _)); refine blk_put (cs := #[.int .i64 a0_7, .slice none 0 0, .slice none 0 0]) ?_ 1 _ rfl; (with_reducible repeat (first | refine blk_drewN ?_ _ | refine blk_drew ?_ | refine blk_alloc ?_ _)); refine blk_put (cs := #[.int .i64 0, .slice none 0 0, .slice none 0 0]) ?_ 0 _ rfl; (with_reducible repeat (first | refine blk_drewN ?_ _ | refine blk_drew ?_ | refine blk_alloc ?_ _)); exact BK791.out) hb); have n2_ := Aside0.mk (below_step (by repeat (first | (with_reducible first | exact HB.out | apply below_alloc | apply pw_below_drewN | apply below_drew1 | refine below_set ?_ GE790.out | refine below_set ?_ GE791.out) | exact HB.out)) hb); clear BK790; clear BK791; clear HB; have BK790 := n0_; have BK791 := n1_; have HB := n2_; clear n0_ n1_ n2_; (try clear hb); (try clear hb2); (try clear hk); (try clear hi))); go_upto_region 4 with (first | ((with_reducible refine gate_dst (N := 1) rfl ?_); (try (refine gate_guard (by rfl) ?_; dsimp only)); refine box_event ?hg (N := 1) ?hd (cs := #[.int .i64 a0_0, .int .i64 a0_1, .int .i64 a0_2, .string a0_3, .int .i64 a0_4, .int .i64 a0_5, .slice A0_6 l0_6.length c0_6, .int .i64 a0_7, .slice A0_8 l0_8.length c0_8, .slice A0_9 l0_9.length c0_9, .slice A0_10 l0_10.length c0_10, .bool a0_11, .slice A0_12 l0_12.length c0_12, .string a0_13]) (t := 68) ?hr ?_; (case hd => rfl); (case hg => rfl); (case hr => first | (go_simp; done) | (go_simp; rfl)); intro gb790 hg w11 hbox hb; have n0_ := Aside0.mk (below_step (by repeat (first | (with_reducible first | exact HB.out | apply below_alloc | apply pw_below_drewN | apply below_drew1) | exact HB.out)) hb); have n1_ := Aside0.mk (hbox); have n2_ := Aside0.mk ((by rw [hg]; exact (below_size (by repeat (first | (with_reducible first | exact HB.out | apply below_alloc | apply pw_below_drewN | apply below_drew1) | exact HB.out))) : w.heap.size ≤ gb790)); have n3_ := n2_; clear HB; have HB := n0_; have BK790 := n1_; have GW790 := n2_; have GE790 := n3_; clear n0_ n1_ n2_ n3_; clear hb hbox hg; obtain ⟨hcz12_0, hcz12_1, hcz12_2, hcz12_3, hcz12_4, hcz12_5, hcz12_6, hcz12_7, hcz12_8, hcz12_9, hcz12_10, hcz12_11, hcz12_12, hcz12_13⟩ := cells14 BK790.out; obtain ⟨hfz12_0, hfz12_1, hfz12_2, hfz12_3, hfz12_4, hfz12_5, hfz12_6, hfz12_7, hfz12_8, hfz12_9, hfz12_10, hfz12_11, hfz12_12, hfz12_13⟩ := frozens14 BK790.out) | ((with_reducible refine gate_dst (N := 3) rfl ?_); (try (refine gate_guard (by rfl) ?_; dsimp only)); refine box_event ?hg (N := 3) ?hd (cs := #[.int .i64 0, .slice none 0 0, .slice none 0 0]) (t := 36) ?hr ?_; (case hd => rfl); (case hg => rfl); (case hr => first | (go_simp; done) | (go_simp; rfl)); intro gb791 hg w13 hbox hb; have n0_ := Aside0.mk (blk_below (g := gb790) (by (with_reducible repeat (first | refine blk_drewN ?_ _ | refine blk_drew ?_ | refine blk_alloc ?_ _)); exact BK790.out) hb); have n1_ := Aside0.mk (below_step (by repeat (first | (with_reducible first | exact HB.out | apply below_alloc | apply pw_below_drewN | apply below_drew1 | refine below_set ?_ GE790.out) | exact HB.out)) hb); have n2_ := Aside0.mk (hbox); have n3_ := Aside0.mk ((by rw [hg]; exact (below_size (by repeat (first | (with_reducible first | exact HB.out | apply below_alloc | apply pw_below_drewN | apply below_drew1 | refine below_set ?_ GE790.out) | exact HB.out))) : w.heap.size ≤ gb791)); have n4_ := Aside0.mk ((by rw [hg]; exact (below_size (by repeat (first | (with_reducible first | exact HB.out | apply below_alloc | apply pw_below_drewN | apply below_drew1 | refine below_set ?_ GE790.out) | exact HB.out))) : w.heap.size ≤ gb791)); have n5_ := Aside0.mk ((by rw [hg]; exact Nat.ne_of_lt (blk_lt (g := gb790) (o := .cells #[.int .i64 a0_0, .int .i64 a0_1, .int .i64 a0_2, .string a0_3, .int .i64 a0_4, .int .i64 a0_5, .slice A0_6 l0_6.length c0_6, .int .i64 a0_7, .slice A0_8 l0_8.length c0_8, .slice A0_9 l0_9.length c0_9, .slice A0_10 l0_10.length c0_10, .bool a0_11, .slice A0_12 l0_12.length c0_12, .string a0_13] 68 (0, 0)) (by (with_reducible repeat (first | refine blk_drewN ?_ _ | refine blk_drew ?_ | refine blk_alloc ?_ _)); exact BK790.out)) : gb790 ≠ gb791)); have n6_ := Aside0.mk ((by rw [hg]; exact Nat.ne_of_gt (blk_lt (g := gb790) (o := .cells #[.int .i64 a0_0, .int .i64 a0_1, .int .i64 a0_2, .string a0_3, .int .i64 a0_4, .int .i64 a0_5, .slice A0_6 l0_6.length c0_6, .int .i64 a0_7, .slice A0_8 l0_8.length c0_8, .slice A0_9 l0_9.length c0_9, .slice A0_10 l0_10.length c0_10, .bool a0_11, .slice A0_12 l0_12.length c0_12, .string a0_13] 68 (0, 0)) (by (with_reducible repeat (first | refine blk_drewN ?_ _ | refine blk_drew ?_ | refine blk_alloc ?_ _)); exact BK790.out)) : gb791 ≠ gb790)); clear BK790; clear HB; have BK790 := n0_; have HB := n1_; have BK791 := n2_; have GW791 := n3_; have GE791 := n4_; have NB790_791 := n5_; have NB791_790 := n6_; clear n0_ n1_ n2_ n3_ n4_ n5_ n6_; clear hb hbox hg; have hnb14 := NB791_790.out; have hnc14 := NB790_791.out; obtain ⟨hcz15_0, hcz15_1, hcz15_2⟩ := cells3 BK791.out; obtain ⟨hfz15_0, hfz15_1, hfz15_2⟩ := frozens3 BK791.out) | (go_at_call 84; (with_reducible refine (spec_l8None.calls a0_7 _ _ l0_8 _ _ l0_9 false _ ?side1 ?side2 ?side3 ?side4 A2.out).mono ?_); (case side1 => exact Kd.C_below HR0_8.out (by repeat (first | (with_reducible first | exact HB.out | apply below_alloc | apply pw_below_drewN | apply below_drew1 | refine below_set ?_ GE790.out | refine below_set ?_ GE791.out) | exact HB.out))); (case side2 => exact HC0_8.out); (case side3 => exact Kd.C_below HR0_9.out (by repeat (first | (with_reducible first | exact HB.out | apply below_alloc | apply pw_below_drewN | apply below_drew1 | refine below_set ?_ GE790.out | refine below_set ?_ GE791.out) | exact HB.out))); (case side4 => exact HC0_9.out); rintro e w16 ⟨rfl, hb⟩; have n0_ := Aside0.mk (blk_below (g := gb790) (o := .cells #[.int .i64 a0_0, .int .i64 a0_1, .int .i64 a0_2, .string a0_3, .int .i64 a0_4, .int .i64 a0_5, .slice A0_6 l0_6.length c0_6, .int .i64 a0_7, .slice A0_8 l0_8.length c0_8, .slice A0_9 l0_9.length c0_9, .slice A0_10 l0_10.length c0_10, .bool a0_11, .slice A0_12 l0_12.length c0_12, .string a0_13] 68 (0, 0)) (by (with_reducible repeat (first | refine blk_drewN ?_ _ | refine blk_drew ?_ | refine blk_alloc ?_ _)); refine blk_far ?_ NB790_791.out _; (with_reducible repeat (first | refine blk_drewN ?_ _ | refine blk_drew ?_ | refine blk_alloc ?_ _)); refine blk_far ?_ NB790_791.out _; (with_reducible repeat (first | refine blk_drewN ?_ _ | refine blk_drew ?_ | refine blk_alloc ?_ _)); refine blk_far ?_ NB790_791.out _; (with_reducible repeat (first | refine blk_drewN ?_ _ | refine blk_drew ?_ | refine blk_alloc ?_ _)); exact BK790.out) hb); have n1_ := Aside0.mk (blk_below (g := gb791) (o := .cells #[.int .i64 a0_7, .slice A0_8 l0_8.length c0_8, .slice A0_9 l0_9.length c0_9] 36 (0, 0)) (by (with_reducible repeat (first | refine blk_drewN ?_ _ | refine blk_drew ?_ | refine blk_alloc ?_ _)); refine blk_put (cs := #[.int .i64 a0_7, .slice A0_8 l0_8.length c0_8, .slice none 0 0]) ?_ 2 _ rfl; (with_reducible repeat (first | refine blk_drewN ?_ _ | refine blk_drew ?_ | refine blk_alloc ?_ _)); refine blk_put (cs := #[.int .i64 a0_7, .slice none 0 0, .slice none 0 0]) ?_ 1 _ rfl; (with_reducible repeat (first | refine blk_drewN ?_ _ | refine blk_drew ?_ | refine blk_alloc ?_ _)); refine blk_put (cs := #[.int .i64 0, .slice none 0 0, .slice none 0 0]) ?_ 0 _ rfl; (with_reducible repeat (first | refine blk_drewN ?_ _ | refine blk_drew ?_ | refine blk_alloc ?_ _)); exact BK791.out) hb); have n2_ := Aside0.mk (below_step (by repeat (first | (with_reducible first | exact HB.out | apply below_alloc | apply pw_below_drewN | apply below_drew1 | refine below_set ?_ GE790.out | refine below_set ?_ GE791.out) | exact HB.out)) hb); clear BK790; clear BK791; clear HB; have BK790 := n0_; have BK791 := n1_; have HB := n2_; clear n0_ n1_ n2_; (try clear hb); (try clear hb2); (try clear hk); (try clear hi))))
    (try simp only [Act.put, List.setIfInBounds_toArray, List.set_cons_zero, List.set_cons_succ])
    go_cut [30] (fun v30 wc => ∃ (kq : Nat) (x30_9 : Bool), v30 = .bool x30_9 ∧ Aside0 (spec_l9Tc.j0 kq x30_9 a0_7 l0_8 l0_9 = some r) ∧ Aside0 (kq ≤ k) ∧ Aside0 (wc.heap[gb790]? = some (.cells #[.int .i64 a0_0, .int .i64 a0_1, .int .i64 a0_2, .string a0_3, .int .i64 a0_4, .int .i64 a0_5, (.slice A0_6 l0_6.length c0_6), .int .i64 a0_7, (.slice A0_8 l0_8.length c0_8), (.slice A0_9 l0_9.length c0_9), (.slice A0_10 l0_10.length c0_10), .bool a0_11, (.slice A0_12 l0_12.length c0_12), .string a0_13] 68 (0, 0))) ∧ Aside0 (wc.heap[gb791]? = some (.cells #[.int .i64 a0_7, (.slice A0_8 l0_8.length c0_8), (.slice A0_9 l0_9.length c0_9)] 36 (0, 0))) ∧ Aside0 (Below w.heap.size w wc))
    case first =>
      have H := HC10.out
      clear HC10
      replace H := Option.bind_eq_some_iff.mp H
      obtain ⟨t793, A170, H⟩ := H
      replace H : (if t793 = true then ((spec_NamesOk.f k l0_8).bind fun t794 => (if t794 = true then (spec_l9Tc.j0 k ((l0_9.length : Int) != (l0_8.length : Int)) a0_7 l0_8 l0_9) else (spec_l9Tc.j0 k true a0_7 l0_8 l0_9))) else (spec_l9Tc.j0 k true a0_7 l0_8 l0_9)) = some r := H
      have A17 := Aside0.mk A170
      clear A170
      by_cases c18 : t793 = true
      · subst c18
        have H1 : ((spec_NamesOk.f k l0_8).bind fun t794 => (if t794 = true then (spec_l9Tc.j0 k ((l0_9.length : Int) != (l0_8.length : Int)) a0_7 l0_8 l0_9) else (spec_l9Tc.j0 k true a0_7 l0_8 l0_9))) = some r := by rw [if_pos rfl] at H; exact H
        clear H
        have H := H1
        clear H1
        replace H := Option.bind_eq_some_iff.mp H
        obtain ⟨t794, A190, H⟩ := H
        replace H : (if t794 = true then (spec_l9Tc.j0 k ((l0_9.length : Int) != (l0_8.length : Int)) a0_7 l0_8 l0_9) else (spec_l9Tc.j0 k true a0_7 l0_8 l0_9)) = some r := H
        have A19 := Aside0.mk A190
        clear A190
        by_cases c20 : t794 = true
        · subst c20
          have H1 : (spec_l9Tc.j0 k ((l0_9.length : Int) != (l0_8.length : Int)) a0_7 l0_8 l0_9) = some r := by rw [if_pos rfl] at H; exact H
          clear H
          have H := H1
          clear H1
          have H' := Aside0.mk H
          clear H
          have hnb21 := NB791_790.out
          have hnc21 := NB790_791.out
          obtain ⟨hcz22_0, hcz22_1, hcz22_2⟩ := cells3 BK791.out
          obtain ⟨hfz22_0, hfz22_1, hfz22_2⟩ := frozens3 BK791.out
          obtain ⟨hcz23_0, hcz23_1, hcz23_2, hcz23_3, hcz23_4, hcz23_5, hcz23_6, hcz23_7, hcz23_8, hcz23_9, hcz23_10, hcz23_11, hcz23_12, hcz23_13⟩ := cells14 BK790.out
          obtain ⟨hfz23_0, hfz23_1, hfz23_2, hfz23_3, hfz23_4, hfz23_5, hfz23_6, hfz23_7, hfz23_8, hfz23_9, hfz23_10, hfz23_11, hfz23_12, hfz23_13⟩ := frozens14 BK790.out
          go_wp2_with (first | (go_at_call 64; (with_reducible refine (spec_l1In.calls a0_7 1 (wrap64 (a0_2 - 1)) true _ A17.out).mono ?_); rintro e w' ⟨rfl, ⟨nd, rfl⟩⟩; (try first | exact ⟨rfl, _, World.drewN_drewN _ _ _⟩ | exact ⟨rfl, _, Eq.trans (World.drewN_drewN _ _ _) (congrArg (World.drewN _) (Nat.add_assoc _ _ _))⟩)) | (go_at_call 116; (with_reducible refine (spec_NamesOk.calls k _ _ l0_8 true _ ?side1 ?side2 A19.out).mono ?_); (case side1 => repeat (first | exact (Kd.C_below HR0_8.out (by repeat (first | (with_reducible first | exact HB.out | apply below_alloc | apply pw_below_drewN | apply below_drew1 | refine below_set ?_ GE790.out | refine below_set ?_ GE791.out) | exact HB.out))) | (with_reducible refine Kd.C_alloc ?_ _) | (with_reducible refine Kd.C_drewN ?_ _) | (with_reducible refine Kd.C_drew ?_))); (case side2 => exact HC0_8.out); rintro e w' ⟨rfl, ⟨nd, rfl⟩⟩; (try first | exact ⟨rfl, _, World.drewN_drewN _ _ _⟩ | exact ⟨rfl, _, Eq.trans (World.drewN_drewN _ _ _) (congrArg (World.drewN _) (Nat.add_assoc _ _ _))⟩)))
          repeat (go_quiet (first | (go_at_call 64; (with_reducible refine (spec_l1In.calls a0_7 1 (wrap64 (a0_2 - 1)) true _ A17.out).mono ?_); rintro e w' ⟨rfl, ⟨nd, rfl⟩⟩; (try first | exact ⟨rfl, _, World.drewN_drewN _ _ _⟩ | exact ⟨rfl, _, Eq.trans (World.drewN_drewN _ _ _) (congrArg (World.drewN _) (Nat.add_assoc _ _ _))⟩)) | (go_at_call 116; (with_reducible refine (spec_NamesOk.calls k _ _ l0_8 true _ ?side1 ?side2 A19.out).mono ?_); (case side1 => repeat (first | exact (Kd.C_below HR0_8.out (by repeat (first | (with_reducible first | exact HB.out | apply below_alloc | apply pw_below_drewN | apply below_drew1 | refine below_set ?_ GE790.out | refine below_set ?_ GE791.out) | exact HB.out))) | (with_reducible refine Kd.C_alloc ?_ _) | (with_reducible refine Kd.C_drewN ?_ _) | (with_reducible refine Kd.C_drew ?_))); (case side2 => exact HC0_8.out); rintro e w' ⟨rfl, ⟨nd, rfl⟩⟩; (try first | exact ⟨rfl, _, World.drewN_drewN _ _ _⟩ | exact ⟨rfl, _, Eq.trans (World.drewN_drewN _ _ _) (congrArg (World.drewN _) (Nat.add_assoc _ _ _))⟩))); try go_wp2_with (first | (go_at_call 64; (with_reducible refine (spec_l1In.calls a0_7 1 (wrap64 (a0_2 - 1)) true _ A17.out).mono ?_); rintro e w' ⟨rfl, ⟨nd, rfl⟩⟩; (try first | exact ⟨rfl, _, World.drewN_drewN _ _ _⟩ | exact ⟨rfl, _, Eq.trans (World.drewN_drewN _ _ _) (congrArg (World.drewN _) (Nat.add_assoc _ _ _))⟩)) | (go_at_call 116; (with_reducible refine (spec_NamesOk.calls k _ _ l0_8 true _ ?side1 ?side2 A19.out).mono ?_); (case side1 => repeat (first | exact (Kd.C_below HR0_8.out (by repeat (first | (with_reducible first | exact HB.out | apply below_alloc | apply pw_below_drewN | apply below_drew1 | refine below_set ?_ GE790.out | refine below_set ?_ GE791.out) | exact HB.out))) | (with_reducible refine Kd.C_alloc ?_ _) | (with_reducible refine Kd.C_drewN ?_ _) | (with_reducible refine Kd.C_drew ?_))); (case side2 => exact HC0_8.out); rintro e w' ⟨rfl, ⟨nd, rfl⟩⟩; (try first | exact ⟨rfl, _, World.drewN_drewN _ _ _⟩ | exact ⟨rfl, _, Eq.trans (World.drewN_drewN _ _ _) (congrArg (World.drewN _) (Nat.add_assoc _ _ _))⟩))))
          go_meet
          case rel => exact ⟨_, (((l0_9.length : Int) != (l0_8.length : Int))), (by first | rfl | (simp; done) | (simp [*]; done)), H', ⟨by first | omega | exact Nat.le_refl _⟩, ⟨by (with_reducible repeat (first | refine blk_drewN ?_ _ | refine blk_drew ?_ | refine blk_alloc ?_ _)); exact BK790.out⟩, ⟨by (with_reducible repeat (first | refine blk_drewN ?_ _ | refine blk_drew ?_ | refine blk_alloc ?_ _)); exact BK791.out⟩, ⟨by repeat (first | (with_reducible first | exact HB.out | apply below_alloc | apply pw_below_drewN | apply below_drew1 | refine below_set ?_ GE790.out | refine below_set ?_ GE791.out) | exact HB.out)⟩⟩
        · replace c20 := Bool.eq_false_iff.mpr c20
          subst c20
          have H1 : (spec_l9Tc.j0 k true a0_7 l0_8 l0_9) = some r := by rw [if_neg (show ¬ (false = true) by decide)] at H; exact H
          clear H
          have H := H1
          clear H1
          have H' := Aside0.mk H
          clear H
          have hnb24 := NB791_790.out
          have hnc24 := NB790_791.out
          obtain ⟨hcz25_0, hcz25_1, hcz25_2⟩ := cells3 BK791.out
          obtain ⟨hfz25_0, hfz25_1, hfz25_2⟩ := frozens3 BK791.out
          obtain ⟨hcz26_0, hcz26_1, hcz26_2, hcz26_3, hcz26_4, hcz26_5, hcz26_6, hcz26_7, hcz26_8, hcz26_9, hcz26_10, hcz26_11, hcz26_12, hcz26_13⟩ := cells14 BK790.out
          obtain ⟨hfz26_0, hfz26_1, hfz26_2, hfz26_3, hfz26_4, hfz26_5, hfz26_6, hfz26_7, hfz26_8, hfz26_9, hfz26_10, hfz26_11, hfz26_12, hfz26_13⟩ := frozens14 BK790.out
          go_wp2_with (first | (go_at_call 64; (with_reducible refine (spec_l1In.calls a0_7 1 (wrap64 (a0_2 - 1)) true _ A17.out).mono ?_); rintro e w' ⟨rfl, ⟨nd, rfl⟩⟩; (try first | exact ⟨rfl, _, World.drewN_drewN _ _ _⟩ | exact ⟨rfl, _, Eq.trans (World.drewN_drewN _ _ _) (congrArg (World.drewN _) (Nat.add_assoc _ _ _))⟩)) | (go_at_call 116; (with_reducible refine (spec_NamesOk.calls k _ _ l0_8 false _ ?side1 ?side2 A19.out).mono ?_); (case side1 => repeat (first | exact (Kd.C_below HR0_8.out (by repeat (first | (with_reducible first | exact HB.out | apply below_alloc | apply pw_below_drewN | apply below_drew1 | refine below_set ?_ GE790.out | refine below_set ?_ GE791.out) | exact HB.out))) | (with_reducible refine Kd.C_alloc ?_ _) | (with_reducible refine Kd.C_drewN ?_ _) | (with_reducible refine Kd.C_drew ?_))); (case side2 => exact HC0_8.out); rintro e w' ⟨rfl, ⟨nd, rfl⟩⟩; (try first | exact ⟨rfl, _, World.drewN_drewN _ _ _⟩ | exact ⟨rfl, _, Eq.trans (World.drewN_drewN _ _ _) (congrArg (World.drewN _) (Nat.add_assoc _ _ _))⟩)))
          repeat (go_quiet (first | (go_at_call 64; (with_reducible refine (spec_l1In.calls a0_7 1 (wrap64 (a0_2 - 1)) true _ A17.out).mono ?_); rintro e w' ⟨rfl, ⟨nd, rfl⟩⟩; (try first | exact ⟨rfl, _, World.drewN_drewN _ _ _⟩ | exact ⟨rfl, _, Eq.trans (World.drewN_drewN _ _ _) (congrArg (World.drewN _) (Nat.add_assoc _ _ _))⟩)) | (go_at_call 116; (with_reducible refine (spec_NamesOk.calls k _ _ l0_8 false _ ?side1 ?side2 A19.out).mono ?_); (case side1 => repeat (first | exact (Kd.C_below HR0_8.out (by repeat (first | (with_reducible first | exact HB.out | apply below_alloc | apply pw_below_drewN | apply below_drew1 | refine below_set ?_ GE790.out | refine below_set ?_ GE791.out) | exact HB.out))) | (with_reducible refine Kd.C_alloc ?_ _) | (with_reducible refine Kd.C_drewN ?_ _) | (with_reducible refine Kd.C_drew ?_))); (case side2 => exact HC0_8.out); rintro e w' ⟨rfl, ⟨nd, rfl⟩⟩; (try first | exact ⟨rfl, _, World.drewN_drewN _ _ _⟩ | exact ⟨rfl, _, Eq.trans (World.drewN_drewN _ _ _) (congrArg (World.drewN _) (Nat.add_assoc _ _ _))⟩))); try go_wp2_with (first | (go_at_call 64; (with_reducible refine (spec_l1In.calls a0_7 1 (wrap64 (a0_2 - 1)) true _ A17.out).mono ?_); rintro e w' ⟨rfl, ⟨nd, rfl⟩⟩; (try first | exact ⟨rfl, _, World.drewN_drewN _ _ _⟩ | exact ⟨rfl, _, Eq.trans (World.drewN_drewN _ _ _) (congrArg (World.drewN _) (Nat.add_assoc _ _ _))⟩)) | (go_at_call 116; (with_reducible refine (spec_NamesOk.calls k _ _ l0_8 false _ ?side1 ?side2 A19.out).mono ?_); (case side1 => repeat (first | exact (Kd.C_below HR0_8.out (by repeat (first | (with_reducible first | exact HB.out | apply below_alloc | apply pw_below_drewN | apply below_drew1 | refine below_set ?_ GE790.out | refine below_set ?_ GE791.out) | exact HB.out))) | (with_reducible refine Kd.C_alloc ?_ _) | (with_reducible refine Kd.C_drewN ?_ _) | (with_reducible refine Kd.C_drew ?_))); (case side2 => exact HC0_8.out); rintro e w' ⟨rfl, ⟨nd, rfl⟩⟩; (try first | exact ⟨rfl, _, World.drewN_drewN _ _ _⟩ | exact ⟨rfl, _, Eq.trans (World.drewN_drewN _ _ _) (congrArg (World.drewN _) (Nat.add_assoc _ _ _))⟩))))
          go_meet
          case rel => exact ⟨_, (true), (by first | rfl | (simp; done) | (simp [*]; done)), H', ⟨by first | omega | exact Nat.le_refl _⟩, ⟨by (with_reducible repeat (first | refine blk_drewN ?_ _ | refine blk_drew ?_ | refine blk_alloc ?_ _)); exact BK790.out⟩, ⟨by (with_reducible repeat (first | refine blk_drewN ?_ _ | refine blk_drew ?_ | refine blk_alloc ?_ _)); exact BK791.out⟩, ⟨by repeat (first | (with_reducible first | exact HB.out | apply below_alloc | apply pw_below_drewN | apply below_drew1 | refine below_set ?_ GE790.out | refine below_set ?_ GE791.out) | exact HB.out)⟩⟩
      · replace c18 := Bool.eq_false_iff.mpr c18
        subst c18
        have H1 : (spec_l9Tc.j0 k true a0_7 l0_8 l0_9) = some r := by rw [if_neg (show ¬ (false = true) by decide)] at H; exact H
        clear H
        have H := H1
        clear H1
        have H' := Aside0.mk H
        clear H
        have hnb27 := NB791_790.out
        have hnc27 := NB790_791.out
        obtain ⟨hcz28_0, hcz28_1, hcz28_2⟩ := cells3 BK791.out
        obtain ⟨hfz28_0, hfz28_1, hfz28_2⟩ := frozens3 BK791.out
        obtain ⟨hcz29_0, hcz29_1, hcz29_2, hcz29_3, hcz29_4, hcz29_5, hcz29_6, hcz29_7, hcz29_8, hcz29_9, hcz29_10, hcz29_11, hcz29_12, hcz29_13⟩ := cells14 BK790.out
        obtain ⟨hfz29_0, hfz29_1, hfz29_2, hfz29_3, hfz29_4, hfz29_5, hfz29_6, hfz29_7, hfz29_8, hfz29_9, hfz29_10, hfz29_11, hfz29_12, hfz29_13⟩ := frozens14 BK790.out
        go_wp2_with (first | (go_at_call 64; (with_reducible refine (spec_l1In.calls a0_7 1 (wrap64 (a0_2 - 1)) false _ A17.out).mono ?_); rintro e w' ⟨rfl, ⟨nd, rfl⟩⟩; (try first | exact ⟨rfl, _, World.drewN_drewN _ _ _⟩ | exact ⟨rfl, _, Eq.trans (World.drewN_drewN _ _ _) (congrArg (World.drewN _) (Nat.add_assoc _ _ _))⟩)))
        repeat (go_quiet (first | (go_at_call 64; (with_reducible refine (spec_l1In.calls a0_7 1 (wrap64 (a0_2 - 1)) false _ A17.out).mono ?_); rintro e w' ⟨rfl, ⟨nd, rfl⟩⟩; (try first | exact ⟨rfl, _, World.drewN_drewN _ _ _⟩ | exact ⟨rfl, _, Eq.trans (World.drewN_drewN _ _ _) (congrArg (World.drewN _) (Nat.add_assoc _ _ _))⟩))); try go_wp2_with (first | (go_at_call 64; (with_reducible refine (spec_l1In.calls a0_7 1 (wrap64 (a0_2 - 1)) false _ A17.out).mono ?_); rintro e w' ⟨rfl, ⟨nd, rfl⟩⟩; (try first | exact ⟨rfl, _, World.drewN_drewN _ _ _⟩ | exact ⟨rfl, _, Eq.trans (World.drewN_drewN _ _ _) (congrArg (World.drewN _) (Nat.add_assoc _ _ _))⟩))))
        go_meet
        case rel => exact ⟨_, (true), (by first | rfl | (simp; done) | (simp [*]; done)), H', ⟨by first | omega | exact Nat.le_refl _⟩, ⟨by (with_reducible repeat (first | refine blk_drewN ?_ _ | refine blk_drew ?_ | refine blk_alloc ?_ _)); exact BK790.out⟩, ⟨by (with_reducible repeat (first | refine blk_drewN ?_ _ | refine blk_drew ?_ | refine blk_alloc ?_ _)); exact BK791.out⟩, ⟨by repeat (first | (with_reducible first | exact HB.out | apply below_alloc | apply pw_below_drewN | apply below_drew1 | refine below_set ?_ GE790.out | refine below_set ?_ GE791.out) | exact HB.out)⟩⟩
    case rest =>
      clear HC10
      try clear c1
      try clear c2
      try clear p2
      try clear c3
      try clear p6
      try clear c7
      try clear c9
      try clear c14
      try clear c18
      try clear c20
      try clear c21
      try clear c24
      try clear c27
      try clear hcz12_0
      try clear hcz12_1
      try clear hcz12_10
      try clear hcz12_11
      try clear hcz12_12
      try clear hcz12_13
      try clear hcz12_2
      try clear hcz12_3
      try clear hcz12_4
      try clear hcz12_5
      try clear hcz12_6
      try clear hcz12_7
      try clear hcz12_8
      try clear hcz12_9
      try clear hcz15_0
      try clear hcz15_1
      try clear hcz15_2
      try clear hcz22_0
      try clear hcz22_1
      try clear hcz22_2
      try clear hcz23_0
      try clear hcz23_1
      try clear hcz23_10
      try clear hcz23_11
      try clear hcz23_12
      try clear hcz23_13
      try clear hcz23_2
      try clear hcz23_3
      try clear hcz23_4
      try clear hcz23_5
      try clear hcz23_6
      try clear hcz23_7
      try clear hcz23_8
      try clear hcz23_9
      try clear hcz25_0
      try clear hcz25_1
      try clear hcz25_2
      try clear hcz26_0
      try clear hcz26_1
      try clear hcz26_10
      try clear hcz26_11
      try clear hcz26_12
      try clear hcz26_13
      try clear hcz26_2
      try clear hcz26_3
      try clear hcz26_4
      try clear hcz26_5
      try clear hcz26_6
      try clear hcz26_7
      try clear hcz26_8
      try clear hcz26_9
      try clear hcz28_0
      try clear hcz28_1
      try clear hcz28_2
      try clear hcz29_0
      try clear hcz29_1
      try clear hcz29_10
      try clear hcz29_11
      try clear hcz29_12
      try clear hcz29_13
      try clear hcz29_2
      try clear hcz29_3
      try clear hcz29_4
      try clear hcz29_5
      try clear hcz29_6
      try clear hcz29_7
      try clear hcz29_8
      try clear hcz29_9
      try clear hcz5_0
      try clear hcz5_1
      try clear hcz5_10
      try clear hcz5_11
      try clear hcz5_12
      try clear hcz5_13
      try clear hcz5_2
      try clear hcz5_3
      try clear hcz5_4
      try clear hcz5_5
      try clear hcz5_6
      try clear hcz5_7
      try clear hcz5_8
      try clear hcz5_9
      try clear hcz8_0
      try clear hcz8_1
      try clear hcz8_2
      try clear hfz12_0
      try clear hfz12_1
      try clear hfz12_10
      try clear hfz12_11
      try clear hfz12_12
      try clear hfz12_13
      try clear hfz12_2
      try clear hfz12_3
      try clear hfz12_4
      try clear hfz12_5
      try clear hfz12_6
      try clear hfz12_7
      try clear hfz12_8
      try clear hfz12_9
      try clear hfz15_0
      try clear hfz15_1
      try clear hfz15_2
      try clear hfz22_0
      try clear hfz22_1
      try clear hfz22_2
      try clear hfz23_0
      try clear hfz23_1
      try clear hfz23_10
      try clear hfz23_11
      try clear hfz23_12
      try clear hfz23_13
      try clear hfz23_2
      try clear hfz23_3
      try clear hfz23_4
      try clear hfz23_5
      try clear hfz23_6
      try clear hfz23_7
      try clear hfz23_8
      try clear hfz23_9
      try clear hfz25_0
      try clear hfz25_1
      try clear hfz25_2
      try clear hfz26_0
      try clear hfz26_1
      try clear hfz26_10
      try clear hfz26_11
      try clear hfz26_12
      try clear hfz26_13
      try clear hfz26_2
      try clear hfz26_3
      try clear hfz26_4
      try clear hfz26_5
      try clear hfz26_6
      try clear hfz26_7
      try clear hfz26_8
      try clear hfz26_9
      try clear hfz28_0
      try clear hfz28_1
      try clear hfz28_2
      try clear hfz29_0
      try clear hfz29_1
      try clear hfz29_10
      try clear hfz29_11
      try clear hfz29_12
      try clear hfz29_13
      try clear hfz29_2
      try clear hfz29_3
      try clear hfz29_4
      try clear hfz29_5
      try clear hfz29_6
      try clear hfz29_7
      try clear hfz29_8
      try clear hfz29_9
      try clear hfz5_0
      try clear hfz5_1
      try clear hfz5_10
      try clear hfz5_11
      try clear hfz5_12
      try clear hfz5_13
      try clear hfz5_2
      try clear hfz5_3
      try clear hfz5_4
      try clear hfz5_5
      try clear hfz5_6
      try clear hfz5_7
      try clear hfz5_8
      try clear hfz5_9
      try clear hfz8_0
      try clear hfz8_1
      try clear hfz8_2
      obtain ⟨kq, x30_9, rfl, HA, HJ9, BK790, BK791, HB⟩ := hcut
      cases kq with
      | zero => exact absurd HA.out (by simp [spec_l9Tc.j0])
      | succ kj9 =>
        have H := HA.out
        clear HA
        simp only [spec_l9Tc.j0] at H
        by_cases c30 : x30_9 = true
        · subst c30
          have H1 : (some false) = some r := by rw [if_pos rfl] at H; exact H
          clear H
          have H := H1
          clear H1
          obtain rfl := Option.some.inj H
          go_wp2
          repeat (go_quiet (fail); try go_wp2)
          go_ret
          exact ⟨by first | rfl | (simp [errW_none, errW_some] <;> rfl) | (simp [*, errW_none, errW_some] <;> rfl), by repeat (first | (with_reducible first | exact HB.out | apply below_alloc | apply pw_below_drewN | apply below_drew1 | refine below_set ?_ GE790.out | refine below_set ?_ GE791.out) | exact HB.out)⟩
        · replace c30 := Bool.eq_false_iff.mpr c30
          subst c30
          have H1 : (spec_l9Tc.l0 kj9 0 a0_7 l0_8 l0_9) = some r := by rw [if_neg (show ¬ (false = true) by decide)] at H; exact H
          clear H
          have H := H1
          clear H1
          have H' := Aside0.mk H
          clear H
          go_wp2
          repeat (go_quiet (fail); try go_wp2)
          go_loopg [4] kj9 (fun kq v4 w' => ∃ (x4_2 : Int), v4 = .int .i64 x4_2 ∧ Aside0 (spec_l9Tc.l0 kq x4_2 a0_7 l0_8 l0_9 = some r) ∧ Aside0 (kq ≤ kj9) ∧ Aside0 (w'.heap[gb790]? = some (.cells #[.int .i64 a0_0, .int .i64 a0_1, .int .i64 a0_2, .string a0_3, .int .i64 a0_4, .int .i64 a0_5, (.slice A0_6 l0_6.length c0_6), .int .i64 a0_7, (.slice A0_8 l0_8.length c0_8), (.slice A0_9 l0_9.length c0_9), (.slice A0_10 l0_10.length c0_10), .bool a0_11, (.slice A0_12 l0_12.length c0_12), .string a0_13] 68 (0, 0))) ∧ Aside0 (w'.heap[gb791]? = some (.cells #[.int .i64 a0_7, (.slice A0_8 l0_8.length c0_8), (.slice A0_9 l0_9.length c0_9)] 36 (0, 0))) ∧ Aside0 (Below w.heap.size w w'))
          case atStart => exact ⟨(0), (by first | rfl | (simp; done) | (simp [*]; done)), H', ⟨Nat.le_refl _⟩, ⟨by (with_reducible repeat (first | refine blk_drewN ?_ _ | refine blk_drew ?_ | refine blk_alloc ?_ _)); exact BK790.out⟩, ⟨by (with_reducible repeat (first | refine blk_drewN ?_ _ | refine blk_drew ?_ | refine blk_alloc ?_ _)); exact BK791.out⟩, ⟨by repeat (first | (with_reducible first | exact HB.out | apply below_alloc | apply pw_below_drewN | apply below_drew1 | refine below_set ?_ GE790.out | refine below_set ?_ GE791.out) | exact HB.out)⟩⟩
          case round =>
            clear H'
            try clear c1
            try clear c2
            try clear p2
            try clear c3
            try clear p6
            try clear c7
            try clear c9
            try clear c14
            try clear c18
            try clear c20
            try clear c21
            try clear c24
            try clear c27
            try clear c30
            try clear hcz12_0
            try clear hcz12_1
            try clear hcz12_10
            try clear hcz12_11
            try clear hcz12_12
            try clear hcz12_13
            try clear hcz12_2
            try clear hcz12_3
            try clear hcz12_4
            try clear hcz12_5
            try clear hcz12_6
            try clear hcz12_7
            try clear hcz12_8
            try clear hcz12_9
            try clear hcz15_0
            try clear hcz15_1
            try clear hcz15_2
            try clear hcz22_0
            try clear hcz22_1
            try clear hcz22_2
            try clear hcz23_0
            try clear hcz23_1
            try clear hcz23_10
            try clear hcz23_11
            try clear hcz23_12
            try clear hcz23_13
            try clear hcz23_2
            try clear hcz23_3
            try clear hcz23_4
            try clear hcz23_5
            try clear hcz23_6
            try clear hcz23_7
            try clear hcz23_8
            try clear hcz23_9
            try clear hcz25_0
            try clear hcz25_1
            try clear hcz25_2
            try clear hcz26_0
            try clear hcz26_1
            try clear hcz26_10
            try clear hcz26_11
            try clear hcz26_12
            try clear hcz26_13
            try clear hcz26_2
            try clear hcz26_3
            try clear hcz26_4
            try clear hcz26_5
            try clear hcz26_6
            try clear hcz26_7
            try clear hcz26_8
            try clear hcz26_9
            try clear hcz28_0
            try clear hcz28_1
            try clear hcz28_2
            try clear hcz29_0
            try clear hcz29_1
            try clear hcz29_10
            try clear hcz29_11
            try clear hcz29_12
            try clear hcz29_13
            try clear hcz29_2
            try clear hcz29_3
            try clear hcz29_4
            try clear hcz29_5
            try clear hcz29_6
            try clear hcz29_7
            try clear hcz29_8
            try clear hcz29_9
            try clear hcz5_0
            try clear hcz5_1
            try clear hcz5_10
            try clear hcz5_11
            try clear hcz5_12
            try clear hcz5_13
            try clear hcz5_2
            try clear hcz5_3
            try clear hcz5_4
            try clear hcz5_5
            try clear hcz5_6
            try clear hcz5_7
            try clear hcz5_8
            try clear hcz5_9
            try clear hcz8_0
            try clear hcz8_1
            try clear hcz8_2
            try clear hfz12_0
            try clear hfz12_1
            try clear hfz12_10
            try clear hfz12_11
            try clear hfz12_12
            try clear hfz12_13
            try clear hfz12_2
            try clear hfz12_3
            try clear hfz12_4
            try clear hfz12_5
            try clear hfz12_6
            try clear hfz12_7
            try clear hfz12_8
            try clear hfz12_9
            try clear hfz15_0
            try clear hfz15_1
            try clear hfz15_2
            try clear hfz22_0
            try clear hfz22_1
            try clear hfz22_2
            try clear hfz23_0
            try clear hfz23_1
            try clear hfz23_10
            try clear hfz23_11
            try clear hfz23_12
            try clear hfz23_13
            try clear hfz23_2
            try clear hfz23_3
            try clear hfz23_4
            try clear hfz23_5
            try clear hfz23_6
            try clear hfz23_7
            try clear hfz23_8
            try clear hfz23_9
            try clear hfz25_0
            try clear hfz25_1
            try clear hfz25_2
            try clear hfz26_0
            try clear hfz26_1
            try clear hfz26_10
            try clear hfz26_11
            try clear hfz26_12
            try clear hfz26_13
            try clear hfz26_2
            try clear hfz26_3
            try clear hfz26_4
            try clear hfz26_5
            try clear hfz26_6
            try clear hfz26_7
            try clear hfz26_8
            try clear hfz26_9
            try clear hfz28_0
            try clear hfz28_1
            try clear hfz28_2
            try clear hfz29_0
            try clear hfz29_1
            try clear hfz29_10
            try clear hfz29_11
            try clear hfz29_12
            try clear hfz29_13
            try clear hfz29_2
            try clear hfz29_3
            try clear hfz29_4
            try clear hfz29_5
            try clear hfz29_6
            try clear hfz29_7
            try clear hfz29_8
            try clear hfz29_9
            try clear hfz5_0
            try clear hfz5_1
            try clear hfz5_10
            try clear hfz5_11
            try clear hfz5_12
            try clear hfz5_13
            try clear hfz5_2
            try clear hfz5_3
            try clear hfz5_4
            try clear hfz5_5
            try clear hfz5_6
            try clear hfz5_7
            try clear hfz5_8
            try clear hfz5_9
            try clear hfz8_0
            try clear hfz8_1
            try clear hfz8_2
            try clear p2
            try clear p6
            obtain ⟨x4_2, rfl, HA, HK2, BK790, BK791, HB⟩ := hrel
            cases gk with
            | zero => exact absurd HA.out (by simp [spec_l9Tc.l0])
            | succ k2 =>
              have H := HA.out
              clear HA
              simp only [spec_l9Tc.l0] at H
              by_cases c31 : x4_2 < (l0_9.length : Int)
              · rw [if_pos c31] at H
                have c31b0 : decide (x4_2 < (l0_9.length : Int)) = true := decide_eq_true c31
                clear c31
                by_cases c32 : 0 ≤ x4_2
                · rw [if_pos c32] at H
                  have c32b0 : decide (0 ≤ x4_2) = true := decide_eq_true c32
                  clear c32
                  replace H := Option.bind_eq_some_iff.mp H
                  obtain ⟨t796, A330, H⟩ := H
                  replace H : (if t796 = true then (spec_l9Tc.l0 k2 (wrap64 (x4_2 + 1)) a0_7 l0_8 l0_9) else (some false)) = some r := H
                  have A33 := Aside0.mk A330
                  clear A330
                  by_cases c34 : t796 = true
                  · subst c34
                    have H1 : (spec_l9Tc.l0 k2 (wrap64 (x4_2 + 1)) a0_7 l0_8 l0_9) = some r := by rw [if_pos rfl] at H; exact H
                    clear H
                    have H := H1
                    clear H1
                    have H' := Aside0.mk H
                    clear H
                    have hnb35 := NB791_790.out
                    have hnc35 := NB790_791.out
                    obtain ⟨hcz36_0, hcz36_1, hcz36_2⟩ := cells3 BK791.out
                    obtain ⟨hfz36_0, hfz36_1, hfz36_2⟩ := frozens3 BK791.out
                    have p795 : 0 ≤ (x4_2 : Int) := of_decide_eq_true (by first | (with_reducible assumption) | assumption)
                    have q795 : x4_2 < (l0_9.length : Int) := of_decide_eq_true (by first | (with_reducible assumption) | assumption)
                    obtain ⟨ad795, e795, hx795_0⟩ := Kd.at_int HR0_9.out x4_2 p795 q795
                    cases e795
                    replace hx795_0 := (HB.out.cell (World.block_lt_of_cell? w _ hx795_0)).trans hx795_0
                    replace p795 := eq_true p795
                    replace q795 := eq_true q795
                    go_wp2_with (first | (go_at_call 64; (with_reducible refine (spec_l1In.calls (rd l0_9 x4_2) 0 (wrap64 (a0_7 - 1)) true _ A33.out).mono ?_); rintro e w' ⟨rfl, ⟨nd, rfl⟩⟩; (try first | exact ⟨rfl, _, World.drewN_drewN _ _ _⟩ | exact ⟨rfl, _, Eq.trans (World.drewN_drewN _ _ _) (congrArg (World.drewN _) (Nat.add_assoc _ _ _))⟩)))
                    repeat (go_quiet (first | (go_at_call 64; (with_reducible refine (spec_l1In.calls (rd l0_9 x4_2) 0 (wrap64 (a0_7 - 1)) true _ A33.out).mono ?_); rintro e w' ⟨rfl, ⟨nd, rfl⟩⟩; (try first | exact ⟨rfl, _, World.drewN_drewN _ _ _⟩ | exact ⟨rfl, _, Eq.trans (World.drewN_drewN _ _ _) (congrArg (World.drewN _) (Nat.add_assoc _ _ _))⟩))); try go_wp2_with (first | (go_at_call 64; (with_reducible refine (spec_l1In.calls (rd l0_9 x4_2) 0 (wrap64 (a0_7 - 1)) true _ A33.out).mono ?_); rintro e w' ⟨rfl, ⟨nd, rfl⟩⟩; (try first | exact ⟨rfl, _, World.drewN_drewN _ _ _⟩ | exact ⟨rfl, _, Eq.trans (World.drewN_drewN _ _ _) (congrArg (World.drewN _) (Nat.add_assoc _ _ _))⟩))))
                    go_roundg k2
                    case measure => have := HJ9.out; have := HK2.out; omega
                    case rel => exact ⟨(wrap64 (x4_2 + 1)), (by first | rfl | (simp; done) | (simp [*]; done)), H', ⟨by have := HJ9.out; have := HK2.out; omega⟩, ⟨by (with_reducible repeat (first | refine blk_drewN ?_ _ | refine blk_drew ?_ | refine blk_alloc ?_ _)); exact BK790.out⟩, ⟨by (with_reducible repeat (first | refine blk_drewN ?_ _ | refine blk_drew ?_ | refine blk_alloc ?_ _)); exact BK791.out⟩, ⟨by repeat (first | (with_reducible first | exact HB.out | apply below_alloc | apply pw_below_drewN | apply below_drew1 | refine below_set ?_ GE790.out | refine below_set ?_ GE791.out) | exact HB.out)⟩⟩
                  · replace c34 := Bool.eq_false_iff.mpr c34
                    subst c34
                    have H1 : (some false) = some r := by rw [if_neg (show ¬ (false = true) by decide)] at H; exact H
                    clear H
                    have H := H1
                    clear H1
                    obtain rfl := Option.some.inj H
                    have hnb37 := NB791_790.out
                    have hnc37 := NB790_791.out
                    obtain ⟨hcz38_0, hcz38_1, hcz38_2⟩ := cells3 BK791.out
                    obtain ⟨hfz38_0, hfz38_1, hfz38_2⟩ := frozens3 BK791.out
                    have p795 : 0 ≤ (x4_2 : Int) := of_decide_eq_true (by first | (with_reducible assumption) | assumption)
                    have q795 : x4_2 < (l0_9.length : Int) := of_decide_eq_true (by first | (with_reducible assumption) | assumption)
                    obtain ⟨ad795, e795, hx795_0⟩ := Kd.at_int HR0_9.out x4_2 p795 q795
                    cases e795
                    replace hx795_0 := (HB.out.cell (World.block_lt_of_cell? w _ hx795_0)).trans hx795_0
                    replace p795 := eq_true p795
                    replace q795 := eq_true q795
                    go_wp2_with (first | (go_at_call 64; (with_reducible refine (spec_l1In.calls (rd l0_9 x4_2) 0 (wrap64 (a0_7 - 1)) false _ A33.out).mono ?_); rintro e w' ⟨rfl, ⟨nd, rfl⟩⟩; (try first | exact ⟨rfl, _, World.drewN_drewN _ _ _⟩ | exact ⟨rfl, _, Eq.trans (World.drewN_drewN _ _ _) (congrArg (World.drewN _) (Nat.add_assoc _ _ _))⟩)))
                    repeat (go_quiet (first | (go_at_call 64; (with_reducible refine (spec_l1In.calls (rd l0_9 x4_2) 0 (wrap64 (a0_7 - 1)) false _ A33.out).mono ?_); rintro e w' ⟨rfl, ⟨nd, rfl⟩⟩; (try first | exact ⟨rfl, _, World.drewN_drewN _ _ _⟩ | exact ⟨rfl, _, Eq.trans (World.drewN_drewN _ _ _) (congrArg (World.drewN _) (Nat.add_assoc _ _ _))⟩))); try go_wp2_with (first | (go_at_call 64; (with_reducible refine (spec_l1In.calls (rd l0_9 x4_2) 0 (wrap64 (a0_7 - 1)) false _ A33.out).mono ?_); rintro e w' ⟨rfl, ⟨nd, rfl⟩⟩; (try first | exact ⟨rfl, _, World.drewN_drewN _ _ _⟩ | exact ⟨rfl, _, Eq.trans (World.drewN_drewN _ _ _) (congrArg (World.drewN _) (Nat.add_assoc _ _ _))⟩))))
                    go_ret
                    exact ⟨by first | rfl | (simp [errW_none, errW_some] <;> rfl) | (simp [*, errW_none, errW_some] <;> rfl), by repeat (first | (with_reducible first | exact HB.out | apply below_alloc | apply pw_below_drewN | apply below_drew1 | refine below_set ?_ GE790.out | refine below_set ?_ GE791.out) | exact HB.out)⟩
                · rw [if_neg c32] at H
                  exact absurd H (by simp)
              · rw [if_neg c31] at H
                have c31b0 : decide (x4_2 < (l0_9.length : Int)) = false := decide_eq_false c31
                clear c31
                obtain rfl := Option.some.inj H
                have hnb39 := NB791_790.out
                have hnc39 := NB790_791.out
                obtain ⟨hcz40_0, hcz40_1, hcz40_2⟩ := cells3 BK791.out
                obtain ⟨hfz40_0, hfz40_1, hfz40_2⟩ := frozens3 BK791.out
                go_wp2
                repeat (go_quiet (fail); try go_wp2)
                go_ret
                exact ⟨by first | rfl | (simp [errW_none, errW_some] <;> rfl) | (simp [*, errW_none, errW_some] <;> rfl), by repeat (first | (with_reducible first | exact HB.out | apply below_alloc | apply pw_below_drewN | apply below_drew1 | refine below_set ?_ GE790.out | refine below_set ?_ GE791.out) | exact HB.out)⟩

theorem spec_l9Tc.is {b : S68} (hn : b.f5.f1.length ≤ maxLen) (hw : ∀ s ∈ b.f5.f1, s.size ≤ maxLen) (hh : b.f5.f2.length ≤ maxLen) : Ev (fun k => spec_l9Tc.f k b.f0 b.f1 b.f2 b.f3 b.f4.f0 b.f4.f1 b.f4.f2 b.f5.f0 b.f5.f1 b.f5.f2 b.f6 b.f7 b.f8 b.f9) (tcForm b.f5.f0 b.f5.f1 b.f5.f2 (wrap64 (b.f2 - 1))) := by
  have hm : maxLen = 9223372036854775807 := rfl
  have no : Ev (fun k => spec_l9Tc.j0 k true b.f5.f0 b.f5.f1 b.f5.f2) false := Ev.up (by simp only [spec_l9Tc.j0]; exact Ev.yes trivial (Ev.now _))
  unfold spec_l9Tc.f tcForm
  simp only [spec_l8None.is, spec_l1In.is, Option.bind_some]
  refine Ev.cond (fun h => Ev.is (by rw [h]; rfl)) (fun h => ?_)
  rw [Bool.eq_false_iff.2 h, Bool.false_or]
  refine Ev.cond (fun h1 => ?_) (fun h1 => Ev.to no (by rw [Bool.eq_false_iff.2 h1]; simp))
  rw [h1]
  refine Ev.bind (spec_NamesOk.is hn hw) (Ev.cond (fun h2 => ?_) (fun h2 => Ev.to no (by rw [Bool.eq_false_iff.2 h2]; simp)))
  rw [h2]
  by_cases he : (b.f5.f2.length : Int) = (b.f5.f1.length : Int)
  · rw [bne_eq_false_iff_eq.2 he, beq_iff_eq.2 he]
    refine Ev.up ?_
    simp only [spec_l9Tc.j0]
    refine Ev.no (by simp) ?_
    refine Ev.to (ev_all (tail := true) (p := fun i => inR (b.f5.f2.getD i 0) 0 (wrap64 (b.f5.f0 - 1))) (n := b.f5.f2.length) (fun k i => spec_l9Tc.l0 k i b.f5.f0 b.f5.f1 b.f5.f2) ?_ (fun i hi r' ih => ?_)) (by simp [highsOk])
    · simp only [spec_l9Tc.l0]
      exact Ev.no (by omega) (Ev.now _)
    · have hrd : rd b.f5.f2 (i : Int) = b.f5.f2.getD i 0 := rfl
      simp only [spec_l9Tc.l0, spec_l1In.is, Option.bind_some, hrd]
      refine Ev.yes (by omega) (Ev.yes (by omega) ?_)
      rw [unw (x := (i : Int) + 1) (by omega) (by omega)]
      cases inR (b.f5.f2.getD i 0) 0 (wrap64 (b.f5.f0 - 1))
      · exact Ev.no (by simp) (Ev.now _)
      · exact Ev.yes rfl (Ev.to ih (by simp))
  · rw [bne_iff_ne.2 he, beq_eq_false_iff_ne.2 he]
    exact Ev.to no (by simp)
theorem spec_l9Tc.does {b : S68} (hn : b.f5.f1.length ≤ maxLen) (hw : ∀ s ∈ b.f5.f1, s.size ≤ maxLen) (hh : b.f5.f2.length ≤ maxLen) {cs : List Value} {w : World} (hK : k68.K w b cs) : Calls Try.prog 96 #[.agg cs.toArray] w fun e w' => e = .returned (.bool (tcForm b.f5.f0 b.f5.f1 b.f5.f2 (wrap64 (b.f2 - 1)))) ∧ Below w.heap.size w w' := by
  obtain ⟨A6, c6, A8, c8, A9, c9, A10, c10, A12, c12, rfl, l6, g6, l8, g8, l9, g9, l10, g10, l12, g12⟩ := k68_open hK
  obtain ⟨k, h⟩ := (spec_l9Tc.is hn hw hh).rounds
  exact (spec_l9Tc.calls (hr0_6 := g6) (hc0_6 := l6) (hr0_8 := g8) (hc0_8 := l8) (hr0_9 := g9) (hc0_9 := l9) (hr0_10 := g10) (hc0_10 := l10) (hr0_12 := g12) (hc0_12 := l12) (h := h)).mono fun _ _ ⟨a, b⟩ => ⟨a, b⟩

/-! ### spec_BlockOk: walked in this session -/
set_option maxHeartbeats 2000000 in
set_option maxRecDepth 100000 in
theorem spec_BlockOk.does {b : S68} (hf : blockFit b) {cs : List Value} {w : World} (hK : k68.K w b cs) : Calls Try.prog 53 #[.agg cs.toArray] w fun e w' => e = .returned (.bool (blockOk b)) ∧ Below w.heap.size w w' := by
  obtain ⟨hby, ⟨hq, hqs⟩, ⟨ht, hts⟩, hh, ⟨hx, hxs⟩, hv, hvs⟩ := hf
  have hK' := hK
  obtain ⟨A6, u6, A8, u8, A9, u9, A10, u10, A12, u12, rfl, l6, g6, l8, g8, l9, g9, l10, g10, l12, g12⟩ := k68_open hK
  have NB := fun e : On (w.alloc (.cells #[.int .i64 b.f0, .int .i64 b.f1, .int .i64 b.f2, .string b.f3, .int .i64 b.f4.f0, .int .i64 b.f4.f1, .slice A6 b.f4.f2.length u6, .int .i64 b.f5.f0, .slice A8 b.f5.f1.length u8, .slice A9 b.f5.f2.length u9, .slice A10 b.f6.length u10, .bool b.f7, .slice A12 b.f8.length u12, .string b.f9] 68)) => cells14 (On.blk e)
  have N0 := fun e => (NB e).1
  have N1 := fun e => (NB e).2.1
  have N2 := fun e => (NB e).2.2.1
  have N3 := fun e => (NB e).2.2.2.1
  have N4 := fun e => (NB e).2.2.2.2.1
  have N5 := fun e => (NB e).2.2.2.2.2.1
  have N6 := fun e => (NB e).2.2.2.2.2.2.1
  have N7 := fun e => (NB e).2.2.2.2.2.2.2.1
  have N8 := fun e => (NB e).2.2.2.2.2.2.2.2.1
  have N9 := fun e => (NB e).2.2.2.2.2.2.2.2.2.1
  have N10 := fun e => (NB e).2.2.2.2.2.2.2.2.2.2.1
  have N11 := fun e => (NB e).2.2.2.2.2.2.2.2.2.2.2.1
  have N12 := fun e => (NB e).2.2.2.2.2.2.2.2.2.2.2.2.1
  have N13 := fun e => (NB e).2.2.2.2.2.2.2.2.2.2.2.2.2
  clear NB
  have E1 := Aside0.mk (fun W => spec_l1In.does b.f0 0 100000 W)
  have E2 := Aside0.mk (fun W => spec_l1In.does b.f1 0 900 W)
  have E3 := Aside0.mk (fun W => spec_l1In.does b.f2 1 10000 W)
  have E4 := Aside0.mk (fun W => spec_NameOk.does hby W)
  have E5 := Aside0.mk (fun e : On (w.alloc (.cells #[.int .i64 b.f0, .int .i64 b.f1, .int .i64 b.f2, .string b.f3, .int .i64 b.f4.f0, .int .i64 b.f4.f1, .slice A6 b.f4.f2.length u6, .int .i64 b.f5.f0, .slice A8 b.f5.f1.length u8, .slice A9 b.f5.f2.length u9, .slice A10 b.f6.length u10, .bool b.f7, .slice A12 b.f8.length u12, .string b.f9] 68)) => spec_l9Qc.does hq hqs (On.val hK' e.boxed))
  have E6 := Aside0.mk (fun e : On (w.alloc (.cells #[.int .i64 b.f0, .int .i64 b.f1, .int .i64 b.f2, .string b.f3, .int .i64 b.f4.f0, .int .i64 b.f4.f1, .slice A6 b.f4.f2.length u6, .int .i64 b.f5.f0, .slice A8 b.f5.f1.length u8, .slice A9 b.f5.f2.length u9, .slice A10 b.f6.length u10, .bool b.f7, .slice A12 b.f8.length u12, .string b.f9] 68)) => spec_l9Tc.does ht hts hh (On.val hK' e.boxed))
  have E9 := Aside0.mk (fun e : On (w.alloc (.cells #[.int .i64 b.f0, .int .i64 b.f1, .int .i64 b.f2, .string b.f3, .int .i64 b.f4.f0, .int .i64 b.f4.f1, .slice A6 b.f4.f2.length u6, .int .i64 b.f5.f0, .slice A8 b.f5.f1.length u8, .slice A9 b.f5.f2.length u9, .slice A10 b.f6.length u10, .bool b.f7, .slice A12 b.f8.length u12, .string b.f9] 68)) => spec_SetOk.does hv hvs (On.row g12 e.boxed) l12)
  simp only [On.boxed_now] at E5 E6 E9
  have hat : blockOk b = (inR b.f0 0 100000 && (inR b.f1 0 900 && (inR b.f2 1 10000 && (nameOk b.f3 && (qcForm b.f4.f0 b.f4.f1 b.f4.f2 (wrap64 (b.f2 - 1)) (wrap64 (b.f0 - 1)) && (tcForm b.f5.f0 b.f5.f1 b.f5.f2 (wrap64 (b.f2 - 1)) && (!decide ((b.f6.length : Int) > 4) && (allUpto b.f6.length (fun i => txOk (rd_T106 b.f6 (i : Int))) && (if b.f7 = true then (setOk b.f8 && ((b.f9.size : Int) == 32)) else (decide ((b.f8.length : Int) = 0) && (b.f9.toList == ([] : List UInt8)))))))))))) := rfl
  have hn : (b.f6.length : Int) ≤ 9223372036854775807 := by have : maxLen = 9223372036854775807 := rfl; omega
  have HR := Aside0.mk g10
  have HX := Aside0.mk hxs
  clear hby hq hqs ht hts hh hx hxs hv hvs hK hK' l6 g6 l8 g8 l9 g9 l10 g10 l12 g12
  generalize inR b.f0 0 100000 = b1 at *
  generalize inR b.f1 0 900 = b2 at *
  generalize inR b.f2 1 10000 = b3 at *
  generalize nameOk b.f3 = b4 at *
  generalize qcForm b.f4.f0 b.f4.f1 b.f4.f2 (wrap64 (b.f2 - 1)) (wrap64 (b.f0 - 1)) = b5 at *
  generalize tcForm b.f5.f0 b.f5.f1 b.f5.f2 (wrap64 (b.f2 - 1)) = b6 at *
  generalize b.f7 = vE at *
  generalize b.f8 = s8 at *
  cases b1
  · skip
    clear HR HX
    go_enter Try.func53, Try.ntmps53
    go_wp2_with fail
    refine BW.callD (e := On.hereOf N0) (E1.out _) (fun e1 => ?_)
    go_wp2
    go_ret
    exact ⟨by first | (rw [hat]; rfl) | rfl, e1.boxed.ok⟩
  · skip
    cases b2
    · skip
      clear HR HX
      go_enter Try.func53, Try.ntmps53
      go_wp2_with fail
      refine BW.callD (e := On.hereOf N0) (E1.out _) (fun e1 => ?_)
      go_wp2_with fail
      refine BW.callD (E2.out _) (fun e2 => ?_)
      go_wp2
      go_ret
      exact ⟨by first | (rw [hat]; rfl) | rfl, e2.boxed.ok⟩
    · skip
      cases b3
      · skip
        clear HR HX
        go_enter Try.func53, Try.ntmps53
        go_wp2_with fail
        refine BW.callD (e := On.hereOf N0) (E1.out _) (fun e1 => ?_)
        go_wp2_with fail
        refine BW.callD (E2.out _) (fun e2 => ?_)
        go_wp2_with fail
        refine BW.callD (E3.out _) (fun e3 => ?_)
        go_wp2
        go_ret
        exact ⟨by first | (rw [hat]; rfl) | rfl, e3.boxed.ok⟩
      · skip
        cases b4
        · skip
          clear HR HX
          go_enter Try.func53, Try.ntmps53
          go_wp2_with fail
          refine BW.callD (e := On.hereOf N0) (E1.out _) (fun e1 => ?_)
          go_wp2_with fail
          refine BW.callD (E2.out _) (fun e2 => ?_)
          go_wp2_with fail
          refine BW.callD (E3.out _) (fun e3 => ?_)
          go_wp2_with fail
          refine BW.callD (E4.out _) (fun e4 => ?_)
          go_wp2
          go_ret
          exact ⟨by first | (rw [hat]; rfl) | rfl, e4.boxed.ok⟩
        · skip
          cases b5
          · skip
            clear HR HX
            go_enter Try.func53, Try.ntmps53
            go_wp2_with fail
            refine BW.callD (e := On.hereOf N0) (E1.out _) (fun e1 => ?_)
            go_wp2_with fail
            refine BW.callD (E2.out _) (fun e2 => ?_)
            go_wp2_with fail
            refine BW.callD (E3.out _) (fun e3 => ?_)
            go_wp2_with fail
            refine BW.callD (E4.out _) (fun e4 => ?_)
            go_wp2_with fail
            refine BW.call (E5.out _) (fun e5 => ?_)
            go_wp2
            go_ret
            exact ⟨by first | (rw [hat]; rfl) | rfl, e5.boxed.ok⟩
          · skip
            cases b6
            · skip
              clear HR HX
              go_enter Try.func53, Try.ntmps53
              go_wp2_with fail
              refine BW.callD (e := On.hereOf N0) (E1.out _) (fun e1 => ?_)
              go_wp2_with fail
              refine BW.callD (E2.out _) (fun e2 => ?_)
              go_wp2_with fail
              refine BW.callD (E3.out _) (fun e3 => ?_)
              go_wp2_with fail
              refine BW.callD (E4.out _) (fun e4 => ?_)
              go_wp2_with fail
              refine BW.call (E5.out _) (fun e5 => ?_)
              go_wp2_with fail
              refine BW.call (E6.out _) (fun e6 => ?_)
              go_wp2
              go_ret
              exact ⟨by first | (rw [hat]; rfl) | rfl, e6.boxed.ok⟩
            · skip
              by_cases c7 : (b.f6.length : Int) > 4
              · skip
                have c7' : decide ((b.f6.length : Int) > 4) = true := decide_eq_true c7
                rw [c7'] at hat
                go_enter Try.func53, Try.ntmps53
                go_wp2_with fail
                refine BW.callD (e := On.hereOf N0) (E1.out _) (fun e1 => ?_)
                go_wp2_with fail
                refine BW.callD (E2.out _) (fun e2 => ?_)
                go_wp2_with fail
                refine BW.callD (E3.out _) (fun e3 => ?_)
                go_wp2_with fail
                refine BW.callD (E4.out _) (fun e4 => ?_)
                go_wp2_with fail
                refine BW.call (E5.out _) (fun e5 => ?_)
                go_wp2_with fail
                refine BW.call (E6.out _) (fun e6 => ?_)
                go_wp2
                go_ret
                exact ⟨by first | (rw [hat]; rfl) | rfl, e6.boxed.ok⟩
              · skip
                have c7' : decide ((b.f6.length : Int) > 4) = false := decide_eq_false c7
                rw [c7'] at hat
                simp only [Bool.not_false, Bool.true_and] at hat
                go_enter Try.func53, Try.ntmps53
                go_wp2_with fail
                refine BW.callD (e := On.hereOf N0) (E1.out _) (fun e1 => ?_)
                go_wp2_with fail
                refine BW.callD (E2.out _) (fun e2 => ?_)
                go_wp2_with fail
                refine BW.callD (E3.out _) (fun e3 => ?_)
                go_wp2_with fail
                refine BW.callD (E4.out _) (fun e4 => ?_)
                go_wp2_with fail
                refine BW.call (E5.out _) (fun e5 => ?_)
                go_wp2_with fail
                refine BW.call (E6.out _) (fun e6 => ?_)
                go_wp2
                go_loopg [3] b.f6.length (fun g v3 w' => ∃ (i : Int) (e : On (w.alloc (.cells #[.int .i64 b.f0, .int .i64 b.f1, .int .i64 b.f2, .string b.f3, .int .i64 b.f4.f0, .int .i64 b.f4.f1, .slice A6 b.f4.f2.length u6, .int .i64 b.f5.f0, .slice A8 b.f5.f1.length u8, .slice A9 b.f5.f2.length u9, .slice A10 b.f6.length u10, .bool vE, .slice A12 s8.length u12, .string b.f9] 68))), v3 = .int .i64 i ∧ w' = e.now ∧ 0 ≤ i ∧ i ≤ b.f6.length ∧ Aside0 ((b.f6.length : Int) - i ≤ g) ∧ Aside0 (∀ j, j < i.toNat → txOk (rd_T106 b.f6 (j : Int)) = true))
                case atStart => exact ⟨0, e6, rfl, rfl, Int.le_refl _, by omega, ⟨by omega⟩, ⟨fun j hj => absurd hj (by simp)⟩⟩
                case round =>
                  obtain ⟨i, e, rfl, rfl, hi0, hi1, HG, HA⟩ := hrel
                  by_cases c1 : i < (b.f6.length : Int)
                  · obtain ⟨ad, q1, r0, r1, r2, r3, r4⟩ := at_T106 HR.out i hi0 c1
                    subst q1
                    have R0 := On.cellBox N0 r0
                    have R1 := On.cellBox N0 r1
                    have R2 := On.cellBox N0 r2
                    have R3 := On.cellBox N0 r3
                    have R4 := On.cellBox N0 r4
                    clear r0 r1 r2 r3 r4
                    have hm := HX.out (rd_T106 b.f6 i) (getD_mem (by omega) _)
                    have F1 := Aside0.mk (fun W => spec_TxOk.does (t := rd_T106 b.f6 i) hm.1 hm.2 W)
                    clear hm
                    cases ht : txOk (rd_T106 b.f6 i)
                    · rw [ht] at F1
                      have HF := Aside0.mk (hat.trans (by rw [allUpto_no (p := fun i => txOk (rd_T106 b.f6 (i : Int))) (by omega : i.toNat < b.f6.length) (by show txOk (rd_T106 b.f6 (i.toNat : Int)) = false; rw [Int.toNat_of_nonneg hi0]; exact ht)]; rfl : _ = false))
                      clear ht hat
                      go_wp2_with fail
                      refine BW.call (F1.out _) (fun e2 => ?_)
                      go_wp2
                      go_ret
                      exact ⟨by first | (rw [HF.out]; rfl) | rfl, e2.boxed.ok⟩
                    · rw [ht] at F1
                      have HT := Aside0.mk ht
                      clear ht
                      go_wp2_with fail
                      refine BW.call (F1.out _) (fun e2 => ?_)
                      go_wp2
                      go_roundg (b.f6.length - i.toNat - 1)
                      case measure => have := HG.out; omega
                      case rel => exact ⟨i + 1, e2, rfl, rfl, by omega, by omega, ⟨by omega⟩, ⟨upto_next hi0 HA.out (by rw [Int.toNat_of_nonneg hi0]; exact HT.out)⟩⟩
                  · skip
                    rw [allUpto_yes (p := fun i => txOk (rd_T106 b.f6 (i : Int))) (fun j hj => HA.out j (by omega)), Bool.true_and] at hat
                    clear HA HG HX HR
                    cases vE
                    case true =>
                      rw [if_pos rfl] at hat
                      generalize setOk s8 = b9 at *
                      cases b9
                      · skip
                        go_wp2_with fail
                        refine BW.call (E9.out _) (fun e9 => ?_)
                        go_wp2
                        go_ret
                        exact ⟨by first | (rw [hat]; rfl) | rfl, e9.boxed.ok⟩
                      · by_cases c9 : (b.f9.size : Int) = 32
                        · skip
                          have c9' : decide ((b.f9.size : Int) = 32) = true := decide_eq_true c9
                          have c9'' : ((b.f9.size : Int) == 32) = true := c9'
                          rw [c9''] at hat
                          clear c9
                          go_wp2_with fail
                          refine BW.call (E9.out _) (fun e9 => ?_)
                          go_wp2
                          go_ret
                          exact ⟨by first | (rw [hat]; rfl) | rfl, e9.boxed.ok⟩
                        · skip
                          have c9' : decide ((b.f9.size : Int) = 32) = false := decide_eq_false c9
                          have c9'' : ((b.f9.size : Int) == 32) = false := c9'
                          rw [c9''] at hat
                          clear c9
                          go_wp2_with fail
                          refine BW.call (E9.out _) (fun e9 => ?_)
                          go_wp2
                          go_ret
                          exact ⟨by first | (rw [hat]; rfl) | rfl, e9.boxed.ok⟩
                    case false =>
                      rw [if_neg (by decide)] at hat
                      by_cases c9 : (s8.length : Int) = 0
                      · skip
                        have c9' : decide ((s8.length : Int) = 0) = true := decide_eq_true c9
                        rw [c9'] at hat
                        obtain rfl : s8 = [] := List.length_eq_zero_iff.1 (by omega)
                        by_cases c8 : b.f9.toList = []
                        · skip
                          have c8' : (b.f9.toList == ([] : List UInt8)) = true := by rw [c8]; rfl
                          rw [c8'] at hat
                          clear c9
                          go_wp2
                          go_ret
                          exact ⟨by first | (rw [hat]; rfl) | rfl, e.boxed.ok⟩
                        · skip
                          have c8' : (b.f9.toList == ([] : List UInt8)) = false := by simp [c8]
                          rw [c8'] at hat
                          clear c9
                          go_wp2
                          go_ret
                          exact ⟨by first | (rw [hat]; rfl) | rfl, e.boxed.ok⟩
                      · skip
                        have c9' : decide ((s8.length : Int) = 0) = false := decide_eq_false c9
                        rw [c9'] at hat
                        have c9e : ¬ s8 = [] := fun h => c9 (by rw [h]; rfl)
                        clear c9
                        go_wp2
                        go_ret
                        exact ⟨by first | (rw [hat]; rfl) | rfl, e.boxed.ok⟩

/-! ### impl_txsOk: function 97 -/
def impl_txsOk.l0 : Nat → List (S106) → Int → Int → Option (Bool)
  | 0, _, _, _ => none
  | k + 1, x5, x6, x7 => if x7 < x6 then (if 0 ≤ x7 then (if x7 < (x5.length : Int) then ((impl_TxOk.f k ((rd_T106 x5 x7).f0) ((rd_T106 x5 x7).f1) ((rd_T106 x5 x7).f2) ((rd_T106 x5 x7).f3) ((rd_T106 x5 x7).f4)).bind fun t809 => (if t809 = true then (impl_txsOk.l0 k x5 x6 (wrap64 (x7 + 1))) else (some false))) else (none)) else (none)) else (some true)
def impl_txsOk.f (k : Nat) (l0 : List (S106)) : Option (Bool) := impl_txsOk.l0 k l0 (l0.length : Int) 0
theorem impl_txsOk.mono_l : ∀ k, (∀ y0 y1 y2, LeO (impl_txsOk.l0 k y0 y1 y2) (impl_txsOk.l0 (k + 1) y0 y1 y2))
  | 0 => fun _ _ _ r h => by simp [impl_txsOk.l0] at h
  | k + 1 => by
    have ih0 := impl_txsOk.mono_l k
    · intro y0 y1 y2
      unfold impl_txsOk.l0
      repeat' first
      | (with_reducible exact ih0 _ _ _)
      | (with_reducible exact impl_TxOk.mono _ _ _ _ _ _)
      | (with_reducible exact LeO.refl _)
      | (with_reducible exact LeO.none _)
      | (with_reducible refine LeO.ite ?_ ?_)
      | (with_reducible refine LeO.bind ?_ (fun _ => ?_))
      | exact ih0 _ _ _
      | exact impl_TxOk.mono _ _ _ _ _ _
      | exact LeO.none _
      | refine LeO.ite ?_ ?_
      | refine LeO.bind ?_ (fun _ => ?_)
theorem impl_txsOk.mono : ∀ a0 k, LeO (impl_txsOk.f k a0) (impl_txsOk.f (k + 1) a0) := by
  intro a0 k
  have ih0 := impl_txsOk.mono_l k
  unfold impl_txsOk.f
  repeat' first
      | (with_reducible exact ih0 _ _ _)
      | (with_reducible exact impl_TxOk.mono _ _ _ _ _ _)
      | (with_reducible exact LeO.refl _)
      | (with_reducible exact LeO.none _)
      | (with_reducible refine LeO.ite ?_ ?_)
      | (with_reducible refine LeO.bind ?_ (fun _ => ?_))
      | exact ih0 _ _ _
      | exact impl_TxOk.mono _ _ _ _ _ _
      | exact LeO.none _
      | refine LeO.ite ?_ ?_
      | refine LeO.bind ?_ (fun _ => ?_)
set_option maxHeartbeats 8000000 in
set_option maxRecDepth 100000 in
theorem impl_txsOk.calls (k : Nat) (A0 : Option Addr) (c0 : Nat) (l0 : List (S106)) (r : Bool) (w : World) (hr0 : Kd.C k106 w A0 l0.length l0) (hc0 : l0.length ≤ c0) (h : impl_txsOk.f k l0 = some r) :
    Calls Try.prog 97 #[.slice A0 l0.length c0] w fun e w' => e = .returned (.bool r) ∧ Below w.heap.size w w' := by
  have hu106 := Try.underlying106
  have HR0 := Aside0.mk hr0
  have HC0 := Aside0.mk hc0
  clear hr0 hc0
  have HB := Aside0.mk (Below.refl w.heap.size w)
  have H : (impl_txsOk.l0 k l0 (l0.length : Int) 0) = some r := h
  clear h
  have H' := Aside0.mk H
  clear H
  go_enter Try.func97, Try.ntmps97
  go_wp2
  go_loopg [7] k (fun kq v7 w' => ∃ (x7_1 : Int), v7 = .int .i64 x7_1 ∧ Aside0 (impl_txsOk.l0 kq l0 (l0.length : Int) x7_1 = some r) ∧ Aside0 (kq ≤ k) ∧ Aside0 (Below w.heap.size w w'))
  case atStart => exact ⟨(0), (by first | rfl | (simp; done) | (simp [*]; done)), H', ⟨Nat.le_refl _⟩, ⟨by repeat (first | (with_reducible first | exact HB.out | apply below_alloc | apply pw_below_drewN | apply below_drew1) | exact HB.out)⟩⟩
  case round =>
    clear H'
    obtain ⟨x7_1, rfl, HA, HK1, HB⟩ := hrel
    cases gk with
    | zero => exact absurd HA.out (by simp [impl_txsOk.l0])
    | succ k1 =>
      have H := HA.out
      clear HA
      simp only [impl_txsOk.l0] at H
      by_cases c2 : x7_1 < (l0.length : Int)
      · rw [if_pos c2] at H
        have c2b0 : decide (x7_1 < (l0.length : Int)) = true := decide_eq_true c2
        clear c2
        by_cases c3 : 0 ≤ x7_1
        · rw [if_pos c3] at H
          have c3b0 : decide (0 ≤ x7_1) = true := decide_eq_true c3
          clear c3
          by_cases c4 : x7_1 < (l0.length : Int)
          · rw [if_pos c4] at H
            have c4b0 : decide (x7_1 < (l0.length : Int)) = true := decide_eq_true c4
            clear c4
            replace H := Option.bind_eq_some_iff.mp H
            obtain ⟨t809, A50, H⟩ := H
            replace H : (if t809 = true then (impl_txsOk.l0 k1 l0 (l0.length : Int) (wrap64 (x7_1 + 1))) else (some false)) = some r := H
            have A5 := Aside0.mk A50
            clear A50
            by_cases c6 : t809 = true
            · subst c6
              have H1 : (impl_txsOk.l0 k1 l0 (l0.length : Int) (wrap64 (x7_1 + 1))) = some r := by rw [if_pos rfl] at H; exact H
              clear H
              have H := H1
              clear H1
              have H' := Aside0.mk H
              clear H
              have p807 : 0 ≤ (x7_1 : Int) := of_decide_eq_true (by first | (with_reducible assumption) | assumption)
              have q807 : x7_1 < (l0.length : Int) := of_decide_eq_true (by first | (with_reducible assumption) | assumption)
              obtain ⟨ad807, e807, hx807_0, hx807_1, hx807_2, hx807_3, hx807_4⟩ := at_T106 HR0.out x7_1 p807 q807
              cases e807
              replace hx807_0 := (HB.out.cell (World.block_lt_of_cell? w _ hx807_0)).trans hx807_0
              replace hx807_1 := (HB.out.cell (World.block_lt_of_cell? w _ hx807_1)).trans hx807_1
              replace hx807_2 := (HB.out.cell (World.block_lt_of_cell? w _ hx807_2)).trans hx807_2
              replace hx807_3 := (HB.out.cell (World.block_lt_of_cell? w _ hx807_3)).trans hx807_3
              replace hx807_4 := (HB.out.cell (World.block_lt_of_cell? w _ hx807_4)).trans hx807_4
              replace p807 := eq_true p807
              replace q807 := eq_true q807
              go_wp2_with (first | ((with_reducible refine gate_dst (N := 4) rfl ?_); refine box_event ?hg (N := 4) ?hd (cs := #[.int .i64 0, .string (⟨#[]⟩ : ByteArray), .string (⟨#[]⟩ : ByteArray), .int .i64 0, .int .i64 0]) (t := 106) ?hr ?_; (case hd => rfl); (case hg => rfl); (case hr => first | (go_simp; done) | (go_simp; rfl)); intro gb808 hg w7 hbox hb; have n0_ := Aside0.mk (below_step (by repeat (first | (with_reducible first | exact HB.out | apply below_alloc | apply pw_below_drewN | apply below_drew1) | exact HB.out)) hb); have n1_ := Aside0.mk (hbox); have n2_ := Aside0.mk ((by rw [hg]; exact (below_size (by repeat (first | (with_reducible first | exact HB.out | apply below_alloc | apply pw_below_drewN | apply below_drew1) | exact HB.out))) : w.heap.size ≤ gb808)); have n3_ := n2_; clear HB; have HB := n0_; have BK808 := n1_; have GW808 := n2_; have GE808 := n3_; clear n0_ n1_ n2_ n3_; clear hb hbox hg; obtain ⟨hcz8_0, hcz8_1, hcz8_2, hcz8_3, hcz8_4⟩ := cells5 BK808.out; obtain ⟨hfz8_0, hfz8_1, hfz8_2, hfz8_3, hfz8_4⟩ := frozens5 BK808.out) | ((with_reducible refine gate_callee (f := 76) rfl ?_); refine goesL_ (some 12) rfl rfl Try.func76 (by kernel_rfl) rfl #[.agg #[.int .i64 ((rd_T106 l0 x7_1).f0), .string ((rd_T106 l0 x7_1).f1), .string ((rd_T106 l0 x7_1).f2), .int .i64 ((rd_T106 l0 x7_1).f3), .int .i64 ((rd_T106 l0 x7_1).f4)]] rfl (by (try simp only [List.map_toArray, List.map_cons, List.map_nil]); first | done | rfl | (simp only [List.length_drop, List.length_take]; rfl)) ?_; (with_reducible refine (impl_TxOk.calls k1 ((rd_T106 l0 x7_1).f0) ((rd_T106 l0 x7_1).f1) ((rd_T106 l0 x7_1).f2) ((rd_T106 l0 x7_1).f3) ((rd_T106 l0 x7_1).f4) true _ A5.out).mono ?_); rintro e w9 ⟨rfl, hb⟩; refine ⟨_, rfl, ?_⟩; have n0_ := Aside0.mk (blk_below (g := gb808) (o := .cells #[.int .i64 ((rd_T106 l0 x7_1).f0), .string ((rd_T106 l0 x7_1).f1), .string ((rd_T106 l0 x7_1).f2), .int .i64 ((rd_T106 l0 x7_1).f3), .int .i64 ((rd_T106 l0 x7_1).f4)] 106 (0, 0)) (by (with_reducible repeat (first | refine blk_drewN ?_ _ | refine blk_drew ?_ | refine blk_alloc ?_ _)); refine blk_put (cs := #[.int .i64 ((rd_T106 l0 x7_1).f0), .string ((rd_T106 l0 x7_1).f1), .string ((rd_T106 l0 x7_1).f2), .int .i64 ((rd_T106 l0 x7_1).f3), .int .i64 0]) ?_ 4 _ rfl; (with_reducible repeat (first | refine blk_drewN ?_ _ | refine blk_drew ?_ | refine blk_alloc ?_ _)); refine blk_put (cs := #[.int .i64 ((rd_T106 l0 x7_1).f0), .string ((rd_T106 l0 x7_1).f1), .string ((rd_T106 l0 x7_1).f2), .int .i64 0, .int .i64 0]) ?_ 3 _ rfl; (with_reducible repeat (first | refine blk_drewN ?_ _ | refine blk_drew ?_ | refine blk_alloc ?_ _)); refine blk_put (cs := #[.int .i64 ((rd_T106 l0 x7_1).f0), .string ((rd_T106 l0 x7_1).f1), .string (⟨#[]⟩ : ByteArray), .int .i64 0, .int .i64 0]) ?_ 2 _ rfl; (with_reducible repeat (first | refine blk_drewN ?_ _ | refine blk_drew ?_ | refine blk_alloc ?_ _)); refine blk_put (cs := #[.int .i64 ((rd_T106 l0 x7_1).f0), .string (⟨#[]⟩ : ByteArray), .string (⟨#[]⟩ : ByteArray), .int .i64 0, .int .i64 0]) ?_ 1 _ rfl; (with_reducible repeat (first | refine blk_drewN ?_ _ | refine blk_drew ?_ | refine blk_alloc ?_ _)); refine blk_put (cs := #[.int .i64 0, .string (⟨#[]⟩ : ByteArray), .string (⟨#[]⟩ : ByteArray), .int .i64 0, .int .i64 0]) ?_ 0 _ rfl; (with_reducible repeat (first | refine blk_drewN ?_ _ | refine blk_drew ?_ | refine blk_alloc ?_ _)); exact BK808.out) hb); have n1_ := Aside0.mk (below_step (by repeat (first | (with_reducible first | exact HB.out | apply below_alloc | apply pw_below_drewN | apply below_drew1 | refine below_set ?_ GE808.out) | exact HB.out)) hb); clear BK808; clear HB; have BK808 := n0_; have HB := n1_; clear n0_ n1_; (try clear hb); (try clear hb2); (try clear hk); (try clear hi)))
              go_roundg k1
              case measure => have := HK1.out; omega
              case rel => exact ⟨(wrap64 (x7_1 + 1)), (by first | rfl | (simp; done) | (simp [*]; done)), H', ⟨by have := HK1.out; omega⟩, ⟨by repeat (first | (with_reducible first | exact HB.out | apply below_alloc | apply pw_below_drewN | apply below_drew1 | refine below_set ?_ GE808.out) | exact HB.out)⟩⟩
            · replace c6 := Bool.eq_false_iff.mpr c6
              subst c6
              have H1 : (some false) = some r := by rw [if_neg (show ¬ (false = true) by decide)] at H; exact H
              clear H
              have H := H1
              clear H1
              obtain rfl := Option.some.inj H
              have p807 : 0 ≤ (x7_1 : Int) := of_decide_eq_true (by first | (with_reducible assumption) | assumption)
              have q807 : x7_1 < (l0.length : Int) := of_decide_eq_true (by first | (with_reducible assumption) | assumption)
              obtain ⟨ad807, e807, hx807_0, hx807_1, hx807_2, hx807_3, hx807_4⟩ := at_T106 HR0.out x7_1 p807 q807
              cases e807
              replace hx807_0 := (HB.out.cell (World.block_lt_of_cell? w _ hx807_0)).trans hx807_0
              replace hx807_1 := (HB.out.cell (World.block_lt_of_cell? w _ hx807_1)).trans hx807_1
              replace hx807_2 := (HB.out.cell (World.block_lt_of_cell? w _ hx807_2)).trans hx807_2
              replace hx807_3 := (HB.out.cell (World.block_lt_of_cell? w _ hx807_3)).trans hx807_3
              replace hx807_4 := (HB.out.cell (World.block_lt_of_cell? w _ hx807_4)).trans hx807_4
              replace p807 := eq_true p807
              replace q807 := eq_true q807
              go_wp2_with (first | ((with_reducible refine gate_dst (N := 4) rfl ?_); refine box_event ?hg (N := 4) ?hd (cs := #[.int .i64 0, .string (⟨#[]⟩ : ByteArray), .string (⟨#[]⟩ : ByteArray), .int .i64 0, .int .i64 0]) (t := 106) ?hr ?_; (case hd => rfl); (case hg => rfl); (case hr => first | (go_simp; done) | (go_simp; rfl)); intro gb808 hg w10 hbox hb; have n0_ := Aside0.mk (below_step (by repeat (first | (with_reducible first | exact HB.out | apply below_alloc | apply pw_below_drewN | apply below_drew1) | exact HB.out)) hb); have n1_ := Aside0.mk (hbox); have n2_ := Aside0.mk ((by rw [hg]; exact (below_size (by repeat (first | (with_reducible first | exact HB.out | apply below_alloc | apply pw_below_drewN | apply below_drew1) | exact HB.out))) : w.heap.size ≤ gb808)); have n3_ := n2_; clear HB; have HB := n0_; have BK808 := n1_; have GW808 := n2_; have GE808 := n3_; clear n0_ n1_ n2_ n3_; clear hb hbox hg; obtain ⟨hcz11_0, hcz11_1, hcz11_2, hcz11_3, hcz11_4⟩ := cells5 BK808.out; obtain ⟨hfz11_0, hfz11_1, hfz11_2, hfz11_3, hfz11_4⟩ := frozens5 BK808.out) | ((with_reducible refine gate_callee (f := 76) rfl ?_); refine goesL_ (some 12) rfl rfl Try.func76 (by kernel_rfl) rfl #[.agg #[.int .i64 ((rd_T106 l0 x7_1).f0), .string ((rd_T106 l0 x7_1).f1), .string ((rd_T106 l0 x7_1).f2), .int .i64 ((rd_T106 l0 x7_1).f3), .int .i64 ((rd_T106 l0 x7_1).f4)]] rfl (by (try simp only [List.map_toArray, List.map_cons, List.map_nil]); first | done | rfl | (simp only [List.length_drop, List.length_take]; rfl)) ?_; (with_reducible refine (impl_TxOk.calls k1 ((rd_T106 l0 x7_1).f0) ((rd_T106 l0 x7_1).f1) ((rd_T106 l0 x7_1).f2) ((rd_T106 l0 x7_1).f3) ((rd_T106 l0 x7_1).f4) false _ A5.out).mono ?_); rintro e w12 ⟨rfl, hb⟩; refine ⟨_, rfl, ?_⟩; have n0_ := Aside0.mk (blk_below (g := gb808) (o := .cells #[.int .i64 ((rd_T106 l0 x7_1).f0), .string ((rd_T106 l0 x7_1).f1), .string ((rd_T106 l0 x7_1).f2), .int .i64 ((rd_T106 l0 x7_1).f3), .int .i64 ((rd_T106 l0 x7_1).f4)] 106 (0, 0)) (by (with_reducible repeat (first | refine blk_drewN ?_ _ | refine blk_drew ?_ | refine blk_alloc ?_ _)); refine blk_put (cs := #[.int .i64 ((rd_T106 l0 x7_1).f0), .string ((rd_T106 l0 x7_1).f1), .string ((rd_T106 l0 x7_1).f2), .int .i64 ((rd_T106 l0 x7_1).f3), .int .i64 0]) ?_ 4 _ rfl; (with_reducible repeat (first | refine blk_drewN ?_ _ | refine blk_drew ?_ | refine blk_alloc ?_ _)); refine blk_put (cs := #[.int .i64 ((rd_T106 l0 x7_1).f0), .string ((rd_T106 l0 x7_1).f1), .string ((rd_T106 l0 x7_1).f2), .int .i64 0, .int .i64 0]) ?_ 3 _ rfl; (with_reducible repeat (first | refine blk_drewN ?_ _ | refine blk_drew ?_ | refine blk_alloc ?_ _)); refine blk_put (cs := #[.int .i64 ((rd_T106 l0 x7_1).f0), .string ((rd_T106 l0 x7_1).f1), .string (⟨#[]⟩ : ByteArray), .int .i64 0, .int .i64 0]) ?_ 2 _ rfl; (with_reducible repeat (first | refine blk_drewN ?_ _ | refine blk_drew ?_ | refine blk_alloc ?_ _)); refine blk_put (cs := #[.int .i64 ((rd_T106 l0 x7_1).f0), .string (⟨#[]⟩ : ByteArray), .string (⟨#[]⟩ : ByteArray), .int .i64 0, .int .i64 0]) ?_ 1 _ rfl; (with_reducible repeat (first | refine blk_drewN ?_ _ | refine blk_drew ?_ | refine blk_alloc ?_ _)); refine blk_put (cs := #[.int .i64 0, .string (⟨#[]⟩ : ByteArray), .string (⟨#[]⟩ : ByteArray), .int .i64 0, .int .i64 0]) ?_ 0 _ rfl; (with_reducible repeat (first | refine blk_drewN ?_ _ | refine blk_drew ?_ | refine blk_alloc ?_ _)); exact BK808.out) hb); have n1_ := Aside0.mk (below_step (by repeat (first | (with_reducible first | exact HB.out | apply below_alloc | apply pw_below_drewN | apply below_drew1 | refine below_set ?_ GE808.out) | exact HB.out)) hb); clear BK808; clear HB; have BK808 := n0_; have HB := n1_; clear n0_ n1_; (try clear hb); (try clear hb2); (try clear hk); (try clear hi)))
              go_ret
              exact ⟨by first | rfl | (simp [errW_none, errW_some] <;> rfl) | (simp [*, errW_none, errW_some] <;> rfl), by repeat (first | (with_reducible first | exact HB.out | apply below_alloc | apply pw_below_drewN | apply below_drew1 | refine below_set ?_ GE808.out) | exact HB.out)⟩
          · rw [if_neg c4] at H
            exact absurd H (by simp)
        · rw [if_neg c3] at H
          exact absurd H (by simp)
      · rw [if_neg c2] at H
        have c2b0 : decide (x7_1 < (l0.length : Int)) = false := decide_eq_false c2
        clear c2
        obtain rfl := Option.some.inj H
        go_wp2
        go_ret
        exact ⟨by first | rfl | (simp [errW_none, errW_some] <;> rfl) | (simp [*, errW_none, errW_some] <;> rfl), by repeat (first | (with_reducible first | exact HB.out | apply below_alloc | apply pw_below_drewN | apply below_drew1) | exact HB.out)⟩

theorem impl_txsOk.is {l : List S106} (hx : l.length ≤ maxLen) (hxs : ∀ t ∈ l, t.f1.size ≤ maxLen ∧ t.f2.size ≤ maxLen) : Ev (fun k => impl_txsOk.f k l) (allUpto l.length (fun i => txOk (rd_T106 l (i : Int)))) := by
  have hm : maxLen = 9223372036854775807 := rfl
  unfold impl_txsOk.f
  refine Ev.to (ev_all (tail := true) (fun k i => impl_txsOk.l0 k l l.length i) ?_ (fun i hi r' ih => ?_)) (Bool.and_true _)
  · simp only [impl_txsOk.l0]
    exact Ev.no (by omega) (Ev.now _)
  · simp only [impl_txsOk.l0]
    refine Ev.yes (by omega) (Ev.yes (by omega) (Ev.yes (by omega) ?_))
    rw [unw (x := (i : Int) + 1) (by omega) (by omega)]
    have hmem := hxs (rd_T106 l (i : Int)) (getD_mem (by omega) _)
    refine Ev.bind (impl_TxOk.is hmem.1 hmem.2) (Ev.cond (fun hc => Ev.to ih (by rw [hc]; simp)) (fun hc => Ev.is (by rw [Bool.eq_false_iff.2 hc]; simp)))
theorem impl_txsOk.does {l : List S106} (hx : l.length ≤ maxLen) (hxs : ∀ t ∈ l, t.f1.size ≤ maxLen ∧ t.f2.size ≤ maxLen) {B : Option Addr} {c : Nat} {w : World} (hr : Kd.C k106 w B l.length l) (hc : l.length ≤ c) : Calls Try.prog 97 #[.slice B l.length c] w fun e w' => e = .returned (.bool (allUpto l.length (fun i => txOk (rd_T106 l (i : Int))))) ∧ Below w.heap.size w w' := by
  obtain ⟨k, h⟩ := (impl_txsOk.is hx hxs).rounds
  exact (impl_txsOk.calls (hr0 := hr) (hc0 := hc) (h := h)).mono fun _ _ ⟨a, b⟩ => ⟨a, b⟩

/-! ### impl_BlockOk: walked in this session -/
set_option maxHeartbeats 2000000 in
set_option maxRecDepth 100000 in
theorem impl_BlockOk.does {b : S68} (hf : blockFit b) {cs : List Value} {w : World} (hK : k68.K w b cs) : Calls Try.prog 54 #[.agg cs.toArray] w fun e w' => e = .returned (.bool (blockOk b)) ∧ Below w.heap.size w w' := by
  obtain ⟨hby, ⟨hq, hqs⟩, ⟨ht, hts⟩, hh, ⟨hx, hxs⟩, hv, hvs⟩ := hf
  have hK' := hK
  obtain ⟨A6, u6, A8, u8, A9, u9, A10, u10, A12, u12, rfl, l6, g6, l8, g8, l9, g9, l10, g10, l12, g12⟩ := k68_open hK
  have NB := fun e : On (w.alloc (.cells #[.int .i64 b.f0, .int .i64 b.f1, .int .i64 b.f2, .string b.f3, .int .i64 b.f4.f0, .int .i64 b.f4.f1, .slice A6 b.f4.f2.length u6, .int .i64 b.f5.f0, .slice A8 b.f5.f1.length u8, .slice A9 b.f5.f2.length u9, .slice A10 b.f6.length u10, .bool b.f7, .slice A12 b.f8.length u12, .string b.f9] 68)) => cells14 (On.blk e)
  have N0 := fun e => (NB e).1
  have N1 := fun e => (NB e).2.1
  have N2 := fun e => (NB e).2.2.1
  have N3 := fun e => (NB e).2.2.2.1
  have N4 := fun e => (NB e).2.2.2.2.1
  have N5 := fun e => (NB e).2.2.2.2.2.1
  have N6 := fun e => (NB e).2.2.2.2.2.2.1
  have N7 := fun e => (NB e).2.2.2.2.2.2.2.1
  have N8 := fun e => (NB e).2.2.2.2.2.2.2.2.1
  have N9 := fun e => (NB e).2.2.2.2.2.2.2.2.2.1
  have N10 := fun e => (NB e).2.2.2.2.2.2.2.2.2.2.1
  have N11 := fun e => (NB e).2.2.2.2.2.2.2.2.2.2.2.1
  have N12 := fun e => (NB e).2.2.2.2.2.2.2.2.2.2.2.2.1
  have N13 := fun e => (NB e).2.2.2.2.2.2.2.2.2.2.2.2.2
  clear NB
  have E1 := Aside0.mk (fun W => impl_inRange.does b.f0 0 100000 W)
  have E2 := Aside0.mk (fun W => impl_inRange.does b.f1 0 900 W)
  have E3 := Aside0.mk (fun W => impl_inRange.does b.f2 1 10000 W)
  have E4 := Aside0.mk (fun W => impl_NameOk.does hby W)
  have E5 := Aside0.mk (fun e : On (w.alloc (.cells #[.int .i64 b.f0, .int .i64 b.f1, .int .i64 b.f2, .string b.f3, .int .i64 b.f4.f0, .int .i64 b.f4.f1, .slice A6 b.f4.f2.length u6, .int .i64 b.f5.f0, .slice A8 b.f5.f1.length u8, .slice A9 b.f5.f2.length u9, .slice A10 b.f6.length u10, .bool b.f7, .slice A12 b.f8.length u12, .string b.f9] 68)) => impl_qcForm.does (q := b.f4) (wrap64 (b.f2 - 1)) (wrap64 (b.f0 - 1)) hq hqs (On.val (k57_mk w b.f4 l6 g6) e.boxed))
  have E6 := Aside0.mk (fun e : On (w.alloc (.cells #[.int .i64 b.f0, .int .i64 b.f1, .int .i64 b.f2, .string b.f3, .int .i64 b.f4.f0, .int .i64 b.f4.f1, .slice A6 b.f4.f2.length u6, .int .i64 b.f5.f0, .slice A8 b.f5.f1.length u8, .slice A9 b.f5.f2.length u9, .slice A10 b.f6.length u10, .bool b.f7, .slice A12 b.f8.length u12, .string b.f9] 68)) => impl_tcForm.does (t := b.f5) (wrap64 (b.f2 - 1)) ht hts hh (On.val (k36_mk w b.f5 l8 g8 l9 g9) e.boxed))
  have E7 := Aside0.mk (fun e : On (w.alloc (.cells #[.int .i64 b.f0, .int .i64 b.f1, .int .i64 b.f2, .string b.f3, .int .i64 b.f4.f0, .int .i64 b.f4.f1, .slice A6 b.f4.f2.length u6, .int .i64 b.f5.f0, .slice A8 b.f5.f1.length u8, .slice A9 b.f5.f2.length u9, .slice A10 b.f6.length u10, .bool b.f7, .slice A12 b.f8.length u12, .string b.f9] 68)) => impl_txsOk.does hx hxs (On.row g10 e.boxed) l10)
  have E9 := Aside0.mk (fun e : On (w.alloc (.cells #[.int .i64 b.f0, .int .i64 b.f1, .int .i64 b.f2, .string b.f3, .int .i64 b.f4.f0, .int .i64 b.f4.f1, .slice A6 b.f4.f2.length u6, .int .i64 b.f5.f0, .slice A8 b.f5.f1.length u8, .slice A9 b.f5.f2.length u9, .slice A10 b.f6.length u10, .bool b.f7, .slice A12 b.f8.length u12, .string b.f9] 68)) => impl_SetOk.does hv hvs (On.row g12 e.boxed) l12)
  simp only [On.boxed_now] at E5 E6 E7 E9
  have hat : blockOk b = (inR b.f0 0 100000 && (inR b.f1 0 900 && (inR b.f2 1 10000 && (nameOk b.f3 && (qcForm b.f4.f0 b.f4.f1 b.f4.f2 (wrap64 (b.f2 - 1)) (wrap64 (b.f0 - 1)) && (tcForm b.f5.f0 b.f5.f1 b.f5.f2 (wrap64 (b.f2 - 1)) && (!decide ((b.f6.length : Int) > 4) && (allUpto b.f6.length (fun i => txOk (rd_T106 b.f6 (i : Int))) && (if b.f7 = true then (setOk b.f8 && ((b.f9.size : Int) == 32)) else (decide ((b.f8.length : Int) = 0) && (b.f9.toList == ([] : List UInt8)))))))))))) := rfl
  clear hby hq hqs ht hts hh hx hxs hv hvs hK hK' l6 g6 l8 g8 l9 g9 l10 g10 l12 g12
  generalize inR b.f0 0 100000 = b1 at *
  generalize inR b.f1 0 900 = b2 at *
  generalize inR b.f2 1 10000 = b3 at *
  generalize nameOk b.f3 = b4 at *
  generalize qcForm b.f4.f0 b.f4.f1 b.f4.f2 (wrap64 (b.f2 - 1)) (wrap64 (b.f0 - 1)) = b5 at *
  generalize tcForm b.f5.f0 b.f5.f1 b.f5.f2 (wrap64 (b.f2 - 1)) = b6 at *
  generalize allUpto b.f6.length (fun i => txOk (rd_T106 b.f6 (i : Int))) = b7 at *
  generalize b.f7 = vE at *
  generalize b.f8 = s8 at *
  cases b1
  · skip
    go_enter Try.func54, Try.ntmps54
    go_wp2_with fail
    refine BW.callD (e := On.hereOf N0) (E1.out _) (fun e1 => ?_)
    go_wp2
    go_ret
    exact ⟨by first | (rw [hat]; rfl) | rfl, e1.boxed.ok⟩
  · skip
    cases b2
    · skip
      go_enter Try.func54, Try.ntmps54
      go_wp2_with fail
      refine BW.callD (e := On.hereOf N0) (E1.out _) (fun e1 => ?_)
      go_wp2_with fail
      refine BW.callD (E2.out _) (fun e2 => ?_)
      go_wp2
      go_ret
      exact ⟨by first | (rw [hat]; rfl) | rfl, e2.boxed.ok⟩
    · skip
      cases b3
      · skip
        go_enter Try.func54, Try.ntmps54
        go_wp2_with fail
        refine BW.callD (e := On.hereOf N0) (E1.out _) (fun e1 => ?_)
        go_wp2_with fail
        refine BW.callD (E2.out _) (fun e2 => ?_)
        go_wp2_with fail
        refine BW.callD (E3.out _) (fun e3 => ?_)
        go_wp2
        go_ret
        exact ⟨by first | (rw [hat]; rfl) | rfl, e3.boxed.ok⟩
      · skip
        cases b4
        · skip
          go_enter Try.func54, Try.ntmps54
          go_wp2_with fail
          refine BW.callD (e := On.hereOf N0) (E1.out _) (fun e1 => ?_)
          go_wp2_with fail
          refine BW.callD (E2.out _) (fun e2 => ?_)
          go_wp2_with fail
          refine BW.callD (E3.out _) (fun e3 => ?_)
          go_wp2_with fail
          refine BW.callD (E4.out _) (fun e4 => ?_)
          go_wp2
          go_ret
          exact ⟨by first | (rw [hat]; rfl) | rfl, e4.boxed.ok⟩
        · skip
          cases b5
          · skip
            go_enter Try.func54, Try.ntmps54
            go_wp2_with fail
            refine BW.callD (e := On.hereOf N0) (E1.out _) (fun e1 => ?_)
            go_wp2_with fail
            refine BW.callD (E2.out _) (fun e2 => ?_)
            go_wp2_with fail
            refine BW.callD (E3.out _) (fun e3 => ?_)
            go_wp2_with fail
            refine BW.callD (E4.out _) (fun e4 => ?_)
            go_wp2_with fail
            refine BW.call (E5.out _) (fun e5 => ?_)
            go_wp2
            go_ret
            exact ⟨by first | (rw [hat]; rfl) | rfl, e5.boxed.ok⟩
          · skip
            cases b6
            · skip
              go_enter Try.func54, Try.ntmps54
              go_wp2_with fail
              refine BW.callD (e := On.hereOf N0) (E1.out _) (fun e1 => ?_)
              go_wp2_with fail
              refine BW.callD (E2.out _) (fun e2 => ?_)
              go_wp2_with fail
              refine BW.callD (E3.out _) (fun e3 => ?_)
              go_wp2_with fail
              refine BW.callD (E4.out _) (fun e4 => ?_)
              go_wp2_with fail
              refine BW.call (E5.out _) (fun e5 => ?_)
              go_wp2_with fail
              refine BW.call (E6.out _) (fun e6 => ?_)
              go_wp2
              go_ret
              exact ⟨by first | (rw [hat]; rfl) | rfl, e6.boxed.ok⟩
            · skip
              by_cases c7 : (b.f6.length : Int) > 4
              · skip
                have c7' : decide ((b.f6.length : Int) > 4) = true := decide_eq_true c7
                rw [c7'] at hat
                go_enter Try.func54, Try.ntmps54
                go_wp2_with fail
                refine BW.callD (e := On.hereOf N0) (E1.out _) (fun e1 => ?_)
                go_wp2_with fail
                refine BW.callD (E2.out _) (fun e2 => ?_)
                go_wp2_with fail
                refine BW.callD (E3.out _) (fun e3 => ?_)
                go_wp2_with fail
                refine BW.callD (E4.out _) (fun e4 => ?_)
                go_wp2_with fail
                refine BW.call (E5.out _) (fun e5 => ?_)
                go_wp2_with fail
                refine BW.call (E6.out _) (fun e6 => ?_)
                go_wp2
                go_ret
                exact ⟨by first | (rw [hat]; rfl) | rfl, e6.boxed.ok⟩
              · skip
                have c7' : decide ((b.f6.length : Int) > 4) = false := decide_eq_false c7
                rw [c7'] at hat
                cases b7
                · skip
                  go_enter Try.func54, Try.ntmps54
                  go_wp2_with fail
                  refine BW.callD (e := On.hereOf N0) (E1.out _) (fun e1 => ?_)
                  go_wp2_with fail
                  refine BW.callD (E2.out _) (fun e2 => ?_)
                  go_wp2_with fail
                  refine BW.callD (E3.out _) (fun e3 => ?_)
                  go_wp2_with fail
                  refine BW.callD (E4.out _) (fun e4 => ?_)
                  go_wp2_with fail
                  refine BW.call (E5.out _) (fun e5 => ?_)
                  go_wp2_with fail
                  refine BW.call (E6.out _) (fun e6 => ?_)
                  go_wp2_with fail
                  refine BW.call (E7.out _) (fun e7 => ?_)
                  go_wp2
                  go_ret
                  exact ⟨by first | (rw [hat]; rfl) | rfl, e7.boxed.ok⟩
                · skip
                  cases vE
                  case true =>
                    rw [if_pos rfl] at hat
                    generalize setOk s8 = b9 at *
                    cases b9
                    · skip
                      go_enter Try.func54, Try.ntmps54
                      go_wp2_with fail
                      refine BW.callD (e := On.hereOf N0) (E1.out _) (fun e1 => ?_)
                      go_wp2_with fail
                      refine BW.callD (E2.out _) (fun e2 => ?_)
                      go_wp2_with fail
                      refine BW.callD (E3.out _) (fun e3 => ?_)
                      go_wp2_with fail
                      refine BW.callD (E4.out _) (fun e4 => ?_)
                      go_wp2_with fail
                      refine BW.call (E5.out _) (fun e5 => ?_)
                      go_wp2_with fail
                      refine BW.call (E6.out _) (fun e6 => ?_)
                      go_wp2_with fail
                      refine BW.call (E7.out _) (fun e7 => ?_)
                      go_wp2_with fail
                      refine BW.call (E9.out _) (fun e9 => ?_)
                      go_wp2
                      go_ret
                      exact ⟨by first | (rw [hat]; rfl) | rfl, e9.boxed.ok⟩
                    · by_cases c9 : (b.f9.size : Int) = 32
                      · skip
                        have c9' : decide ((b.f9.size : Int) = 32) = true := decide_eq_true c9
                        have c9'' : ((b.f9.size : Int) == 32) = true := c9'
                        rw [c9''] at hat
                        clear c9
                        go_enter Try.func54, Try.ntmps54
                        go_wp2_with fail
                        refine BW.callD (e := On.hereOf N0) (E1.out _) (fun e1 => ?_)
                        go_wp2_with fail
                        refine BW.callD (E2.out _) (fun e2 => ?_)
                        go_wp2_with fail
                        refine BW.callD (E3.out _) (fun e3 => ?_)
                        go_wp2_with fail
                        refine BW.callD (E4.out _) (fun e4 => ?_)
                        go_wp2_with fail
                        refine BW.call (E5.out _) (fun e5 => ?_)
                        go_wp2_with fail
                        refine BW.call (E6.out _) (fun e6 => ?_)
                        go_wp2_with fail
                        refine BW.call (E7.out _) (fun e7 => ?_)
                        go_wp2_with fail
                        refine BW.call (E9.out _) (fun e9 => ?_)
                        go_wp2
                        go_ret
                        exact ⟨by first | (rw [hat]; rfl) | rfl, e9.boxed.ok⟩
                      · skip
                        have c9' : decide ((b.f9.size : Int) = 32) = false := decide_eq_false c9
                        have c9'' : ((b.f9.size : Int) == 32) = false := c9'
                        rw [c9''] at hat
                        clear c9
                        go_enter Try.func54, Try.ntmps54
                        go_wp2_with fail
                        refine BW.callD (e := On.hereOf N0) (E1.out _) (fun e1 => ?_)
                        go_wp2_with fail
                        refine BW.callD (E2.out _) (fun e2 => ?_)
                        go_wp2_with fail
                        refine BW.callD (E3.out _) (fun e3 => ?_)
                        go_wp2_with fail
                        refine BW.callD (E4.out _) (fun e4 => ?_)
                        go_wp2_with fail
                        refine BW.call (E5.out _) (fun e5 => ?_)
                        go_wp2_with fail
                        refine BW.call (E6.out _) (fun e6 => ?_)
                        go_wp2_with fail
                        refine BW.call (E7.out _) (fun e7 => ?_)
                        go_wp2_with fail
                        refine BW.call (E9.out _) (fun e9 => ?_)
                        go_wp2
                        go_ret
                        exact ⟨by first | (rw [hat]; rfl) | rfl, e9.boxed.ok⟩
                  case false =>
                    rw [if_neg (by decide)] at hat
                    by_cases c9 : (s8.length : Int) = 0
                    · skip
                      have c9' : decide ((s8.length : Int) = 0) = true := decide_eq_true c9
                      rw [c9'] at hat
                      obtain rfl : s8 = [] := List.length_eq_zero_iff.1 (by omega)
                      by_cases c8 : b.f9.toList = []
                      · skip
                        have c8' : (b.f9.toList == ([] : List UInt8)) = true := by rw [c8]; rfl
                        rw [c8'] at hat
                        clear c9
                        go_enter Try.func54, Try.ntmps54
                        go_wp2_with fail
                        refine BW.callD (e := On.hereOf N0) (E1.out _) (fun e1 => ?_)
                        go_wp2_with fail
                        refine BW.callD (E2.out _) (fun e2 => ?_)
                        go_wp2_with fail
                        refine BW.callD (E3.out _) (fun e3 => ?_)
                        go_wp2_with fail
                        refine BW.callD (E4.out _) (fun e4 => ?_)
                        go_wp2_with fail
                        refine BW.call (E5.out _) (fun e5 => ?_)
                        go_wp2_with fail
                        refine BW.call (E6.out _) (fun e6 => ?_)
                        go_wp2_with fail
                        refine BW.call (E7.out _) (fun e7 => ?_)
                        go_wp2
                        go_ret
                        exact ⟨by first | (rw [hat]; rfl) | rfl, e7.boxed.ok⟩
                      · skip
                        have c8' : (b.f9.toList == ([] : List UInt8)) = false := by simp [c8]
                        rw [c8'] at hat
                        clear c9
                        go_enter Try.func54, Try.ntmps54
                        go_wp2_with fail
                        refine BW.callD (e := On.hereOf N0) (E1.out _) (fun e1 => ?_)
                        go_wp2_with fail
                        refine BW.callD (E2.out _) (fun e2 => ?_)
                        go_wp2_with fail
                        refine BW.callD (E3.out _) (fun e3 => ?_)
                        go_wp2_with fail
                        refine BW.callD (E4.out _) (fun e4 => ?_)
                        go_wp2_with fail
                        refine BW.call (E5.out _) (fun e5 => ?_)
                        go_wp2_with fail
                        refine BW.call (E6.out _) (fun e6 => ?_)
                        go_wp2_with fail
                        refine BW.call (E7.out _) (fun e7 => ?_)
                        go_wp2
                        go_ret
                        exact ⟨by first | (rw [hat]; rfl) | rfl, e7.boxed.ok⟩
                    · skip
                      have c9' : decide ((s8.length : Int) = 0) = false := decide_eq_false c9
                      rw [c9'] at hat
                      have c9e : ¬ s8 = [] := fun h => c9 (by rw [h]; rfl)
                      clear c9
                      go_enter Try.func54, Try.ntmps54
                      go_wp2_with fail
                      refine BW.callD (e := On.hereOf N0) (E1.out _) (fun e1 => ?_)
                      go_wp2_with fail
                      refine BW.callD (E2.out _) (fun e2 => ?_)
                      go_wp2_with fail
                      refine BW.callD (E3.out _) (fun e3 => ?_)
                      go_wp2_with fail
                      refine BW.callD (E4.out _) (fun e4 => ?_)
                      go_wp2_with fail
                      refine BW.call (E5.out _) (fun e5 => ?_)
                      go_wp2_with fail
                      refine BW.call (E6.out _) (fun e6 => ?_)
                      go_wp2_with fail
                      refine BW.call (E7.out _) (fun e7 => ?_)
                      go_wp2
                      go_ret
                      exact ⟨by first | (rw [hat]; rfl) | rfl, e7.boxed.ok⟩

end Go.Proofs.Ytieecjilnaijkaa.F
