/-
Functions of the program, what they come to, and that Go comes to just that: impl_PutBlock, laws_markByteS, laws_heldByteS, laws_FnExactPutBlock.
Conditions: those that each theorem names.
-/
import Derived.Test.YtadkhkpchankjaaFAbs
import Derived.Test.YtadkhkpchankjaaF61
import Derived.Test.YtadkhkpchankjaaF68
import Derived.Test.YtadkhkpchankjaaF70
import Derived.Test.YtadkhkpchankjaaF71
import Derived.Test.YtadkhkpchankjaaWApart
import Derived.Test.YtadkhkpchankjaaWKept
import Derived.Test.YtadkhkpchankjaaWN
import Derived.Test.YtadkhkpchankjaaWMore
import Derived.Test.YtadkhkpchankjaaMark
import Derived.Test.YtadkhkpchankjaaFam
import Derived.Test.YtadkhkpchankjaaLaw
set_option linter.unusedVariables false
set_option linter.unusedSimpArgs false
namespace Go.Proofs.Ytadkhkpchankjaa.F
open Go.RowKit Go.Proofs.YtadkhkpchankjaaW.PrintWords Go.Proofs.YtadkhkpchankjaaW.PrintLast Go.Proofs.Ytadkhkpchankjaa.Base Go.Proofs.Ytadkhkpchankjaa.BW
open Go.Proofs.Ytadkhkpchankjaa.Mark
open Go.Proofs.Ytadkhkpchankjaa
open Go.Proofs.Ytadkhkpchankjaa.FamW
open Go.Proofs.YtadkhkpchankjaaW.PrintMore
attribute [local go_sem] max2_int min2_int max_two min_two max_three min_three max_four min_four   -- for this text's walks alone

/-! ### impl_PutBlock: function 70 -/
def impl_PutBlock.f (k : Nat) (a0_0 : Int) (a0_1 : Int) (a0_2 : Int) (a0_3 : ByteArray) (a0_4 : Int) (a0_5 : Int) (l0_6 : List ByteArray) (a0_7 : Int) (l0_8 : List ByteArray) (l0_9 : List Int) (l0_10 : List (S186)) (a0_11 : Bool) (l0_12 : List (S138)) (a0_13 : ByteArray) : Option (List Int) := (impl_BlockOk.f k a0_0 a0_1 a0_2 a0_3 a0_4 a0_5 l0_6 a0_7 l0_8 l0_9 l0_10 a0_11 l0_12 a0_13).bind fun t1722 => (if t1722 = true then ((impl_putBlock.f k a0_0 a0_1 a0_2 a0_3 a0_4 a0_5 l0_6 a0_7 l0_8 l0_9 l0_10 a0_11 l0_12 a0_13).bind fun t1723 => (some t1723)) else (some ([] : List Int)))
theorem impl_PutBlock.mono : ∀ a0 a1 a2 a3 a4 a5 a6 a7 a8 a9 a10 a11 a12 a13 k, LeO (impl_PutBlock.f k a0 a1 a2 a3 a4 a5 a6 a7 a8 a9 a10 a11 a12 a13) (impl_PutBlock.f (k + 1) a0 a1 a2 a3 a4 a5 a6 a7 a8 a9 a10 a11 a12 a13) := by
  intro a0 a1 a2 a3 a4 a5 a6 a7 a8 a9 a10 a11 a12 a13 k
  unfold impl_PutBlock.f
  repeat' first
      | (with_reducible exact impl_BlockOk.mono _ _ _ _ _ _ _ _ _ _ _ _ _ _ _)
      | (with_reducible exact impl_putBlock.mono _ _ _ _ _ _ _ _ _ _ _ _ _ _ _)
      | (with_reducible exact LeO.refl _)
      | (with_reducible exact LeO.none _)
      | (with_reducible refine LeO.ite ?_ ?_)
      | (with_reducible refine LeO.bind ?_ (fun _ => ?_))
      | exact impl_BlockOk.mono _ _ _ _ _ _ _ _ _ _ _ _ _ _ _
      | exact impl_putBlock.mono _ _ _ _ _ _ _ _ _ _ _ _ _ _ _
      | exact LeO.none _
      | refine LeO.ite ?_ ?_
      | refine LeO.bind ?_ (fun _ => ?_)
set_option maxHeartbeats 8000000 in
set_option maxRecDepth 100000 in
theorem impl_PutBlock.calls (k : Nat) (a0_0 : Int) (a0_1 : Int) (a0_2 : Int) (a0_3 : ByteArray) (a0_4 : Int) (a0_5 : Int) (A0_6 : Option Addr) (c0_6 : Nat) (l0_6 : List ByteArray) (a0_7 : Int) (A0_8 : Option Addr) (c0_8 : Nat) (l0_8 : List ByteArray) (A0_9 : Option Addr) (c0_9 : Nat) (l0_9 : List Int) (A0_10 : Option Addr) (c0_10 : Nat) (l0_10 : List (S186)) (a0_11 : Bool) (A0_12 : Option Addr) (c0_12 : Nat) (l0_12 : List (S138)) (a0_13 : ByteArray) (r : List Int) (w : World) (hr0_6 : Kd.C Kd.string w A0_6 l0_6.length l0_6) (hc0_6 : l0_6.length ≤ c0_6) (hr0_8 : Kd.C Kd.string w A0_8 l0_8.length l0_8) (hc0_8 : l0_8.length ≤ c0_8) (hr0_9 : Kd.C (Kd.int .i64) w A0_9 l0_9.length l0_9) (hc0_9 : l0_9.length ≤ c0_9) (hr0_10 : Kd.C k186 w A0_10 l0_10.length l0_10) (hc0_10 : l0_10.length ≤ c0_10) (hr0_12 : Kd.C k138 w A0_12 l0_12.length l0_12) (hc0_12 : l0_12.length ≤ c0_12) (h : impl_PutBlock.f k a0_0 a0_1 a0_2 a0_3 a0_4 a0_5 l0_6 a0_7 l0_8 l0_9 l0_10 a0_11 l0_12 a0_13 = some r) :
    Calls Try.prog 70 #[.agg #[.int .i64 a0_0, .int .i64 a0_1, .int .i64 a0_2, .string a0_3, .int .i64 a0_4, .int .i64 a0_5, .slice A0_6 l0_6.length c0_6, .int .i64 a0_7, .slice A0_8 l0_8.length c0_8, .slice A0_9 l0_9.length c0_9, .slice A0_10 l0_10.length c0_10, .bool a0_11, .slice A0_12 l0_12.length c0_12, .string a0_13]] w fun e w' => ∃ v0_ : Value, e = .returned (v0_) ∧ Kd.R (Kd.int .u8) 5 w' w.heap.size (fun _ => True) v0_ r ∧ Below w.heap.size w w' := by
  have hu113 := Try.underlying113
  have HR0_6 := Aside0.mk hr0_6
  have HC0_6 := Aside0.mk hc0_6
  clear hr0_6 hc0_6
  have HR0_8 := Aside0.mk hr0_8
  have HC0_8 := Aside0.mk hc0_8
  clear hr0_8 hc0_8
  have HR0_9 := Aside0.mk hr0_9
  have HC0_9 := Aside0.mk hc0_9
  clear hr0_9 hc0_9
  have HR0_10 := Aside0.mk hr0_10
  have HC0_10 := Aside0.mk hc0_10
  clear hr0_10 hc0_10
  have HR0_12 := Aside0.mk hr0_12
  have HC0_12 := Aside0.mk hc0_12
  clear hr0_12 hc0_12
  have HB := Aside0.mk (Below.refl w.heap.size w)
  have H : ((impl_BlockOk.f k a0_0 a0_1 a0_2 a0_3 a0_4 a0_5 l0_6 a0_7 l0_8 l0_9 l0_10 a0_11 l0_12 a0_13).bind fun t1722 => (if t1722 = true then ((impl_putBlock.f k a0_0 a0_1 a0_2 a0_3 a0_4 a0_5 l0_6 a0_7 l0_8 l0_9 l0_10 a0_11 l0_12 a0_13).bind fun t1723 => (some t1723)) else (some ([] : List Int)))) = some r := h
  clear h
  replace H := Option.bind_eq_some_iff.mp H
  obtain ⟨t1722, A20, H⟩ := H
  replace H : (if t1722 = true then ((impl_putBlock.f k a0_0 a0_1 a0_2 a0_3 a0_4 a0_5 l0_6 a0_7 l0_8 l0_9 l0_10 a0_11 l0_12 a0_13).bind fun t1723 => (some t1723)) else (some ([] : List Int))) = some r := H
  have A2 := Aside0.mk A20
  clear A20
  by_cases c3 : t1722 = true
  · subst c3
    have H1 : ((impl_putBlock.f k a0_0 a0_1 a0_2 a0_3 a0_4 a0_5 l0_6 a0_7 l0_8 l0_9 l0_10 a0_11 l0_12 a0_13).bind fun t1723 => (some t1723)) = some r := by rw [if_pos rfl] at H; exact H
    clear H
    have H := H1
    clear H1
    replace H := Option.bind_eq_some_iff.mp H
    obtain ⟨t1723, A40, H⟩ := H
    replace H : (some t1723) = some r := H
    have A4 := Aside0.mk A40
    clear A40
    obtain rfl := Option.some.inj H
    go_enter Try.func70, Try.ntmps70
    go_wp2_with (first | ((with_reducible refine gate_dst (N := 1) rfl ?_); refine box_event ?hg (N := 1) ?hd (cs := #[.int .i64 a0_0, .int .i64 a0_1, .int .i64 a0_2, .string a0_3, .int .i64 a0_4, .int .i64 a0_5, .slice A0_6 l0_6.length c0_6, .int .i64 a0_7, .slice A0_8 l0_8.length c0_8, .slice A0_9 l0_9.length c0_9, .slice A0_10 l0_10.length c0_10, .bool a0_11, .slice A0_12 l0_12.length c0_12, .string a0_13]) (t := 113) ?hr ?_; (case hd => rfl); (case hg => rfl); (case hr => first | (go_simp; done) | (go_simp; rfl)); intro gb1721 hg w5 hbox hb; have n0_ := Aside0.mk (below_step (by repeat (first | (with_reducible first | exact HB.out | apply below_alloc | apply pw_below_drewN | apply below_drew1) | exact HB.out)) hb); have n1_ := Aside0.mk (hbox); have n2_ := Aside0.mk ((by rw [hg]; exact (below_size (by repeat (first | (with_reducible first | exact HB.out | apply below_alloc | apply pw_below_drewN | apply below_drew1) | exact HB.out))) : w.heap.size ≤ gb1721)); have n3_ := n2_; clear HB; have HB := n0_; have BK1721 := n1_; have GW1721 := n2_; have GE1721 := n3_; clear n0_ n1_ n2_ n3_; clear hb hbox hg; obtain ⟨hcz6_0, hcz6_1, hcz6_2, hcz6_3, hcz6_4, hcz6_5, hcz6_6, hcz6_7, hcz6_8, hcz6_9, hcz6_10, hcz6_11, hcz6_12, hcz6_13⟩ := cells14 BK1721.out; obtain ⟨hfz6_0, hfz6_1, hfz6_2, hfz6_3, hfz6_4, hfz6_5, hfz6_6, hfz6_7, hfz6_8, hfz6_9, hfz6_10, hfz6_11, hfz6_12, hfz6_13⟩ := frozens14 BK1721.out) | ((with_reducible refine gate_callee (f := 159) rfl ?_); refine goesL_ (some 4) rfl rfl Try.func159 (by kernel_rfl) rfl #[.agg #[.int .i64 a0_0, .int .i64 a0_1, .int .i64 a0_2, .string a0_3, .int .i64 a0_4, .int .i64 a0_5, .slice A0_6 l0_6.length c0_6, .int .i64 a0_7, .slice A0_8 l0_8.length c0_8, .slice A0_9 l0_9.length c0_9, .slice A0_10 l0_10.length c0_10, .bool a0_11, .slice A0_12 l0_12.length c0_12, .string a0_13]] rfl (by (try simp only [List.map_toArray, List.map_cons, List.map_nil]); first | done | rfl | (simp only [List.length_drop, List.length_take]; rfl)) ?_; (with_reducible refine (impl_BlockOk.calls k a0_0 a0_1 a0_2 a0_3 a0_4 a0_5 _ _ l0_6 a0_7 _ _ l0_8 _ _ l0_9 _ _ l0_10 a0_11 _ _ l0_12 a0_13 true _ ?side1 ?side2 ?side3 ?side4 ?side5 ?side6 ?side7 ?side8 ?side9 ?side10 A2.out).mono ?_); (case side1 => repeat (first | exact (Kd.C_below HR0_6.out HB.out) | (with_reducible refine Kd.C_alloc ?_ _) | (with_reducible refine Kd.C_drewN ?_ _) | (with_reducible refine Kd.C_drew ?_))); (case side2 => exact HC0_6.out); (case side3 => repeat (first | exact (Kd.C_below HR0_8.out HB.out) | (with_reducible refine Kd.C_alloc ?_ _) | (with_reducible refine Kd.C_drewN ?_ _) | (with_reducible refine Kd.C_drew ?_))); (case side4 => exact HC0_8.out); (case side5 => repeat (first | exact (Kd.C_below HR0_9.out HB.out) | (with_reducible refine Kd.C_alloc ?_ _) | (with_reducible refine Kd.C_drewN ?_ _) | (with_reducible refine Kd.C_drew ?_))); (case side6 => exact HC0_9.out); (case side7 => repeat (first | exact (Kd.C_below HR0_10.out HB.out) | (with_reducible refine Kd.C_alloc ?_ _) | (with_reducible refine Kd.C_drewN ?_ _) | (with_reducible refine Kd.C_drew ?_))); (case side8 => exact HC0_10.out); (case side9 => repeat (first | exact (Kd.C_below HR0_12.out HB.out) | (with_reducible refine Kd.C_alloc ?_ _) | (with_reducible refine Kd.C_drewN ?_ _) | (with_reducible refine Kd.C_drew ?_))); (case side10 => exact HC0_12.out); rintro e w7 ⟨rfl, hb⟩; refine ⟨_, rfl, ?_⟩; have n0_ := Aside0.mk (blk_below (g := gb1721) (by (with_reducible repeat (first | refine blk_drewN ?_ _ | refine blk_drew ?_ | refine blk_alloc ?_ _)); exact BK1721.out) hb); have n1_ := Aside0.mk (below_step (by repeat (first | (with_reducible first | exact HB.out | apply below_alloc | apply pw_below_drewN | apply below_drew1 | refine below_set ?_ GE1721.out) | exact HB.out)) hb); clear BK1721; clear HB; have BK1721 := n0_; have HB := n1_; clear n0_ n1_; (try clear hb); (try clear hb2); (try clear hk); (try clear hi); obtain ⟨hcz8_0, hcz8_1, hcz8_2, hcz8_3, hcz8_4, hcz8_5, hcz8_6, hcz8_7, hcz8_8, hcz8_9, hcz8_10, hcz8_11, hcz8_12, hcz8_13⟩ := cells14 BK1721.out; obtain ⟨hfz8_0, hfz8_1, hfz8_2, hfz8_3, hfz8_4, hfz8_5, hfz8_6, hfz8_7, hfz8_8, hfz8_9, hfz8_10, hfz8_11, hfz8_12, hfz8_13⟩ := frozens14 BK1721.out) | ((with_reducible refine gate_callee (f := 160) rfl ?_); refine goesL_ (some 7) rfl rfl Try.func160 (by kernel_rfl) rfl #[.agg #[.int .i64 a0_0, .int .i64 a0_1, .int .i64 a0_2, .string a0_3, .int .i64 a0_4, .int .i64 a0_5, .slice A0_6 l0_6.length c0_6, .int .i64 a0_7, .slice A0_8 l0_8.length c0_8, .slice A0_9 l0_9.length c0_9, .slice A0_10 l0_10.length c0_10, .bool a0_11, .slice A0_12 l0_12.length c0_12, .string a0_13]] rfl (by (try simp only [List.map_toArray, List.map_cons, List.map_nil]); first | done | rfl | (simp only [List.length_drop, List.length_take]; rfl)) ?_; (with_reducible refine (impl_putBlock.calls k a0_0 a0_1 a0_2 a0_3 a0_4 a0_5 _ _ l0_6 a0_7 _ _ l0_8 _ _ l0_9 _ _ l0_10 a0_11 _ _ l0_12 a0_13 t1723 _ ?side1 ?side2 ?side3 ?side4 ?side5 ?side6 ?side7 ?side8 ?side9 ?side10 A4.out).mono ?_); (case side1 => repeat (first | exact (Kd.C_below HR0_6.out HB.out) | (with_reducible refine Kd.C_alloc ?_ _) | (with_reducible refine Kd.C_drewN ?_ _) | (with_reducible refine Kd.C_drew ?_))); (case side2 => exact HC0_6.out); (case side3 => repeat (first | exact (Kd.C_below HR0_8.out HB.out) | (with_reducible refine Kd.C_alloc ?_ _) | (with_reducible refine Kd.C_drewN ?_ _) | (with_reducible refine Kd.C_drew ?_))); (case side4 => exact HC0_8.out); (case side5 => repeat (first | exact (Kd.C_below HR0_9.out HB.out) | (with_reducible refine Kd.C_alloc ?_ _) | (with_reducible refine Kd.C_drewN ?_ _) | (with_reducible refine Kd.C_drew ?_))); (case side6 => exact HC0_9.out); (case side7 => repeat (first | exact (Kd.C_below HR0_10.out HB.out) | (with_reducible refine Kd.C_alloc ?_ _) | (with_reducible refine Kd.C_drewN ?_ _) | (with_reducible refine Kd.C_drew ?_))); (case side8 => exact HC0_10.out); (case side9 => repeat (first | exact (Kd.C_below HR0_12.out HB.out) | (with_reducible refine Kd.C_alloc ?_ _) | (with_reducible refine Kd.C_drewN ?_ _) | (with_reducible refine Kd.C_drew ?_))); (case side10 => exact HC0_12.out); rintro e w9 ⟨v1724, rfl, ho0, hb⟩; refine ⟨_, rfl, ?_⟩; have n0_ := Aside0.mk (Kd.R_lower ho0 (below_size (by repeat (first | (with_reducible first | exact HB.out | apply below_alloc | apply pw_below_drewN | apply below_drew1 | refine below_set ?_ GE1721.out) | exact HB.out)))); have n1_ := Aside0.mk (blk_below (g := gb1721) (by (with_reducible repeat (first | refine blk_drewN ?_ _ | refine blk_drew ?_ | refine blk_alloc ?_ _)); exact BK1721.out) hb); have n2_ := Aside0.mk (below_step (by repeat (first | (with_reducible first | exact HB.out | apply below_alloc | apply pw_below_drewN | apply below_drew1 | refine below_set ?_ GE1721.out) | exact HB.out)) hb); clear BK1721; clear HB; have HO1725 := n0_; have BK1721 := n1_; have HB := n2_; clear n0_ n1_ n2_; (try clear hb); (try clear hb2); (try clear hk); (try clear hi); (try clear ho0)))
    go_ret
    exact ⟨_, by first | rfl | (simp [errW_none, errW_some] <;> rfl) | (simp [*, errW_none, errW_some] <;> rfl), by (with_reducible repeat (first | apply Kd.R_alloc | apply Kd.R_drewN | apply Kd.R_drew)); exact HO1725.out, by repeat (first | (with_reducible first | exact HB.out | apply below_alloc | apply pw_below_drewN | apply below_drew1 | refine below_set ?_ GE1721.out) | exact HB.out)⟩
  · replace c3 := Bool.eq_false_iff.mpr c3
    subst c3
    have H1 : (some ([] : List Int)) = some r := by rw [if_neg (show ¬ (false = true) by decide)] at H; exact H
    clear H
    have H := H1
    clear H1
    obtain rfl := Option.some.inj H
    go_enter Try.func70, Try.ntmps70
    go_wp2_with (first | ((with_reducible refine gate_dst (N := 1) rfl ?_); refine box_event ?hg (N := 1) ?hd (cs := #[.int .i64 a0_0, .int .i64 a0_1, .int .i64 a0_2, .string a0_3, .int .i64 a0_4, .int .i64 a0_5, .slice A0_6 l0_6.length c0_6, .int .i64 a0_7, .slice A0_8 l0_8.length c0_8, .slice A0_9 l0_9.length c0_9, .slice A0_10 l0_10.length c0_10, .bool a0_11, .slice A0_12 l0_12.length c0_12, .string a0_13]) (t := 113) ?hr ?_; (case hd => rfl); (case hg => rfl); (case hr => first | (go_simp; done) | (go_simp; rfl)); intro gb1721 hg w10 hbox hb; have n0_ := Aside0.mk (below_step (by repeat (first | (with_reducible first | exact HB.out | apply below_alloc | apply pw_below_drewN | apply below_drew1) | exact HB.out)) hb); have n1_ := Aside0.mk (hbox); have n2_ := Aside0.mk ((by rw [hg]; exact (below_size (by repeat (first | (with_reducible first | exact HB.out | apply below_alloc | apply pw_below_drewN | apply below_drew1) | exact HB.out))) : w.heap.size ≤ gb1721)); have n3_ := n2_; clear HB; have HB := n0_; have BK1721 := n1_; have GW1721 := n2_; have GE1721 := n3_; clear n0_ n1_ n2_ n3_; clear hb hbox hg; obtain ⟨hcz11_0, hcz11_1, hcz11_2, hcz11_3, hcz11_4, hcz11_5, hcz11_6, hcz11_7, hcz11_8, hcz11_9, hcz11_10, hcz11_11, hcz11_12, hcz11_13⟩ := cells14 BK1721.out; obtain ⟨hfz11_0, hfz11_1, hfz11_2, hfz11_3, hfz11_4, hfz11_5, hfz11_6, hfz11_7, hfz11_8, hfz11_9, hfz11_10, hfz11_11, hfz11_12, hfz11_13⟩ := frozens14 BK1721.out) | ((with_reducible refine gate_callee (f := 159) rfl ?_); refine goesL_ (some 4) rfl rfl Try.func159 (by kernel_rfl) rfl #[.agg #[.int .i64 a0_0, .int .i64 a0_1, .int .i64 a0_2, .string a0_3, .int .i64 a0_4, .int .i64 a0_5, .slice A0_6 l0_6.length c0_6, .int .i64 a0_7, .slice A0_8 l0_8.length c0_8, .slice A0_9 l0_9.length c0_9, .slice A0_10 l0_10.length c0_10, .bool a0_11, .slice A0_12 l0_12.length c0_12, .string a0_13]] rfl (by (try simp only [List.map_toArray, List.map_cons, List.map_nil]); first | done | rfl | (simp only [List.length_drop, List.length_take]; rfl)) ?_; (with_reducible refine (impl_BlockOk.calls k a0_0 a0_1 a0_2 a0_3 a0_4 a0_5 _ _ l0_6 a0_7 _ _ l0_8 _ _ l0_9 _ _ l0_10 a0_11 _ _ l0_12 a0_13 false _ ?side1 ?side2 ?side3 ?side4 ?side5 ?side6 ?side7 ?side8 ?side9 ?side10 A2.out).mono ?_); (case side1 => repeat (first | exact (Kd.C_below HR0_6.out HB.out) | (with_reducible refine Kd.C_alloc ?_ _) | (with_reducible refine Kd.C_drewN ?_ _) | (with_reducible refine Kd.C_drew ?_))); (case side2 => exact HC0_6.out); (case side3 => repeat (first | exact (Kd.C_below HR0_8.out HB.out) | (with_reducible refine Kd.C_alloc ?_ _) | (with_reducible refine Kd.C_drewN ?_ _) | (with_reducible refine Kd.C_drew ?_))); (case side4 => exact HC0_8.out); (case side5 => repeat (first | exact (Kd.C_below HR0_9.out HB.out) | (with_reducible refine Kd.C_alloc ?_ _) | (with_reducible refine Kd.C_drewN ?_ _) | (with_reducible refine Kd.C_drew ?_))); (case side6 => exact HC0_9.out); (case side7 => repeat (first | exact (Kd.C_below HR0_10.out HB.out) | (with_reducible refine Kd.C_alloc ?_ _) | (with_reducible refine Kd.C_drewN ?_ _) | (with_reducible refine Kd.C_drew ?_))); (case side8 => exact HC0_10.out); (case side9 => repeat (first | exact (Kd.C_below HR0_12.out HB.out) | (with_reducible refine Kd.C_alloc ?_ _) | (with_reducible refine Kd.C_drewN ?_ _) | (with_reducible refine Kd.C_drew ?_))); (case side10 => exact HC0_12.out); rintro e w12 ⟨rfl, hb⟩; refine ⟨_, rfl, ?_⟩; have n0_ := Aside0.mk (blk_below (g := gb1721) (by (with_reducible repeat (first | refine blk_drewN ?_ _ | refine blk_drew ?_ | refine blk_alloc ?_ _)); exact BK1721.out) hb); have n1_ := Aside0.mk (below_step (by repeat (first | (with_reducible first | exact HB.out | apply below_alloc | apply pw_below_drewN | apply below_drew1 | refine below_set ?_ GE1721.out) | exact HB.out)) hb); clear BK1721; clear HB; have BK1721 := n0_; have HB := n1_; clear n0_ n1_; (try clear hb); (try clear hb2); (try clear hk); (try clear hi)))
    go_ret
    exact ⟨_, by first | rfl | (simp [errW_none, errW_some] <;> rfl) | (simp [*, errW_none, errW_some] <;> rfl), by first | exact Kd.R_nil _ _ _ _ _ | exact Kd.N_nil _ _ _ _ _ | exact Kd.V_nil _ _ _ _ _ | exact Kd.Q_nil _ _ _ _ _ | exact Kd.S_nil _ _ _ _ _, by repeat (first | (with_reducible first | exact HB.out | apply below_alloc | apply pw_below_drewN | apply below_drew1 | refine below_set ?_ GE1721.out) | exact HB.out)⟩

theorem impl_PutBlock.is {b : S113} (hf : blockFit b) : Ev (fun k => impl_PutBlock.f k b.f0 b.f1 b.f2 b.f3 b.f4.f0 b.f4.f1 b.f4.f2 b.f5.f0 b.f5.f1 b.f5.f2 b.f6 b.f7 b.f8 b.f9) (if blockOk b = true then pBlock b else []) := by
  unfold impl_PutBlock.f
  refine Ev.bind (impl_BlockOk.is hf) ?_
  cases hb : blockOk b
  · exact Ev.no (by decide) (Ev.now _)
  · exact Ev.yes rfl (Ev.bind (impl_putBlock.is hb) (Ev.is (by rw [if_pos rfl])))
theorem impl_PutBlock.does {b : S113} (hf : blockFit b) {cs : List Value} {w : World} (hK : k113.K w b cs) : Calls Try.prog 70 #[.agg cs.toArray] w fun e w' => ∃ v, e = .returned v ∧ Kd.R (Kd.int .u8) 5 w' w.heap.size (fun _ => True) v (if blockOk b = true then pBlock b else []) ∧ Below w.heap.size w w' := by
  obtain ⟨A6, c6, A8, c8, A9, c9, A10, c10, A12, c12, rfl, l6, g6, l8, g8, l9, g9, l10, g10, l12, g12⟩ := k113_open hK
  obtain ⟨k, h⟩ := (impl_PutBlock.is hf).rounds
  exact impl_PutBlock.calls (hr0_6 := g6) (hc0_6 := l6) (hr0_8 := g8) (hc0_8 := l8) (hr0_9 := g9) (hc0_9 := l9) (hr0_10 := g10) (hc0_10 := l10) (hr0_12 := g12) (hc0_12 := l12) (h := h)
theorem putBlock_len (b : S113) : (if blockOk b = true then pBlock b else []).length ≤ 2000 := by
  split
  · next hb =>
    obtain ⟨q, t, p3, x, v, p9, _⟩ := blockOk_len hb
    have a0 := pNum_len b.f0
    have a1 := pNum_len b.f1
    have a2 := pNum_len b.f2
    have a6 := pNum_len (b.f6.length : Int)
    have a7 := pNum_len (endN b.f7)
    have a8 := pNum_len (b.f8.length : Int)
    unfold pBlock
    simp only [List.length_append]
    omega
  · simp

/-! ### laws_markByteS: function 74 -/
def laws_markByteS.l0 : Nat → List Int → Int → Int → Option (Int × List Int)
  | 0, _, _, _ => none
  | k + 1, x0, x1, x5 => if x5 < (x0.length : Int) then (if 0 ≤ x5 then (laws_markByteS.l0 k (x0.set (x5 : Int).toNat ((x1) % 256)) (wrap64 (x1 + 1)) (wrap64 (x5 + 1))) else (none)) else (some (x1, x0))
def laws_markByteS.f (k : Nat) (l0 : List Int) (a1 : Int) : Option (Int × List Int) := laws_markByteS.l0 k l0 a1 0
theorem laws_markByteS.mono_l : ∀ k, (∀ y0 y1 y2, LeO (laws_markByteS.l0 k y0 y1 y2) (laws_markByteS.l0 (k + 1) y0 y1 y2))
  | 0 => fun _ _ _ r h => by simp [laws_markByteS.l0] at h
  | k + 1 => by
    have ih0 := laws_markByteS.mono_l k
    · intro y0 y1 y2
      unfold laws_markByteS.l0
      repeat' first
      | (with_reducible exact ih0 _ _ _)
      | (with_reducible exact LeO.refl _)
      | (with_reducible exact LeO.none _)
      | (with_reducible refine LeO.ite ?_ ?_)
      | (with_reducible refine LeO.bind ?_ (fun _ => ?_))
      | exact ih0 _ _ _
      | exact LeO.none _
      | refine LeO.ite ?_ ?_
      | refine LeO.bind ?_ (fun _ => ?_)
theorem laws_markByteS.mono : ∀ a0 a1 k, LeO (laws_markByteS.f k a0 a1) (laws_markByteS.f (k + 1) a0 a1) := by
  intro a0 a1 k
  have ih0 := laws_markByteS.mono_l k
  unfold laws_markByteS.f
  repeat' first
      | (with_reducible exact ih0 _ _ _)
      | (with_reducible exact LeO.refl _)
      | (with_reducible exact LeO.none _)
      | (with_reducible refine LeO.ite ?_ ?_)
      | (with_reducible refine LeO.bind ?_ (fun _ => ?_))
      | exact ih0 _ _ _
      | exact LeO.none _
      | refine LeO.ite ?_ ?_
      | refine LeO.bind ?_ (fun _ => ?_)
set_option maxHeartbeats 8000000 in
set_option maxRecDepth 100000 in
theorem laws_markByteS.calls (k : Nat) (P0_ : Nat → Prop) (u9000_ : Value) (l0 : List Int) (a1 : Int) (r1 : Int) (r2 : List Int) (w0 w : World) (hB : Below w0.heap.size w0 w) (ho0 : Kd.R (Kd.int .u8) 5 w w0.heap.size P0_ u9000_ l0) (h : laws_markByteS.f k l0 a1 = some (r1, r2)) :
    Calls Try.prog 74 #[u9000_, .int .i64 a1] w fun e w' => e = .returned (.int .i64 r1) ∧ Kd.R (Kd.int .u8) 5 w' w0.heap.size (fun k_ => (P0_ k_ ∨ w.heap.size ≤ k_)) u9000_ r2 ∧ Below w0.heap.size w0 w' ∧ Kept w w' (fun k_ => P0_ k_) := by
  have HO0 := Aside0.mk (show Kd.R (Kd.int .u8) 5 w w0.heap.size (fun k_ => (P0_ k_ ∨ w.heap.size ≤ k_)) u9000_ l0 from Kd.R_mono ho0 (fun k_ hk => (.inl hk)))
  have HK := Aside0.mk (Kept.refl w (fun k_ => P0_ k_))
  have HW0 := Aside0.mk hB.size
  have HB := Aside0.mk hB
  clear hB
  have H : (laws_markByteS.l0 k l0 a1 0) = some (r1, r2) := h
  clear h
  have H' := Aside0.mk H
  clear H
  go_enter Try.func74, Try.ntmps74
  go_wp2
  go_loopg [1, 5] k (fun kq v1 v5 w' => ∃ (x0_1 : List Int) (x1_1 : Int) (x5_1 : Int), v1 = .int .i64 x1_1 ∧ v5 = .int .i64 x5_1 ∧ Aside0 (laws_markByteS.l0 kq x0_1 x1_1 x5_1 = some (r1, r2)) ∧ Aside0 (kq ≤ k) ∧ Aside0 (Kd.R (Kd.int .u8) 5 w' w0.heap.size (fun k_ => (P0_ k_ ∨ w.heap.size ≤ k_)) u9000_ x0_1) ∧ Aside0 (Kept w w' (fun k_ => P0_ k_)) ∧ Aside0 (Below w0.heap.size w0 w'))
  case atStart => exact ⟨(l0), (a1), (0), (by first | rfl | (simp; done) | (simp [*]; done)), (by first | rfl | (simp; done) | (simp [*]; done)), H', ⟨Nat.le_refl _⟩, ⟨by (with_reducible repeat (first | apply Kd.R_alloc | apply Kd.R_drewN | apply Kd.R_drew)); exact HO0.out⟩, ⟨by repeat (first | (with_reducible first | exact HK.out | apply Kept.alloc | apply Kept.drewN | apply Kept.drew) | exact HK.out)⟩, ⟨by repeat (first | (with_reducible first | exact HB.out | apply below_alloc | apply pw_below_drewN | apply below_drew1) | exact HB.out)⟩⟩
  case round =>
    clear H'
    try clear p2
    obtain ⟨x0_1, x1_1, x5_1, rfl, rfl, HA, HK1, HO_0, HK, HB⟩ := hrel
    cases gk with
    | zero => exact absurd HA.out (by simp [laws_markByteS.l0])
    | succ k1 =>
      have H := HA.out
      clear HA
      simp only [laws_markByteS.l0] at H
      by_cases c3 : x5_1 < (x0_1.length : Int)
      · rw [if_pos c3] at H
        have c3b0 : decide (x5_1 < (x0_1.length : Int)) = true := decide_eq_true c3
        clear c3
        by_cases c4 : 0 ≤ x5_1
        · rw [if_pos c4] at H
          have c4b0 : decide (0 ≤ x5_1) = true := decide_eq_true c4
          clear c4
          obtain ⟨y1738, hy1738⟩ : ∃ y_ : List Int, y_ = (x0_1.set (x5_1 : Int).toNat ((x1_1) % 256)) := ⟨_, rfl⟩
          replace H : (laws_markByteS.l0 k1 y1738 (wrap64 (x1_1 + 1)) (wrap64 (x5_1 + 1))) = some (r1, r2) := by first | (rw [hy1738]; with_reducible exact H) | (have H2_ := (Option.bind_some _ _).symm.trans H; rw [hy1738]; with_reducible exact H2_) | (have H2_ := (Option.bind_some _ _).symm.trans H; with_reducible exact H2_) | with_reducible exact H | (rw [hy1738]; exact H) | exact H
          have Ny1738 := Aside0.mk hy1738
          clear hy1738
          have H' := Aside0.mk H
          clear H
          obtain ⟨Ao6, co6, eo6⟩ := Kd.R_slice HO_0.out
          subst eo6
          have p5 : 0 ≤ (x5_1 : Int) := of_decide_eq_true (by first | (with_reducible assumption) | assumption)
          have q5 : (x5_1 : Int) < ((x0_1.length : Int) : Int) := of_decide_eq_true (by first | (with_reducible assumption) | assumption)
          obtain ⟨go5, co5, eo5, gb5, gl5, cl5, HG5⟩ := Kd.R_form HO_0.out (by omega)
          (first | cases eo5 | (injection eo5 with ea_ en_ ec_; (first | subst ea_ | (injection ea_ with ea_; subst ea_)); subst ec_; clear en_))
          have GB5 := Aside0.mk gb5
          have GG5 := Aside0.mk HG5
          clear gb5 gl5 HG5
          have HMgo5 := Aside0.mk (show (P0_ go5 ∨ w.heap.size ≤ go5) from (HO_0.out.1 _ rfl))
          obtain ⟨hx5_0, hf5_0⟩ := Kd.R_celln 0 HO_0.out (x5_1 : Int) p5 q5
          replace p5 := eq_true p5
          replace q5 := eq_true q5
          have HP7 := Kd.R_putg HO_0.out (x5_1 : Int) ((x1_1) % 256)
          go_wp2_with (first | ((with_reducible refine gate_store (t := 5) (p := 16) rfl ?_); refine store_event (t := 5) (p := 16) (v := ?vo_w8) (w1 := (wr.setCell ⟨go5, (x5_1 : Int).toNat, none⟩ (.int .u8 ((x1_1) % 256)))) ?hg ?ho ?hn ?hr ?_; (case ho => rfl); (case hg => rfl); (case hn => rfl); (case hr => first | (go_simp; done) | (go_simp; rfl)); intro w8 hw; have hg : wr.grownBy w8 (some go5) := (by rw [hw]; exact HP7.2); have hp_ : Kd.R (Kd.int .u8) 5 w8 w0.heap.size (fun k_ => (P0_ k_ ∨ w.heap.size ≤ k_)) (.slice (some ⟨go5, 0, none⟩) x0_1.length co6) y1738 := (by rw [hw, Ny1738.out]; exact HP7.1); clear HP7; have n0_ := Aside0.mk (hp_); have n1_ := Aside0.mk ((by rw [hw]; exact below_set (HB.out) GB5.out : Below w0.heap.size w0 w8)); have n2_ := Aside0.mk (Kept.of_grown (S := (fun k_ => P0_ k_)) hg (by repeat (first | (with_reducible first | exact HK.out | apply Kept.alloc | apply Kept.drewN | apply Kept.drew) | exact HK.out)) (fun k_ e_ => (HO_0.out.1 k_ e_))); clear HO_0; clear HB; clear HK; have HO_0 := n0_; have HB := n1_; have HK := n2_; clear n0_ n1_ n2_; clear hg hw hp_))
          go_roundg k1
          case measure => have := HK1.out; omega
          case rel => exact ⟨(y1738), (wrap64 (x1_1 + 1)), (wrap64 (x5_1 + 1)), (by first | rfl | (simp; done) | (simp [*]; done)), (by first | rfl | (simp; done) | (simp [*]; done)), H', ⟨by have := HK1.out; omega⟩, ⟨by (with_reducible repeat (first | apply Kd.R_alloc | apply Kd.R_drewN | apply Kd.R_drew)); exact HO_0.out⟩, ⟨by repeat (first | (with_reducible first | exact HK.out | apply Kept.alloc | apply Kept.drewN | apply Kept.drew) | exact HK.out)⟩, ⟨by repeat (first | (with_reducible first | exact HB.out | apply below_alloc | apply pw_below_drewN | apply below_drew1) | exact HB.out)⟩⟩
        · rw [if_neg c4] at H
          exact absurd H (by simp)
      · rw [if_neg c3] at H
        have c3b0 : decide (x5_1 < (x0_1.length : Int)) = false := decide_eq_false c3
        clear c3
        simp only [Option.some.injEq, Prod.mk.injEq] at H
        obtain ⟨rfl, rfl⟩ := H
        obtain ⟨Ao9, co9, eo9⟩ := Kd.R_slice HO_0.out
        subst eo9
        go_wp2
        go_ret
        exact ⟨by first | rfl | (simp [errW_none, errW_some] <;> rfl) | (simp [*, errW_none, errW_some] <;> rfl), by (with_reducible repeat (first | apply Kd.R_alloc | apply Kd.R_drewN | apply Kd.R_drew)); exact HO_0.out, by repeat (first | (with_reducible first | exact HB.out | apply below_alloc | apply pw_below_drewN | apply below_drew1) | exact HB.out), by repeat (first | (with_reducible first | exact HK.out | apply Kept.alloc | apply Kept.drewN | apply Kept.drew) | exact HK.out)⟩

theorem laws_markByteS.held0 {l : List Int} {n : Int} (hl : l.length ≤ 9223372036854775) (h0 : 0 ≤ n) (h1 : n ≤ 1000000000000) : ∃ l', Ev (fun k => laws_markByteS.f k l n) (n + (l.length : Int), l') ∧ l'.length = l.length ∧ ∀ j, j < l.length → l'.getD j 0 = (n + (j : Int)) % 256 := by
  unfold laws_markByteS.f
  have key : ∀ (m i : Nat) (x : List Int), i + m = l.length → x.length = l.length → (∀ j, j < i → x.getD j 0 = (n + (j : Int)) % 256) → ∃ l', Ev (fun k => laws_markByteS.l0 k x (n + (i : Int)) (i : Int)) (n + (l.length : Int), l') ∧ l'.length = l.length ∧ ∀ j, j < l.length → l'.getD j 0 = (n + (j : Int)) % 256 := by
    intro m
    induction m with
    | zero =>
      intro i x hi hx hj
      obtain rfl : i = l.length := by omega
      refine ⟨x, Ev.up ?_, hx, hj⟩
      simp only [laws_markByteS.l0]
      exact Ev.no (by omega) (Ev.now _)
    | succ m ih =>
      intro i x hi hx hj
      obtain ⟨l', e, r1, r2⟩ := ih (i + 1) (x.set i ((n + (i : Int)) % 256)) (by omega) (by rw [List.length_set, hx]) (fun j hj' => by
        by_cases he : j = i
        · subst he
          rw [List.getD_eq_getElem?_getD, List.getElem?_set_self (by omega)]
          rfl
        · rw [List.getD_eq_getElem?_getD, List.getElem?_set_ne (by omega), ← List.getD_eq_getElem?_getD]
          exact hj j (by omega))
      refine ⟨l', Ev.up ?_, r1, r2⟩
      simp only [laws_markByteS.l0]
      rw [unw (x := (i : Int) + 1) (by omega) (by omega), unw (x := n + (i : Int) + 1) (by omega) (by omega)]
      refine Ev.yes (by omega) (Ev.yes (by omega) ?_)
      rw [show n + (i : Int) + 1 = n + ((i + 1 : Nat) : Int) by omega]
      exact e
  have := key l.length 0 l (by omega) rfl (fun j hj => by omega)
  simpa using this

/-! ### laws_heldByteS: function 75 -/
def laws_heldByteS.l0 : Nat → List Int → Int → Int → Option (Int)
  | 0, _, _, _ => none
  | k + 1, x0, x1, x5 => if x5 < (x0.length : Int) then (if 0 ≤ x5 then (if (rd x0 x5) = ((x1) % 256) then (laws_heldByteS.l0 k x0 (wrap64 (x1 + 1)) (wrap64 (x5 + 1))) else (some (-1))) else (none)) else (some x1)
def laws_heldByteS.f (k : Nat) (l0 : List Int) (a1 : Int) : Option (Int) := laws_heldByteS.l0 k l0 a1 0
theorem laws_heldByteS.mono_l : ∀ k, (∀ y0 y1 y2, LeO (laws_heldByteS.l0 k y0 y1 y2) (laws_heldByteS.l0 (k + 1) y0 y1 y2))
  | 0 => fun _ _ _ r h => by simp [laws_heldByteS.l0] at h
  | k + 1 => by
    have ih0 := laws_heldByteS.mono_l k
    · intro y0 y1 y2
      unfold laws_heldByteS.l0
      repeat' first
      | (with_reducible exact ih0 _ _ _)
      | (with_reducible exact LeO.refl _)
      | (with_reducible exact LeO.none _)
      | (with_reducible refine LeO.ite ?_ ?_)
      | (with_reducible refine LeO.bind ?_ (fun _ => ?_))
      | exact ih0 _ _ _
      | exact LeO.none _
      | refine LeO.ite ?_ ?_
      | refine LeO.bind ?_ (fun _ => ?_)
theorem laws_heldByteS.mono : ∀ a0 a1 k, LeO (laws_heldByteS.f k a0 a1) (laws_heldByteS.f (k + 1) a0 a1) := by
  intro a0 a1 k
  have ih0 := laws_heldByteS.mono_l k
  unfold laws_heldByteS.f
  repeat' first
      | (with_reducible exact ih0 _ _ _)
      | (with_reducible exact LeO.refl _)
      | (with_reducible exact LeO.none _)
      | (with_reducible refine LeO.ite ?_ ?_)
      | (with_reducible refine LeO.bind ?_ (fun _ => ?_))
      | exact ih0 _ _ _
      | exact LeO.none _
      | refine LeO.ite ?_ ?_
      | refine LeO.bind ?_ (fun _ => ?_)
set_option maxHeartbeats 8000000 in
set_option maxRecDepth 100000 in
theorem laws_heldByteS.calls (k : Nat) (A0 : Option Addr) (c0 : Nat) (l0 : List Int) (a1 : Int) (r : Int) (w : World) (hr0 : Kd.C (Kd.int .u8) w A0 l0.length l0) (hc0 : l0.length ≤ c0) (h : laws_heldByteS.f k l0 a1 = some r) :
    Calls Try.prog 75 #[.slice A0 l0.length c0, .int .i64 a1] w fun e w' => e = .returned (.int .i64 r) ∧ Drawn0 w w' := by
  have HR0 := Aside0.mk hr0
  have HC0 := Aside0.mk hc0
  clear hr0 hc0
  have H : (laws_heldByteS.l0 k l0 a1 0) = some r := h
  clear h
  have H' := Aside0.mk H
  clear H
  go_enter Try.func75, Try.ntmps75
  go_wp2
  go_loopg [1, 5] k (fun kq v1 v5 w' => ∃ (x1_1 : Int) (x5_1 : Int), v1 = .int .i64 x1_1 ∧ v5 = .int .i64 x5_1 ∧ Aside0 (laws_heldByteS.l0 kq l0 x1_1 x5_1 = some r) ∧ Aside0 (kq ≤ k) ∧ Drawn0 w w')
  case atStart => exact ⟨(a1), (0), (by first | rfl | (simp; done) | (simp [*]; done)), (by first | rfl | (simp; done) | (simp [*]; done)), H', ⟨Nat.le_refl _⟩, by repeat (first | exact Drawn0.refl _ | apply Drawn0.step)⟩
  case round =>
    clear H'
    try clear p2
    obtain ⟨x1_1, x5_1, rfl, rfl, HA, HK1, ⟨m1, rfl⟩⟩ := hrel
    cases gk with
    | zero => exact absurd HA.out (by simp [laws_heldByteS.l0])
    | succ k1 =>
      have H := HA.out
      clear HA
      simp only [laws_heldByteS.l0] at H
      by_cases c3 : x5_1 < (l0.length : Int)
      · rw [if_pos c3] at H
        have c3b0 : decide (x5_1 < (l0.length : Int)) = true := decide_eq_true c3
        clear c3
        by_cases c4 : 0 ≤ x5_1
        · rw [if_pos c4] at H
          have c4b0 : decide (0 ≤ x5_1) = true := decide_eq_true c4
          clear c4
          by_cases c5 : (rd l0 x5_1) = ((x1_1) % 256)
          · rw [if_pos c5] at H
            have c5b0 : ((rd l0 x5_1) == ((x1_1) % 256)) = true := beq_iff_eq.mpr c5
            have c5b1 : ((rd l0 x5_1) != ((x1_1) % 256)) = false := bne_eq_false_iff_eq.mpr c5
            clear c5
            have H' := Aside0.mk H
            clear H
            have p1739 : 0 ≤ (x5_1 : Int) := of_decide_eq_true (by first | (with_reducible assumption) | assumption)
            have q1739 : x5_1 < (l0.length : Int) := of_decide_eq_true (by first | (with_reducible assumption) | assumption)
            obtain ⟨ad1739, e1739, hx1739_0⟩ := Kd.at_int HR0.out x5_1 p1739 q1739
            cases e1739
            replace p1739 := eq_true p1739
            replace q1739 := eq_true q1739
            go_wp2
            go_roundg k1
            case measure => have := HK1.out; omega
            case rel => exact ⟨(wrap64 (x1_1 + 1)), (wrap64 (x5_1 + 1)), (by first | rfl | (simp; done) | (simp [*]; done)), (by first | rfl | (simp; done) | (simp [*]; done)), H', ⟨by have := HK1.out; omega⟩, by repeat (first | exact Drawn0.refl _ | apply Drawn0.step)⟩
          · rw [if_neg c5] at H
            have c5b0 : ((rd l0 x5_1) == ((x1_1) % 256)) = false := beq_eq_false_iff_ne.mpr c5
            have c5b1 : ((rd l0 x5_1) != ((x1_1) % 256)) = true := bne_iff_ne.mpr c5
            obtain rfl := Option.some.inj H
            have p1739 : 0 ≤ (x5_1 : Int) := of_decide_eq_true (by first | (with_reducible assumption) | assumption)
            have q1739 : x5_1 < (l0.length : Int) := of_decide_eq_true (by first | (with_reducible assumption) | assumption)
            obtain ⟨ad1739, e1739, hx1739_0⟩ := Kd.at_int HR0.out x5_1 p1739 q1739
            cases e1739
            replace p1739 := eq_true p1739
            replace q1739 := eq_true q1739
            go_wp2
            go_ret
            exact ⟨by first | rfl | (simp; done) | (simp [*]; done), by repeat (first | exact Drawn0.refl _ | apply Drawn0.step)⟩
        · rw [if_neg c4] at H
          exact absurd H (by simp)
      · rw [if_neg c3] at H
        have c3b0 : decide (x5_1 < (l0.length : Int)) = false := decide_eq_false c3
        clear c3
        obtain rfl := Option.some.inj H
        go_wp2
        go_ret
        exact ⟨by first | rfl | (simp; done) | (simp [*]; done), by repeat (first | exact Drawn0.refl _ | apply Drawn0.step)⟩

theorem laws_heldByteS.of_mark {l : List Int} {n : Int} (hl : l.length ≤ 9223372036854775) (h0 : 0 ≤ n) (h1 : n ≤ 1000000000000) : ∃ l', Ev (fun k => laws_markByteS.f k l n) (n + (l.length : Int), l') ∧ l'.length = l.length ∧ Ev (fun k => laws_heldByteS.f k l' n) (n + (l.length : Int)) := by
  obtain ⟨l', e, hlen, hf⟩ := laws_markByteS.held0 hl h0 h1
  refine ⟨l', e, hlen, ?_⟩
  unfold laws_heldByteS.f
  have key : ∀ (m i : Nat), i + m = l.length → Ev (fun k => laws_heldByteS.l0 k l' (n + (i : Int)) (i : Int)) (n + (l.length : Int)) := by
    intro m
    induction m with
    | zero =>
      intro i hi
      obtain rfl : i = l.length := by omega
      refine Ev.up ?_
      simp only [laws_heldByteS.l0]
      exact Ev.no (by omega) (Ev.now _)
    | succ m ih =>
      intro i hi
      have e := ih (i + 1) (by omega)
      have hv := hf i (by omega)
      have hrd : rd l' (i : Int) = l'.getD i 0 := rfl
      refine Ev.up ?_
      simp only [laws_heldByteS.l0, hrd]
      rw [unw (x := (i : Int) + 1) (by omega) (by omega), unw (x := n + (i : Int) + 1) (by omega) (by omega)]
      refine Ev.yes (by omega) (Ev.yes (by omega) (Ev.yes hv ?_))
      rw [show n + (i : Int) + 1 = n + ((i + 1 : Nat) : Int) by omega]
      exact e
  have := key l.length 0 (by omega)
  simpa using this

/-! ### laws_FnExactPutBlock: printed by compact.py -/
/-! ### laws_FnExactPutBlock: printed by lawgen.py -/
theorem blockFew_PutBlock {z : S109} (h : s109 z) : (c109 z).f4.f2.length ≤ 1048576 ∧ (c109 z).f5.f1.length ≤ 1048576 ∧ (c109 z).f5.f2.length ≤ 1048576 ∧ (c109 z).f6.length ≤ 1048576 ∧ (c109 z).f8.length ≤ 1048576 := by
  obtain ⟨h1, ⟨h2, h3⟩, h4, h5⟩ := h
  refine ⟨h1, h2, h3, ?_, ?_⟩
  · show (z.f6.map c191).length ≤ _
    rw [List.length_map]
    exact h4
  · show (z.f8.map c159).length ≤ _
    rw [List.length_map]
    exact h5
set_option maxHeartbeats 8000000 in
set_option maxRecDepth 100000 in
theorem laws_FnExactPutBlock.does {w : World} (x0 : S109) (hw0 : w109 x0) {cs0 : List Value} (hK0 : k109.K w x0 cs0) :
    Calls Try.prog 12 #[.agg cs0.toArray] w fun e w' => e = .returned (.bool true) ∧ Below w.heap.size w w' := by
  have hm : maxLen = 9223372036854775807 := rfl
  have HK0 := Aside0.mk hK0
  obtain ⟨A0_6, a0_6, A0_8, a0_8, A0_9, a0_9, A0_10, a0_10, A0_12, a0_12, rfl, l0_6, g0_6, l0_8, g0_8, l0_9, g0_9, l0_10, g0_10, l0_12, g0_12⟩ := k109_open hK0
  have n0 : 0 ≤ (hold109 x0) := (hold109.nn x0)
  have D0 := Aside0.mk (fun (W : World) (hb : Below w.heap.size w W) => laws_szBlock.does (w := W) hw0 (left := 1048576) (by omega) (by omega) (k109.K_below hb HK0.out))
  obtain ⟨m0, hm0⟩ : ∃ m, szR (hold109 x0) 1048576 = m := ⟨_, rfl⟩
  rw [hm0] at D0
  by_cases d0 : m0 < 0
  · have d0' : decide (m0 < 0) = true := decide_eq_true d0
    clear hw0 n0 hK0 l0_6 g0_6 l0_8 g0_8 l0_9 g0_9 l0_10 g0_10 l0_12 g0_12 d0 hm0
    go_enter Try.func12, Try.ntmps12
    have HB := Aside0.mk (Below.refl w.heap.size w)
    go_wp2_with fail
    refine (D0.out _ (Law.atop (Below.refl _ _))).mono ?_
    rintro _ W1 ⟨rfl, hb⟩
    have RB0 := Aside0.mk (Law.box hb)
    have hrb := Law.lt hb
    replace hb := Law.boxed hb
    replace HB := Aside0.mk hb
    have zW1 := hb.size
    clear hb
    go_wp2
    go_ret
    exact ⟨rfl, HB.out⟩
  have d0' : decide (m0 < 0) = false := decide_eq_false d0
  have o0 : (hold109 x0) ≤ 1048576 := by have := mt (szR_lt (h := (hold109 x0)) (left := 1048576) (by omega)).2 (by rw [hm0]; exact d0); omega
  have e0 : m0 = 1048576 - (hold109 x0) := by rw [← hm0]; exact szR_ge o0
  have hs0 : s109 x0 := small109 (by omega)
  have T0 := Aside0.mk (fun (W : World) (hb : Below w.heap.size w W) => laws_toBlock.make (w := W) hs0 (k109.K_below hb HK0.out))
  have hf := blockFit_of hw0
  have hfew := blockFew_PutBlock hs0
  have hVl := putBlock_len (c109 x0)
  have SP := Aside0.mk (fun (W : World) ds (hK : k113.K W (c109 x0) ds) => spec_PutBlock.does hf hK)
  have IM := Aside0.mk (fun (W : World) ds (hK : k113.K W (c109 x0) ds) => impl_PutBlock.does hf hK)
  have MK := Aside0.mk (fun (a W : World) ok ds (hM : k113.M W a.heap.size ok (c109 x0) ds) (hb : Below a.heap.size a W) => laws_markBlock.keep hM hb hfew (n := 1) (by decide) (by decide))
  have EA0 := Aside0.mk (fun (W : World) ds ds' (hK : k113.K W (c109 x0) ds) (hL : k113.K W (c109 x0) ds') => laws_eqBlock.same (long109 hs0) hK hL)
  clear hw0 n0 hK0 l0_6 g0_6 l0_8 g0_8 l0_9 g0_9 l0_10 g0_10 l0_12 g0_12 d0 hm0 o0 e0 hs0 hf hfew
  generalize (if blockOk (c109 x0) = true then pBlock (c109 x0) else []) = V at *
  generalize c109 x0 = Y0 at *
  obtain ⟨V', hmv, hV', hhv⟩ := laws_heldByteS.of_mark (l := V) (n := 1) (by omega) (by decide) (by decide)
  obtain ⟨km, hmv⟩ := hmv.rounds
  obtain ⟨kh, hhv⟩ := hhv.rounds
  have EQ := Aside0.mk (fun (W : World) A d A' d' (h1 : V.length ≤ d) (h2 : V.length ≤ d') (hr : Kd.C (Kd.int .u8) W A V.length V) (hr' : Kd.C (Kd.int .u8) W A' V.length V) => laws_eqByteS.same (show V.length ≤ 9223372036854775807 by omega) hr h1 hr' h2)
  have MV := Aside0.mk (fun (P : Nat → Prop) (v : Value) (W0 W : World) (hB : Below W0.heap.size W0 W) (ho : Kd.R (Kd.int .u8) 5 W W0.heap.size P v V) => laws_markByteS.calls km P v _ 1 _ V' W0 W hB ho hmv)
  have HV := Aside0.mk (fun (W : World) A d (h1 : V'.length ≤ d) (hr : Kd.C (Kd.int .u8) W A V'.length V') => (laws_heldByteS.calls kh A d V' 1 _ W hr h1 hhv).mono fun e w' h => (⟨h.1, h.2.below⟩ : e = _ ∧ Below W.heap.size W w'))
  rw [hV'] at HV
  clear hmv hhv
  generalize hM : 1 + (V.length : Int) = M at *
  have hM0 : decide (M < 0) = false := decide_eq_false (by omega)
  have hMM : (M != M) = false := by simp
  clear hM hVl
  go_enter Try.func12, Try.ntmps12
  have HB := Aside0.mk (Below.refl w.heap.size w)
  go_wp2_with fail
  refine (D0.out _ (Law.atop (Below.refl _ _))).mono ?_
  rintro _ W2 ⟨rfl, hb⟩
  have RB0 := Aside0.mk (Law.box hb)
  have hrb := Law.lt hb
  replace hb := Law.boxed hb
  replace HB := Aside0.mk hb
  have zW2 := hb.size
  clear hb
  obtain ⟨a0_, a1_, a2_, a3_, a4_, a5_, a6_, a7_, a8_, a9_, a10_, a11_, a12_, a13_⟩ := cells14 RB0.out
  go_wp2_with fail
  refine (T0.out _ HB.out).mono ?_
  rintro _ W3 ⟨ds_a, rfl, hM_a, hb⟩
  have zW3 := hb.size
  replace RB0 := Aside0.mk (blk_below RB0.out hb)
  replace HB := Aside0.mk (Law.then_ HB.out hb)
  clear hb
  clear a0_ a1_ a2_ a3_ a4_ a5_ a6_ a7_ a8_ a9_ a10_ a11_ a12_ a13_
  go_wp2_with fail
  refine (SP.out W3 ds_a (k113.K_of_M hM_a)).mono ?_
  rintro _ W4 ⟨v_w, rfl, hR_w, hb⟩
  obtain ⟨A_w, c_w, rfl⟩ := Kd.R_slice hR_w
  have WR := Aside0.mk (Kd.R_mono (ok' := fun k => k < W4.heap.size) (Kd.R_lower (base' := 0) (Kd.R_bound hR_w) (Nat.zero_le _)) (fun k hk => hk.2.2.1))
  have zW4 := hb.size
  replace RB0 := Aside0.mk (blk_below RB0.out hb)
  replace HB := Aside0.mk (Law.then_ HB.out hb)
  clear hb
  clear hR_w hM_a SP
  have HB0 := Aside0.mk (Below.refl W4.heap.size W4)
  have HBat := HB
  obtain ⟨a0_, a1_, a2_, a3_, a4_, a5_, a6_, a7_, a8_, a9_, a10_, a11_, a12_, a13_⟩ := cells14 RB0.out
  go_wp2_with fail
  refine (T0.out _ HB.out).mono ?_
  rintro _ W5 ⟨ds_x, rfl, hM_x, hb⟩
  have zW5 := hb.size
  replace RB0 := Aside0.mk (blk_below RB0.out hb)
  replace HB := Aside0.mk (Law.then_ HB.out hb)
  replace WR := Aside0.mk (Kd.R_below WR.out hb)
  replace HB0 := Aside0.mk (Law.then_ HB0.out hb)
  clear hb
  clear a0_ a1_ a2_ a3_ a4_ a5_ a6_ a7_ a8_ a9_ a10_ a11_ a12_ a13_
  have HX := Aside0.mk (k113.M_mono (ok' := fun k => W4.heap.size ≤ k ∧ k < W5.heap.size) (fun k hk => ⟨hk.2.1, hk.2.2.1⟩) (k113.M_bound hM_x))
  obtain ⟨vx6, vx8, vx9, vx10, vx12, rfl, hRx6, hRx8, hRx9, hRx10, hRx12⟩ := k113_openM hM_x
  obtain ⟨Bx6, dx6, rfl⟩ := Kd.R_slice hRx6
  obtain ⟨Bx8, dx8, rfl⟩ := Kd.R_slice hRx8
  obtain ⟨Bx9, dx9, rfl⟩ := Kd.R_slice hRx9
  obtain ⟨Bx10, dx10, rfl⟩ := Kd.R_slice hRx10
  obtain ⟨Bx12, dx12, rfl⟩ := Kd.R_slice hRx12
  clear hRx6 hRx8 hRx9 hRx10 hRx12
  clear hM_x
  go_wp2_with fail
  refine (IM.out (W5.alloc _) _ (k113.K_below (Law.atop (Below.refl _ _)) (k113.K_of_M HX.out))).mono ?_
  rintro _ W6 ⟨v_g, rfl, hR_g, hb⟩
  have BX := Aside0.mk (Law.box hb)
  have lt_BX := Law.lt hb
  obtain ⟨A_g, c_g, rfl⟩ := Kd.R_slice hR_g
  have G := Aside0.mk (Kd.R_mono (ok' := fun k => W5.heap.size < k ∧ k < W6.heap.size) (Kd.R_lower (base' := w.heap.size) (Kd.R_bound hR_g) (by have := HB.out.size; rw [Law.size_box]; omega)) (fun k hk => ⟨by have h := hk.2.1; rw [Law.size_box] at h; omega, hk.2.2.1⟩))
  replace hb := Law.boxed hb
  have zW6 := hb.size
  replace RB0 := Aside0.mk (blk_below RB0.out hb)
  replace HB := Aside0.mk (Law.then_ HB.out hb)
  replace WR := Aside0.mk (Kd.R_below WR.out hb)
  replace HB0 := Aside0.mk (Law.then_ HB0.out hb)
  replace HX := Aside0.mk (Kd.M_below HX.out hb)
  clear hb
  clear hR_g
  go_wp2_with fail
  refine (EQ.out W6 _ _ _ _ (Kd.R_reads' G.out).2.1 (Kd.R_reads' WR.out).2.1 (Kd.R_reads' G.out).2.2 (Kd.R_reads' WR.out).2.2).mono ?_
  rintro _ W7 ⟨rfl, hb⟩
  have zW7 := hb.size
  replace RB0 := Aside0.mk (blk_below RB0.out hb)
  replace HB := Aside0.mk (Law.then_ HB.out hb)
  replace WR := Aside0.mk (Kd.R_below WR.out hb)
  replace HB0 := Aside0.mk (Law.then_ HB0.out hb)
  replace HX := Aside0.mk (Kd.M_below HX.out hb)
  replace BX := Aside0.mk (blk_below BX.out hb)
  replace G := Aside0.mk (Kd.R_below G.out hb)
  clear hb
  go_wp2_with fail
  have HVL : BW.Lasts (VL [IsV (.agg #[.int .i64 Y0.f0, .int .i64 Y0.f1, .int .i64 Y0.f2, .string Y0.f3, .int .i64 Y0.f4.f0, .int .i64 Y0.f4.f1, .slice Bx6 Y0.f4.f2.length dx6, .int .i64 Y0.f5.f0, .slice Bx8 Y0.f5.f1.length dx8, .slice Bx9 Y0.f5.f2.length dx9, .slice Bx10 Y0.f6.length dx10, .bool Y0.f7, .slice Bx12 Y0.f8.length dx12, .string Y0.f9]), IsV (.agg #[.int .i64 x0.f0, .int .i64 x0.f1, .int .i64 x0.f2, .string x0.f3, .int .i64 x0.f4.f0, .int .i64 x0.f4.f1, .slice A0_6 x0.f4.f2.length a0_6, .int .i64 x0.f5.f0, .slice A0_8 x0.f5.f1.length a0_8, .slice A0_9 x0.f5.f2.length a0_9, .slice A0_10 x0.f6.length a0_10, .bool x0.f7, .slice A0_12 x0.f8.length a0_12, .string x0.f9]), AggV k113 Y0, IsV (.bool true), IsV (.bool false)]) := lasts_cons (last_is _) (lasts_cons (last_is _) (lasts_cons (last_agg _ _) (lasts_cons (last_is _) (lasts_cons (last_is _) lasts_nil))))
  refine BW.loose (n := 5) (by kernel_rfl) rfl _ HVL [(0, 27), (1, 28), (2, 29), (3, 30), (4, 31)] (by kernel_rfl) (by kernel_rfl) (by kernel_rfl) (by rfl) ?_ ?_
  · show ∀ i ∈ [0, 1, 2, 3, 4], _
    refine steps_cons ?_ (steps_cons ?_ (steps_cons ?_ (steps_cons ?_ (steps_cons ?_ steps_nil))))
    · exact BW.loose_row HVL (k := 0) rfl rfl rfl rfl rfl 113 rfl (by kernel_rfl) rfl BX.out rfl rfl rfl (fun e => rfl)
    · exact BW.loose_row HVL (k := 1) rfl rfl rfl rfl rfl 109 rfl (by kernel_rfl) rfl RB0.out rfl rfl rfl (fun e => rfl)
    · refine BW.loose_call HVL (k := 2) rfl rfl rfl rfl rfl rfl rfl rfl rfl (fun b e vs hdep hv => ?_)
      have h0 : vs 1 = _ := hv 1 (hdep 1 (by kernel_rfl))
      simp only [List.map_toArray, List.map_cons, List.map_nil]
      rw [eval_on (k := 1) (j := 1) rfl (by kernel_rfl) (hdep 1 (by kernel_rfl)) (by kernel_rfl), h0]
      exact (T0.out e.now (Law.then_ HB.out e.ok)).mono fun r W ⟨ds, hr, hM, hb⟩ => ⟨_, hr, ⟨ds, rfl, k113.K_of_M hM⟩, hb⟩
    · refine BW.loose_call HVL (k := 3) rfl rfl rfl rfl rfl rfl rfl rfl rfl (fun b e vs hdep hv => ?_)
      have h0 : vs 0 = _ := hv 0 (hdep 0 (by kernel_rfl))
      obtain ⟨ds, h2, hk2⟩ : AggV _ _ _ _ := hv 2 (hdep 2 (by kernel_rfl))
      simp only [List.map_toArray, List.map_cons, List.map_nil]
      rw [eval_on (k := 0) (j := 0) rfl (by kernel_rfl) (hdep 0 (by kernel_rfl)) (by kernel_rfl), h0, eval_on (k := 2) (j := 2) rfl (by kernel_rfl) (hdep 2 (by kernel_rfl)) (by kernel_rfl), h2]
      exact (EA0.out _ _ _ (k113.K_below e.ok (k113.K_of_M HX.out)) hk2).mono fun r W ⟨hr, hb⟩ => ⟨_, hr, rfl, hb⟩
    · exact BW.loose_not HVL (k := 4) rfl rfl rfl rfl rfl rfl (m := 3) (j := 3) rfl (by kernel_rfl) (by kernel_rfl) (by kernel_rfl) (c := true) (fun W v h => h) (fun W => rfl)
  intro e vs hv
  have h0 : vs 0 = _ := hv 0 (by decide)
  have h1 : vs 1 = _ := hv 1 (by decide)
  have h3 : vs 3 = _ := hv 3 (by decide)
  have h4 : vs 4 = _ := hv 4 (by decide)
  simp only [fillL, List.map_cons, List.map_nil, putSel, if_true, Act.put, List.setIfInBounds_toArray, List.set_cons_zero, List.set_cons_succ]
  rw [h0, h1, h3, h4]
  generalize vs 2 = v_507
  obtain ⟨W8, hW, hb⟩ : ∃ W', e.now = W' ∧ Below W7.heap.size W7 W' := ⟨_, rfl, e.ok⟩
  rw [hW]
  clear hv h0 h1 h3 h4 HVL hW vs
  clear e
  have zW8 := hb.size
  replace RB0 := Aside0.mk (blk_below RB0.out hb)
  replace HB := Aside0.mk (Law.then_ HB.out hb)
  replace WR := Aside0.mk (Kd.R_below WR.out hb)
  replace HB0 := Aside0.mk (Law.then_ HB0.out hb)
  replace HX := Aside0.mk (Kd.M_below HX.out hb)
  replace BX := Aside0.mk (blk_below BX.out hb)
  replace G := Aside0.mk (Kd.R_below G.out hb)
  clear hb
  obtain ⟨a0_, a1_, a2_, a3_, a4_, a5_, a6_, a7_, a8_, a9_, a10_, a11_, a12_, a13_⟩ := cells14 BX.out
  go_wp2_with fail
  refine (MK.out W4 W8 _ _ HX.out HB0.out).mono ?_
  rintro _ W9 ⟨m, rfl, hm0, _, hb, hk⟩
  have hm1 : decide (m < 0) = false := decide_eq_false (by omega)
  replace HB := Aside0.mk (Law.then_ HBat.out hb)
  replace WR := Aside0.mk (Kd.R_kept WR.out hk (fun k (h1 : k < W4.heap.size) h2 => by have h3 := h2.1; omega))
  replace BX := Aside0.mk (blk_kept BX.out hk (fun h2 => by have h3 := h2.2; omega))
  replace RB0 := Aside0.mk (blk_kept RB0.out hk (fun h2 => by have h3 := h2.1; have h4 := hrb; omega))
  replace G := Aside0.mk (Kd.R_kept G.out hk (fun k h1 h2 => by have h3 := h1.1; have h4 := h2.2; omega))
  have zW9 := hk.1
  clear hb hk hm0 MK HX HB0
  clear a0_ a1_ a2_ a3_ a4_ a5_ a6_ a7_ a8_ a9_ a10_ a11_ a12_ a13_
  go_wp2_with fail
  refine (EQ.out W9 _ _ _ _ (Kd.R_reads' G.out).2.1 (Kd.R_reads' WR.out).2.1 (Kd.R_reads' G.out).2.2 (Kd.R_reads' WR.out).2.2).mono ?_
  rintro _ W10 ⟨rfl, hb⟩
  have zW10 := hb.size
  replace RB0 := Aside0.mk (blk_below RB0.out hb)
  replace HB := Aside0.mk (Law.then_ HB.out hb)
  replace WR := Aside0.mk (Kd.R_below WR.out hb)
  replace G := Aside0.mk (Kd.R_below G.out hb)
  clear hb
  go_wp2_with fail
  refine (MV.out _ _ w W10 HB.out G.out).mono ?_
  rintro _ W11 ⟨rfl, hR, hb, hk⟩
  replace HB := Aside0.mk hb
  replace WR := Aside0.mk (Kd.R_kept WR.out hk (fun k (h1 : k < W4.heap.size) h2 => by have h3 := h2.1; omega))
  replace RB0 := Aside0.mk (blk_kept RB0.out hk (fun h2 => by have h3 := h2.1; have h4 := hrb; omega))
  have G' := Kd.R_reads' hR
  rw [hV'] at G'
  have HG := Aside0.mk G'
  clear hb hk hR MV G G'
  have HV2 := Aside0.mk (fun (W : World) (hb : Below W11.heap.size W11 W) => HV.out W A_g c_g HG.out.2.1 (Kd.C_below HG.out.2.2 hb))
  clear HV HG
  have HBm := Aside0.mk (Below.refl W11.heap.size W11)
  go_wp2_with fail
  refine (HV2.out W11 HBm.out).mono ?_
  rintro _ W12 ⟨rfl, hb⟩
  have zW12 := hb.size
  replace RB0 := Aside0.mk (blk_below RB0.out hb)
  replace HB := Aside0.mk (Law.then_ HB.out hb)
  replace WR := Aside0.mk (Kd.R_below WR.out hb)
  replace HBm := Aside0.mk (Law.then_ HBm.out hb)
  clear hb
  obtain ⟨a0_, a1_, a2_, a3_, a4_, a5_, a6_, a7_, a8_, a9_, a10_, a11_, a12_, a13_⟩ := cells14 RB0.out
  go_wp2_with fail
  refine (T0.out _ HB.out).mono ?_
  rintro _ W13 ⟨ds_b, rfl, hM_b, hb⟩
  have zW13 := hb.size
  replace RB0 := Aside0.mk (blk_below RB0.out hb)
  replace HB := Aside0.mk (Law.then_ HB.out hb)
  replace WR := Aside0.mk (Kd.R_below WR.out hb)
  replace HBm := Aside0.mk (Law.then_ HBm.out hb)
  clear hb
  clear a0_ a1_ a2_ a3_ a4_ a5_ a6_ a7_ a8_ a9_ a10_ a11_ a12_ a13_
  go_wp2_with fail
  refine (IM.out W13 ds_b (k113.K_of_M hM_b)).mono ?_
  rintro _ W14 ⟨v_h, rfl, hR_h, hb⟩
  obtain ⟨A_h, c_h, rfl⟩ := Kd.R_slice hR_h
  have zW14 := hb.size
  replace RB0 := Aside0.mk (blk_below RB0.out hb)
  replace HB := Aside0.mk (Law.then_ HB.out hb)
  replace WR := Aside0.mk (Kd.R_below WR.out hb)
  replace HBm := Aside0.mk (Law.then_ HBm.out hb)
  clear hb
  have H' := Kd.R_reads' hR_h
  clear hR_h hM_b
  go_wp2_with fail
  refine (EQ.out W14 _ _ _ _ H'.2.1 (Kd.R_reads' WR.out).2.1 H'.2.2 (Kd.R_reads' WR.out).2.2).mono ?_
  rintro _ W15 ⟨rfl, hb⟩
  have zW15 := hb.size
  replace RB0 := Aside0.mk (blk_below RB0.out hb)
  replace HB := Aside0.mk (Law.then_ HB.out hb)
  replace WR := Aside0.mk (Kd.R_below WR.out hb)
  replace HBm := Aside0.mk (Law.then_ HBm.out hb)
  clear hb
  clear H'
  go_wp2_with fail
  refine (HV2.out W15 HBm.out).mono ?_
  rintro _ W16 ⟨rfl, hb⟩
  have zW16 := hb.size
  replace RB0 := Aside0.mk (blk_below RB0.out hb)
  replace HB := Aside0.mk (Law.then_ HB.out hb)
  replace WR := Aside0.mk (Kd.R_below WR.out hb)
  replace HBm := Aside0.mk (Law.then_ HBm.out hb)
  clear hb
  go_wp2
  go_ret
  exact ⟨rfl, HB.out⟩

end Go.Proofs.Ytadkhkpchankjaa.F
