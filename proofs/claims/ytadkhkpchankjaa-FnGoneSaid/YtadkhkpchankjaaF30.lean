/-
Functions of the program, what they come to, and that Go comes to just that: spec_DrawGatherTc, impl_HighOf.
Conditions: those that each theorem names.
-/
import Derived.Test.YtadkhkpchankjaaFAbs
import Derived.Test.YtadkhkpchankjaaF1
import Derived.Test.YtadkhkpchankjaaF12
import Derived.Test.YtadkhkpchankjaaF21
import Derived.Test.YtadkhkpchankjaaWMore
set_option linter.unusedVariables false
set_option linter.unusedSimpArgs false
namespace Go.Proofs.Ytadkhkpchankjaa.F
open Go.RowKit Go.Proofs.YtadkhkpchankjaaW.PrintWords Go.Proofs.YtadkhkpchankjaaW.PrintLast Go.Proofs.Ytadkhkpchankjaa.Base Go.Proofs.Ytadkhkpchankjaa.BW
open Go.Proofs.YtadkhkpchankjaaW.PrintMore
attribute [local go_sem] max2_int min2_int max_two min_two max_three min_three max_four min_four   -- for this text's walks alone

/-! ### spec_DrawGatherTc: function 33 -/
mutual
def spec_DrawGatherTc.l0 : Nat → List (S64) → Int → List Int → Int → Int → Option ((List (S138)) × (List (S64)) × Int)
  | 0, _, _, _, _, _ => none
  | k + 1, x6, x7, x649000, x649001, x649002 => if x7 > 0 then ((spec_l1Below.f x649000 x649001 x649002 2).bind fun bt655 => ((spec_l1Int.f x649000 bt655.2.1 bt655.2.2 (([0, 1, 0, 1, 0, 1, 2, (-1)] : List Int))).bind fun bt661 => ((spec_l1Name.f x649000 bt661.2.1 bt661.2.2).bind fun bt664 => (if x6.length < 4398046511104 then (spec_DrawGatherTc.l0 k (x6 ++ [(⟨wrap64 (2 + bt655.1), bt661.1, bt664.1⟩ : S64)]) (wrap64 (x7 - 1)) x649000 bt664.2.1 bt664.2.2) else (none))))) else ((spec_l7Any.f k x649000 x649001 x649002).bind fun bt670 => ((spec_l1Once.f x649000 bt670.2.1 bt670.2.2 4).bind fun bt675 => (if bt675.1 = true then ((spec_l1Int.f x649000 bt675.2.1 bt675.2.2 (([2, 2, 3, 0] : List Int))).bind fun bt681 => (some (bt670.1, x6, bt681.1))) else (spec_DrawGatherTc.l1 k x6 bt670.1 0 x649000 bt675.2.1 bt675.2.2))))
def spec_DrawGatherTc.l1 : Nat → List (S64) → List (S138) → Int → List Int → Int → Int → Option ((List (S138)) × (List (S64)) × Int)
  | 0, _, _, _, _, _, _ => none
  | k + 1, x6, x8, x9, x649000, x649001, x649002 => if x9 < (x8.length : Int) then ((spec_l1Once.f x649000 x649001 x649002 8).bind fun bt690 => (if bt690.1 = true then (spec_DrawGatherTc.l1 k x6 x8 (wrap64 (x9 + 1)) x649000 bt690.2.1 bt690.2.2) else ((spec_l1Below.f x649000 bt690.2.1 bt690.2.2 2).bind fun bt693 => (if 0 ≤ x9 then (if x6.length < 4398046511104 then (spec_DrawGatherTc.l1 k (x6 ++ [(⟨2, bt693.1, (rd_T138 x8 x9).f0⟩ : S64)]) x8 (wrap64 (x9 + 1)) x649000 bt693.2.1 bt693.2.2) else (none)) else (none))))) else ((spec_l1Int.f x649000 x649001 x649002 (([2, 2, 2, 2, 3] : List Int))).bind fun bt687 => (some (x8, x6, bt687.1)))
end
def spec_DrawGatherTc.f (k : Nat) (l0 : List Int) : Option ((List (S138)) × (List (S64)) × Int) := (spec_l1New.f k l0).bind fun bt645 => ((spec_l1Below.f bt645.1 bt645.2.1 bt645.2.2 12).bind fun bt652 => (spec_DrawGatherTc.l0 k (([] : List (S64))) bt652.1 bt645.1 bt652.2.1 bt652.2.2))
theorem spec_DrawGatherTc.mono_l : ∀ k, (∀ y0 y1 y2 y3 y4, LeO (spec_DrawGatherTc.l0 k y0 y1 y2 y3 y4) (spec_DrawGatherTc.l0 (k + 1) y0 y1 y2 y3 y4)) ∧ (∀ y0 y1 y2 y3 y4 y5, LeO (spec_DrawGatherTc.l1 k y0 y1 y2 y3 y4 y5) (spec_DrawGatherTc.l1 (k + 1) y0 y1 y2 y3 y4 y5))
  | 0 => ⟨fun _ _ _ _ _ r h => by simp [spec_DrawGatherTc.l0] at h, fun _ _ _ _ _ _ r h => by simp [spec_DrawGatherTc.l1] at h⟩
  | k + 1 => by
    obtain ⟨ih0, ih1⟩ := spec_DrawGatherTc.mono_l k
    refine ⟨?_, ?_⟩
    · intro y0 y1 y2 y3 y4
      unfold spec_DrawGatherTc.l0
      repeat' first
      | (with_reducible exact ih0 _ _ _ _ _)
      | (with_reducible exact ih1 _ _ _ _ _ _)
      | (with_reducible exact spec_l1New.mono _ _)
      | (with_reducible exact spec_l7Any.mono _ _ _ _)
      | (with_reducible exact LeO.refl _)
      | (with_reducible exact LeO.none _)
      | (with_reducible refine LeO.ite ?_ ?_)
      | (with_reducible refine LeO.bind ?_ (fun _ => ?_))
      | exact ih0 _ _ _ _ _
      | exact ih1 _ _ _ _ _ _
      | exact spec_l1New.mono _ _
      | exact spec_l7Any.mono _ _ _ _
      | exact LeO.none _
      | refine LeO.ite ?_ ?_
      | refine LeO.bind ?_ (fun _ => ?_)
    · intro y0 y1 y2 y3 y4 y5
      unfold spec_DrawGatherTc.l1
      repeat' first
      | (with_reducible exact ih0 _ _ _ _ _)
      | (with_reducible exact ih1 _ _ _ _ _ _)
      | (with_reducible exact spec_l1New.mono _ _)
      | (with_reducible exact spec_l7Any.mono _ _ _ _)
      | (with_reducible exact LeO.refl _)
      | (with_reducible exact LeO.none _)
      | (with_reducible refine LeO.ite ?_ ?_)
      | (with_reducible refine LeO.bind ?_ (fun _ => ?_))
      | exact ih0 _ _ _ _ _
      | exact ih1 _ _ _ _ _ _
      | exact spec_l1New.mono _ _
      | exact spec_l7Any.mono _ _ _ _
      | exact LeO.none _
      | refine LeO.ite ?_ ?_
      | refine LeO.bind ?_ (fun _ => ?_)
theorem spec_DrawGatherTc.mono : ∀ a0 k, LeO (spec_DrawGatherTc.f k a0) (spec_DrawGatherTc.f (k + 1) a0) := by
  intro a0 k
  obtain ⟨ih0, ih1⟩ := spec_DrawGatherTc.mono_l k
  unfold spec_DrawGatherTc.f
  repeat' first
      | (with_reducible exact ih0 _ _ _ _ _)
      | (with_reducible exact ih1 _ _ _ _ _ _)
      | (with_reducible exact spec_l1New.mono _ _)
      | (with_reducible exact spec_l7Any.mono _ _ _ _)
      | (with_reducible exact LeO.refl _)
      | (with_reducible exact LeO.none _)
      | (with_reducible refine LeO.ite ?_ ?_)
      | (with_reducible refine LeO.bind ?_ (fun _ => ?_))
      | exact ih0 _ _ _ _ _
      | exact ih1 _ _ _ _ _ _
      | exact spec_l1New.mono _ _
      | exact spec_l7Any.mono _ _ _ _
      | exact LeO.none _
      | refine LeO.ite ?_ ?_
      | refine LeO.bind ?_ (fun _ => ?_)
def spec_DrawGatherTc.T13 : Bool × List (List Nat × List Nat) := (true, [([], []), ([], []), ([1], [1]), ([], []), ([], []), ([3, 4], [3, 4]), ([5], [5]), ([6], [6]), ([2, 7], [2, 7]), ([8], [8]), ([0, 9, 2], [0, 9]), ([10, 10, 0, 1, 2, 3, 4, 5, 6, 7, 8, 9, 10], [0, 10])])
def spec_DrawGatherTc.B13 : List Nat := [0, 0, 2, 0, 0, 24, 56, 120, 254, 510, 1023, 2047]
theorem spec_DrawGatherTc.tab13 : rtab .any (opsOf Try.f33 13) = spec_DrawGatherTc.T13 := by kernel_rfl
theorem spec_DrawGatherTc.bits13 : waitsOk spec_DrawGatherTc.T13.2 spec_DrawGatherTc.B13 = true := by kernel_rfl
set_option maxHeartbeats 8000000 in
set_option maxRecDepth 100000 in
theorem spec_DrawGatherTc.calls (k : Nat) (A0 : Option Addr) (c0 : Nat) (l0 : List Int) (r1 : List (S138)) (r2 : List (S64)) (r3 : Int) (w : World) (hr0 : Kd.C (Kd.int .u8) w A0 l0.length l0) (hc0 : l0.length ≤ c0) (h : spec_DrawGatherTc.f k l0 = some (r1, r2, r3)) :
    Calls Try.prog 33 #[.slice A0 l0.length c0] w fun e w' => ∃ v0_ v1_ : Value, e = .returned (.tuple #[v0_, v1_, .int .i64 r3]) ∧ Kd.R k138 138 w' w.heap.size (fun _ => True) v0_ r1 ∧ Kd.R k64 64 w' w.heap.size (fun _ => True) v1_ r2 ∧ Below w.heap.size w w' := by
  have hu64 := Try.underlying64
  have HR0 := Aside0.mk hr0
  have HC0 := Aside0.mk hc0
  clear hr0 hc0
  have HB := Aside0.mk (Below.refl w.heap.size w)
  have H : ((spec_l1New.f k l0).bind fun bt645 => ((spec_l1Below.f bt645.1 bt645.2.1 bt645.2.2 12).bind fun bt652 => (spec_DrawGatherTc.l0 k (([] : List (S64))) bt652.1 bt645.1 bt652.2.1 bt652.2.2))) = some (r1, r2, r3) := h
  clear h
  replace H := Option.bind_eq_some_iff.mp H
  obtain ⟨⟨t645, t646, t647⟩, A20, H⟩ := H
  replace H : ((spec_l1Below.f t645 t646 t647 12).bind fun bt652 => (spec_DrawGatherTc.l0 k (([] : List (S64))) bt652.1 t645 bt652.2.1 bt652.2.2)) = some (r1, r2, r3) := H
  have A2 := Aside0.mk A20
  clear A20
  obtain ⟨y649, hy649⟩ : ∃ y_ : List (S64), y_ = (([] : List (S64))) := ⟨_, rfl⟩
  replace H : ((spec_l1Below.f t645 t646 t647 12).bind fun bt652 => (spec_DrawGatherTc.l0 k y649 bt652.1 t645 bt652.2.1 bt652.2.2)) = some (r1, r2, r3) := by first | (rw [hy649]; with_reducible exact H) | (have H2_ := (Option.bind_some _ _).symm.trans H; rw [hy649]; with_reducible exact H2_) | (have H2_ := (Option.bind_some _ _).symm.trans H; with_reducible exact H2_) | with_reducible exact H | (rw [hy649]; exact H) | exact H
  have Ny649 := Aside0.mk hy649
  clear hy649
  replace H := Option.bind_eq_some_iff.mp H
  obtain ⟨⟨t652, t653, t654⟩, A30, H⟩ := H
  replace H : (spec_DrawGatherTc.l0 k y649 t652 t645 t653 t654) = some (r1, r2, r3) := H
  have A3 := Aside0.mk A30
  clear A30
  have H' := Aside0.mk H
  clear H
  go_enter Try.func33, Try.ntmps33
  go_wp2_with (first | ((with_reducible refine gate_callee (f := 90) rfl ?_); refine goesL_ (some 11) rfl rfl Try.func90 (by kernel_rfl) rfl #[.slice A0 l0.length c0] rfl (by (try simp only [List.map_toArray, List.map_cons, List.map_nil]); first | done | rfl | (simp only [List.length_drop, List.length_take]; rfl)) ?_; (with_reducible refine (spec_l1New.calls k _ _ l0 t645 t646 t647 w _ ?side1 ?side2 ?side3 A2.out).mono ?_); (case side1 => repeat (first | (with_reducible first | exact HB.out | apply below_alloc | apply pw_below_drewN | apply below_drew1) | exact HB.out)); (case side2 => exact HR0.out); (case side3 => exact HC0.out); rintro e w4 ⟨g648, rfl, hi, hb, hb2⟩; refine ⟨_, rfl, ?_⟩; have n0_ := Aside0.mk (hb); have n1_ := Aside0.mk (hi); clear HB; have HB := n0_; have HI648 := n1_; clear n0_ n1_; (try clear hb); (try clear hb2); (try clear hk); (try clear hi)) | ((with_reducible refine gate_dst (N := 12) rfl ?_); refine Kd.R_lit k64 _ 64 ?hg (N := 12) ?hd (xs := ([] : List (S64))) (inner := []) (ok := fun _ => True) (okp := fun _ => True) ?hr ?hp (fun _ hk => hk) trivial (Below.refl _ _) (Nat.le_refl _) (by simp) ?_; (case hd => rfl); (case hg => rfl); (case hr => first | (go_simp; done) | (go_simp; rfl)); (case hp => exact (Reps.none _ _)); intro v650 w5 ho6 hb hg_ hnew_; clear hg_ hnew_; (first | rw [← Ny649.out] at ho6 | (simp only [Int.reduceToNat] at ho6; rw [← Ny649.out] at ho6)); have n0_ := Aside0.mk (Kd.R_lower ho6 (below_size (by repeat (first | (with_reducible first | exact HB.out | apply below_alloc | apply pw_below_drewN | apply below_drew1 | refine below_set ?_ (IsS196.ge HI648.out)) | exact HB.out)))); have n1_ := Aside0.mk (IsS196.below (by repeat (first | (with_reducible first | exact HI648.out | apply IsS196.alloc | apply IsS196.drewN | apply IsS196.drew | apply IsS196.set_1 | apply IsS196.set_2) | exact HI648.out)) hb); have n2_ := Aside0.mk (below_step (by repeat (first | (with_reducible first | exact HB.out | apply below_alloc | apply pw_below_drewN | apply below_drew1 | refine below_set ?_ (IsS196.ge HI648.out)) | exact HB.out)) hb); clear HI648; clear HB; have HO651 := n0_; have HI648 := n1_; have HB := n2_; clear n0_ n1_ n2_; clear hb ho6) | ((with_reducible refine gate_callee (f := 102) rfl ?_); refine goesL_ (some 14) rfl rfl Try.func102 (by kernel_rfl) rfl #[.pointer (some ⟨g648, 0, none⟩), .int .i64 12] rfl (by (try simp only [List.map_toArray, List.map_cons, List.map_nil]); first | done | rfl | (simp only [List.length_drop, List.length_take]; rfl)) ?_; (with_reducible refine (spec_l1Below.calls g648 t645 t646 t647 12 t652 t653 t654 w _ ?side1 ?side2 A3.out).mono ?_); (case side1 => repeat (first | (with_reducible first | exact HI648.out | apply IsS196.alloc | apply IsS196.drewN | apply IsS196.drew | apply IsS196.set_1 | apply IsS196.set_2) | exact HI648.out)); (case side2 => repeat (first | (with_reducible first | exact HB.out | apply below_alloc | apply pw_below_drewN | apply below_drew1 | refine below_set ?_ (IsS196.ge HI648.out)) | exact HB.out)); rintro e w7 ⟨rfl, hi, hb, hk⟩; refine ⟨_, rfl, ?_⟩; have n0_ := Aside0.mk (Kd.R_mono (Kd.R_keep (IsS196.apart (show IsS196 w _ g648 t645 t646 t647 from by repeat (first | (with_reducible first | exact HI648.out | apply IsS196.alloc | apply IsS196.drewN | apply IsS196.drew | apply IsS196.set_1 | apply IsS196.set_2) | exact HI648.out)) (by (with_reducible repeat (first | apply Kd.R_alloc | apply Kd.R_drewN | apply Kd.R_drew)); exact HO651.out) (by decide)) hk (fun _ h => h.2)) (fun _ h => h.1)); have n1_ := Aside0.mk (hb); have n2_ := Aside0.mk (hi); clear HO651; clear HB; clear HI648; have HO651 := n0_; have HB := n1_; have HI648 := n2_; clear n0_ n1_ n2_; (try clear hb); (try clear hb2); (try clear hk); (try clear hi)))
  go_loopg [6, 7] k (fun kq v6 v7 w' => ∃ (x6_1 : List (S64)) (x7_1 : Int) (x649001_1 : Int) (x649002_1 : Int), v7 = .int .i64 x7_1 ∧ Aside0 (spec_DrawGatherTc.l0 kq x6_1 x7_1 t645 x649001_1 x649002_1 = some (r1, r2, r3)) ∧ Aside0 (kq ≤ k) ∧ Aside0 (Kd.R k64 64 w' w.heap.size (fun _ => True) v6 x6_1) ∧ Aside0 (IsS196 w w' g648 t645 x649001_1 x649002_1) ∧ Aside0 (Below w.heap.size w w'))
  case atStart => exact ⟨(y649), (t652), (t653), (t654), (by first | rfl | (simp; done) | (simp [*]; done)), H', ⟨Nat.le_refl _⟩, ⟨by (with_reducible repeat (first | apply Kd.R_alloc | apply Kd.R_drewN | apply Kd.R_drew)); exact HO651.out⟩, ⟨by repeat (first | (with_reducible first | exact HI648.out | apply IsS196.alloc | apply IsS196.drewN | apply IsS196.drew | apply IsS196.set_1 | apply IsS196.set_2) | exact HI648.out)⟩, ⟨by repeat (first | (with_reducible first | exact HB.out | apply below_alloc | apply pw_below_drewN | apply below_drew1 | refine below_set ?_ (IsS196.ge HI648.out)) | exact HB.out)⟩⟩
  case round =>
    clear H'
    try clear c1
    try clear p2
    try clear c3
    obtain ⟨x6_1, x7_1, x649001_1, x649002_1, rfl, HA, HK1, HO_6, HI648, HB⟩ := hrel
    cases gk with
    | zero => exact absurd HA.out (by simp [spec_DrawGatherTc.l0])
    | succ k1 =>
      have H := HA.out
      clear HA
      simp only [spec_DrawGatherTc.l0] at H
      by_cases c8 : x7_1 > 0
      · rw [if_pos c8] at H
        have c8b0 : decide (0 < x7_1) = true := decide_eq_true c8
        clear c8
        replace H := Option.bind_eq_some_iff.mp H
        obtain ⟨⟨t655, t656, t657⟩, A90, H⟩ := H
        replace H : ((spec_l1Int.f t645 t656 t657 (([0, 1, 0, 1, 0, 1, 2, (-1)] : List Int))).bind fun bt661 => ((spec_l1Name.f t645 bt661.2.1 bt661.2.2).bind fun bt664 => (if x6_1.length < 4398046511104 then (spec_DrawGatherTc.l0 k1 (x6_1 ++ [(⟨wrap64 (2 + t655), bt661.1, bt664.1⟩ : S64)]) (wrap64 (x7_1 - 1)) t645 bt664.2.1 bt664.2.2) else (none)))) = some (r1, r2, r3) := H
        have A9 := Aside0.mk A90
        clear A90
        obtain ⟨y658, hy658⟩ : ∃ y_ : List Int, y_ = (([0, 1, 0, 1, 0, 1, 2, (-1)] : List Int)) := ⟨_, rfl⟩
        replace H : ((spec_l1Int.f t645 t656 t657 y658).bind fun bt661 => ((spec_l1Name.f t645 bt661.2.1 bt661.2.2).bind fun bt664 => (if x6_1.length < 4398046511104 then (spec_DrawGatherTc.l0 k1 (x6_1 ++ [(⟨wrap64 (2 + t655), bt661.1, bt664.1⟩ : S64)]) (wrap64 (x7_1 - 1)) t645 bt664.2.1 bt664.2.2) else (none)))) = some (r1, r2, r3) := by first | (rw [hy658]; with_reducible exact H) | (have H2_ := (Option.bind_some _ _).symm.trans H; rw [hy658]; with_reducible exact H2_) | (have H2_ := (Option.bind_some _ _).symm.trans H; with_reducible exact H2_) | with_reducible exact H | (rw [hy658]; exact H) | exact H
        have Ny658 := Aside0.mk hy658
        clear hy658
        replace H := Option.bind_eq_some_iff.mp H
        obtain ⟨⟨t661, t662, t663⟩, A100, H⟩ := H
        replace H : ((spec_l1Name.f t645 t662 t663).bind fun bt664 => (if x6_1.length < 4398046511104 then (spec_DrawGatherTc.l0 k1 (x6_1 ++ [(⟨wrap64 (2 + t655), t661, bt664.1⟩ : S64)]) (wrap64 (x7_1 - 1)) t645 bt664.2.1 bt664.2.2) else (none))) = some (r1, r2, r3) := H
        have A10 := Aside0.mk A100
        clear A100
        replace H := Option.bind_eq_some_iff.mp H
        obtain ⟨⟨t664, t665, t666⟩, A110, H⟩ := H
        replace H : (if x6_1.length < 4398046511104 then (spec_DrawGatherTc.l0 k1 (x6_1 ++ [(⟨wrap64 (2 + t655), t661, t664⟩ : S64)]) (wrap64 (x7_1 - 1)) t645 t665 t666) else (none)) = some (r1, r2, r3) := H
        have A11 := Aside0.mk A110
        clear A110
        by_cases c12 : x6_1.length < 4398046511104
        · rw [if_pos c12] at H
          have LMc12 := Aside0.mk c12
          clear c12
          obtain ⟨y667, hy667⟩ : ∃ y_ : List (S64), y_ = (x6_1 ++ [(⟨wrap64 (2 + t655), t661, t664⟩ : S64)]) := ⟨_, rfl⟩
          replace H : (spec_DrawGatherTc.l0 k1 y667 (wrap64 (x7_1 - 1)) t645 t665 t666) = some (r1, r2, r3) := by first | (rw [hy667]; with_reducible exact H) | (have H2_ := (Option.bind_some _ _).symm.trans H; rw [hy667]; with_reducible exact H2_) | (have H2_ := (Option.bind_some _ _).symm.trans H; with_reducible exact H2_) | with_reducible exact H | (rw [hy667]; exact H) | exact H
          have Ny667 := Aside0.mk hy667
          clear hy667
          have H' := Aside0.mk H
          clear H
          go_wp2_with (first | ((with_reducible refine gate_callee (f := 102) rfl ?_); refine goesL_ (some 21) rfl rfl Try.func102 (by kernel_rfl) rfl #[.pointer (some ⟨g648, 0, none⟩), .int .i64 2] rfl (by (try simp only [List.map_toArray, List.map_cons, List.map_nil]); first | done | rfl | (simp only [List.length_drop, List.length_take]; rfl)) ?_; (with_reducible refine (spec_l1Below.calls g648 t645 x649001_1 x649002_1 2 t655 t656 t657 w _ ?side1 ?side2 A9.out).mono ?_); (case side1 => repeat (first | (with_reducible first | exact HI648.out | apply IsS196.alloc | apply IsS196.drewN | apply IsS196.drew | apply IsS196.set_1 | apply IsS196.set_2) | exact HI648.out)); (case side2 => repeat (first | (with_reducible first | exact HB.out | apply below_alloc | apply pw_below_drewN | apply below_drew1 | refine below_set ?_ (IsS196.ge HI648.out)) | exact HB.out)); rintro e w13 ⟨rfl, hi, hb, hk⟩; refine ⟨_, rfl, ?_⟩; have n0_ := Aside0.mk (Kd.R_mono (Kd.R_keep (IsS196.apart (show IsS196 w _ g648 t645 x649001_1 x649002_1 from by repeat (first | (with_reducible first | exact HI648.out | apply IsS196.alloc | apply IsS196.drewN | apply IsS196.drew | apply IsS196.set_1 | apply IsS196.set_2) | exact HI648.out)) (by (with_reducible repeat (first | apply Kd.R_alloc | apply Kd.R_drewN | apply Kd.R_drew)); exact HO_6.out) (by decide)) hk (fun _ h => h.2)) (fun _ h => h.1)); have n1_ := Aside0.mk (hb); have n2_ := Aside0.mk (hi); clear HO_6; clear HB; clear HI648; have HO_6 := n0_; have HB := n1_; have HI648 := n2_; clear n0_ n1_ n2_; (try clear hb); (try clear hb2); (try clear hk); (try clear hi)) | ((with_reducible refine gate_dst (N := 24) rfl ?_); refine Kd.R_lit (Kd.int .i64) _ 3 ?hg (N := 24) ?hd (xs := ([0, 1, 0, 1, 0, 1, 2, (-1)] : List Int)) (inner := [.int .i64 0, .int .i64 1, .int .i64 0, .int .i64 1, .int .i64 0, .int .i64 1, .int .i64 2, .int .i64 (-1)]) (ok := fun _ => True) (okp := fun _ => True) ?hr ?hp (fun _ hk => hk) trivial (Below.refl _ _) (Nat.le_refl _) (by simp) ?_; (case hd => rfl); (case hg => rfl); (case hr => first | (go_simp; done) | (go_simp; rfl)); (case hp => exact (Reps.one (show Kd.M (Kd.int .i64) _ _ _ 0 [.int .i64 0] from rfl) (Reps.one (show Kd.M (Kd.int .i64) _ _ _ 1 [.int .i64 1] from rfl) (Reps.one (show Kd.M (Kd.int .i64) _ _ _ 0 [.int .i64 0] from rfl) (Reps.one (show Kd.M (Kd.int .i64) _ _ _ 1 [.int .i64 1] from rfl) (Reps.one (show Kd.M (Kd.int .i64) _ _ _ 0 [.int .i64 0] from rfl) (Reps.one (show Kd.M (Kd.int .i64) _ _ _ 1 [.int .i64 1] from rfl) (Reps.one (show Kd.M (Kd.int .i64) _ _ _ 2 [.int .i64 2] from rfl) (Reps.one (show Kd.M (Kd.int .i64) _ _ _ (-1) [.int .i64 (-1)] from rfl) (Reps.none _ _)))))))))); intro v659 w14 ho15 hb hg_ hnew_; clear hg_ hnew_; (first | rw [← Ny658.out] at ho15 | (simp only [Int.reduceToNat] at ho15; rw [← Ny658.out] at ho15)); have n0_ := Aside0.mk (Kd.R_below (by (with_reducible repeat (first | apply Kd.R_alloc | apply Kd.R_drewN | apply Kd.R_drew)); exact HO_6.out) hb); have n1_ := Aside0.mk (Kd.R_lower ho15 (below_size (by repeat (first | (with_reducible first | exact HB.out | apply below_alloc | apply pw_below_drewN | apply below_drew1 | refine below_set ?_ (IsS196.ge HI648.out)) | exact HB.out)))); have n2_ := Aside0.mk (IsS196.below (by repeat (first | (with_reducible first | exact HI648.out | apply IsS196.alloc | apply IsS196.drewN | apply IsS196.drew | apply IsS196.set_1 | apply IsS196.set_2) | exact HI648.out)) hb); have n3_ := Aside0.mk (below_step (by repeat (first | (with_reducible first | exact HB.out | apply below_alloc | apply pw_below_drewN | apply below_drew1 | refine below_set ?_ (IsS196.ge HI648.out)) | exact HB.out)) hb); clear HO_6; clear HI648; clear HB; have HO_6 := n0_; have HO660 := n1_; have HI648 := n2_; have HB := n3_; clear n0_ n1_ n2_ n3_; clear hb ho15; obtain ⟨Ao16, co16, eo16⟩ := Kd.R_slice HO660.out; subst eo16) | ((with_reducible refine gate_callee (f := 103) rfl ?_); refine goesL_ (some 25) rfl rfl Try.func103 (by kernel_rfl) rfl #[.pointer (some ⟨g648, 0, none⟩), .slice Ao16 y658.length co16] rfl (by (try simp only [List.map_toArray, List.map_cons, List.map_nil]); first | done | rfl | (simp only [List.length_drop, List.length_take]; rfl)) ?_; (with_reducible refine (spec_l1Int.calls g648 t645 t656 t657 _ _ y658 t661 t662 t663 w _ ?side1 ?side2 ?side3 ?side4 ?side5 A10.out).mono ?_); (case side1 => repeat (first | (with_reducible first | exact HI648.out | apply IsS196.alloc | apply IsS196.drewN | apply IsS196.drew | apply IsS196.set_1 | apply IsS196.set_2) | exact HI648.out)); (case side2 => repeat (first | (with_reducible first | exact HB.out | apply below_alloc | apply pw_below_drewN | apply below_drew1 | refine below_set ?_ (IsS196.ge HI648.out)) | exact HB.out)); (case side3 => repeat (first | exact (Kd.R_reads' HO660.out).2.2 | (with_reducible refine Kd.C_alloc ?_ _) | (with_reducible refine Kd.C_drewN ?_ _) | (with_reducible refine Kd.C_drew ?_))); (case side4 => exact (Kd.R_reads' HO660.out).2.1); (case side5 => exact far_slice (IsS196.own_ne HI648.out HO660.out (by decide))); rintro e w17 ⟨rfl, hi, hb, hk⟩; refine ⟨_, rfl, ?_⟩; have n0_ := Aside0.mk (Kd.R_mono (Kd.R_keep (IsS196.apart (show IsS196 w _ g648 t645 t656 t657 from by repeat (first | (with_reducible first | exact HI648.out | apply IsS196.alloc | apply IsS196.drewN | apply IsS196.drew | apply IsS196.set_1 | apply IsS196.set_2) | exact HI648.out)) (by (with_reducible repeat (first | apply Kd.R_alloc | apply Kd.R_drewN | apply Kd.R_drew)); exact HO_6.out) (by decide)) hk (fun _ h => h.2)) (fun _ h => h.1)); have n1_ := Aside0.mk (Kd.R_mono (Kd.R_keep (IsS196.apart (show IsS196 w _ g648 t645 t656 t657 from by repeat (first | (with_reducible first | exact HI648.out | apply IsS196.alloc | apply IsS196.drewN | apply IsS196.drew | apply IsS196.set_1 | apply IsS196.set_2) | exact HI648.out)) (by (with_reducible repeat (first | apply Kd.R_alloc | apply Kd.R_drewN | apply Kd.R_drew)); exact HO660.out) (by decide)) hk (fun _ h => h.2)) (fun _ h => h.1)); have n2_ := Aside0.mk (hb); have n3_ := Aside0.mk (hi); clear HO_6; clear HO660; clear HB; clear HI648; have HO_6 := n0_; have HO660 := n1_; have HB := n2_; have HI648 := n3_; clear n0_ n1_ n2_ n3_; (try clear hb); (try clear hb2); (try clear hk); (try clear hi)) | ((with_reducible refine gate_callee (f := 104) rfl ?_); refine goesL_ (some 27) rfl rfl Try.func104 (by kernel_rfl) rfl #[.pointer (some ⟨g648, 0, none⟩)] rfl (by (try simp only [List.map_toArray, List.map_cons, List.map_nil]); first | done | rfl | (simp only [List.length_drop, List.length_take]; rfl)) ?_; (with_reducible refine (spec_l1Name.calls g648 t645 t662 t663 t664 t665 t666 w _ ?side1 ?side2 A11.out).mono ?_); (case side1 => repeat (first | (with_reducible first | exact HI648.out | apply IsS196.alloc | apply IsS196.drewN | apply IsS196.drew | apply IsS196.set_1 | apply IsS196.set_2) | exact HI648.out)); (case side2 => repeat (first | (with_reducible first | exact HB.out | apply below_alloc | apply pw_below_drewN | apply below_drew1 | refine below_set ?_ (IsS196.ge HI648.out)) | exact HB.out)); rintro e w18 ⟨rfl, hi, hb, hk⟩; refine ⟨_, rfl, ?_⟩; have n0_ := Aside0.mk (Kd.R_mono (Kd.R_keep (IsS196.apart (show IsS196 w _ g648 t645 t662 t663 from by repeat (first | (with_reducible first | exact HI648.out | apply IsS196.alloc | apply IsS196.drewN | apply IsS196.drew | apply IsS196.set_1 | apply IsS196.set_2) | exact HI648.out)) (by (with_reducible repeat (first | apply Kd.R_alloc | apply Kd.R_drewN | apply Kd.R_drew)); exact HO_6.out) (by decide)) hk (fun _ h => h.2)) (fun _ h => h.1)); have n1_ := Aside0.mk (Kd.R_mono (Kd.R_keep (IsS196.apart (show IsS196 w _ g648 t645 t662 t663 from by repeat (first | (with_reducible first | exact HI648.out | apply IsS196.alloc | apply IsS196.drewN | apply IsS196.drew | apply IsS196.set_1 | apply IsS196.set_2) | exact HI648.out)) (by (with_reducible repeat (first | apply Kd.R_alloc | apply Kd.R_drewN | apply Kd.R_drew)); exact HO660.out) (by decide)) hk (fun _ h => h.2)) (fun _ h => h.1)); have n2_ := Aside0.mk (hb); have n3_ := Aside0.mk (hi); clear HO_6; clear HO660; clear HB; clear HI648; have HO_6 := n0_; have HO660 := n1_; have HB := n2_; have HI648 := n3_; clear n0_ n1_ n2_ n3_; (try clear hb); (try clear hb2); (try clear hk); (try clear hi)) | ((with_reducible refine gate_builtin (b := .append) (xs := #[.tmp 19, .tmp 29]) rfl ?_); at_builtin; refine Kd.R_append k64 (w0 := w) w.heap.size rfl (.tmp 19) (.tmp 29) 55 64 (.agg #[(.int .i64 0), (.int .i64 0), (.string ⟨#[]⟩)]) 32 rfl Try.underlying55 info64 rfl (by decide) (by omega) u6 x6_1 (⟨wrap64 (2 + t655), t661, t664⟩ : S64) [.int .i64 (wrap64 (2 + t655)), .int .i64 t661, .string t664] (fun _ => True) (fun _ => False) rfl rfl ?aP (fun _ hk => hk.elim) ?aF ?aO ?aB ?aS ?aL ?_; (case aP => exact k64_mkM _ _ _ (⟨wrap64 (2 + t655), t661, t664⟩ : S64)); (case aB => exact (by repeat (first | (with_reducible first | exact HB.out | apply below_alloc | apply pw_below_drewN | apply below_drew1 | refine below_set ?_ (IsS196.ge HI648.out)) | exact HB.out))); (case aF => exact (fun _ _ => trivial)); (case aO => exact (by (with_reducible repeat (first | apply Kd.R_alloc | apply Kd.R_drewN | apply Kd.R_drew)); exact HO_6.out)); (case aS => exact (below_size (by repeat (first | (with_reducible first | exact HB.out | apply below_alloc | apply pw_below_drewN | apply below_drew1 | refine below_set ?_ (IsS196.ge HI648.out)) | exact HB.out)))); (case aL => have := LMc12.out; omega); intro v668 w19 ho hb hg hat; rw [← Ny667.out] at ho; have n0_ := Aside0.mk (IsS196.grown (by repeat (first | (with_reducible first | exact HI648.out | apply IsS196.alloc | apply IsS196.drewN | apply IsS196.drew | apply IsS196.set_1 | apply IsS196.set_2) | exact HI648.out)) hg (IsS196.own_ne HI648.out HO_6.out (by decide))); have n1_ := Aside0.mk (Kd.R_over' (by (with_reducible repeat (first | apply Kd.R_alloc | apply Kd.R_drewN | apply Kd.R_drew)); exact HO660.out) (Kd.R_typed (by (with_reducible repeat (first | apply Kd.R_alloc | apply Kd.R_drewN | apply Kd.R_drew)); exact HO_6.out)) (by decide) hg); have n2_ := Aside0.mk (hb); have n3_ := Aside0.mk (ho); clear HI648; clear HO660; clear HB; clear HO_6; have HI648 := n0_; have HO660 := n1_; have HB := n2_; have HO669 := n3_; clear n0_ n1_ n2_ n3_; clear ho hb hg hat))
          go_roundg k1
          case measure => have := HK1.out; omega
          case rel => exact ⟨(y667), (wrap64 (x7_1 - 1)), (t665), (t666), (by first | rfl | (simp; done) | (simp [*]; done)), H', ⟨by have := HK1.out; omega⟩, ⟨by (with_reducible repeat (first | apply Kd.R_alloc | apply Kd.R_drewN | apply Kd.R_drew)); exact HO669.out⟩, ⟨by repeat (first | (with_reducible first | exact HI648.out | apply IsS196.alloc | apply IsS196.drewN | apply IsS196.drew | apply IsS196.set_1 | apply IsS196.set_2) | exact HI648.out)⟩, ⟨by repeat (first | (with_reducible first | exact HB.out | apply below_alloc | apply pw_below_drewN | apply below_drew1 | refine below_set ?_ (IsS196.ge HI648.out)) | exact HB.out)⟩⟩
        · rw [if_neg c12] at H
          exact absurd H (by simp)
      · rw [if_neg c8] at H
        have c8b0 : decide (0 < x7_1) = false := decide_eq_false c8
        clear c8
        replace H := Option.bind_eq_some_iff.mp H
        obtain ⟨⟨t670, t673, t674⟩, A200, H⟩ := H
        replace H : ((spec_l1Once.f t645 t673 t674 4).bind fun bt675 => (if bt675.1 = true then ((spec_l1Int.f t645 bt675.2.1 bt675.2.2 (([2, 2, 3, 0] : List Int))).bind fun bt681 => (some (t670, x6_1, bt681.1))) else (spec_DrawGatherTc.l1 k1 x6_1 t670 0 t645 bt675.2.1 bt675.2.2))) = some (r1, r2, r3) := H
        have A20 := Aside0.mk A200
        clear A200
        replace H := Option.bind_eq_some_iff.mp H
        obtain ⟨⟨t675, t676, t677⟩, A210, H⟩ := H
        replace H : (if t675 = true then ((spec_l1Int.f t645 t676 t677 (([2, 2, 3, 0] : List Int))).bind fun bt681 => (some (t670, x6_1, bt681.1))) else (spec_DrawGatherTc.l1 k1 x6_1 t670 0 t645 t676 t677)) = some (r1, r2, r3) := H
        have A21 := Aside0.mk A210
        clear A210
        by_cases c22 : t675 = true
        · subst c22
          have H1 : ((spec_l1Int.f t645 t676 t677 (([2, 2, 3, 0] : List Int))).bind fun bt681 => (some (t670, x6_1, bt681.1))) = some (r1, r2, r3) := by rw [if_pos rfl] at H; exact H
          clear H
          have H := H1
          clear H1
          obtain ⟨y678, hy678⟩ : ∃ y_ : List Int, y_ = (([2, 2, 3, 0] : List Int)) := ⟨_, rfl⟩
          replace H : ((spec_l1Int.f t645 t676 t677 y678).bind fun bt681 => (some (t670, x6_1, bt681.1))) = some (r1, r2, r3) := by first | (rw [hy678]; with_reducible exact H) | (have H2_ := (Option.bind_some _ _).symm.trans H; rw [hy678]; with_reducible exact H2_) | (have H2_ := (Option.bind_some _ _).symm.trans H; with_reducible exact H2_) | with_reducible exact H | (rw [hy678]; exact H) | exact H
          have Ny678 := Aside0.mk hy678
          clear hy678
          replace H := Option.bind_eq_some_iff.mp H
          obtain ⟨⟨t681, t682, t683⟩, A230, H⟩ := H
          replace H : (some (t670, x6_1, t681)) = some (r1, r2, r3) := H
          have A23 := Aside0.mk A230
          clear A230
          simp only [Option.some.injEq, Prod.mk.injEq] at H
          obtain ⟨rfl, rfl, rfl⟩ := H
          go_wp2_with (first | ((with_reducible refine gate_callee (f := 105) rfl ?_); refine goesL_ (some 32) rfl rfl Try.func105 (by kernel_rfl) rfl #[.pointer (some ⟨g648, 0, none⟩)] rfl (by (try simp only [List.map_toArray, List.map_cons, List.map_nil]); first | done | rfl | (simp only [List.length_drop, List.length_take]; rfl)) ?_; (with_reducible refine (spec_l7Any.calls k1 g648 t645 x649001_1 x649002_1 t670 t673 t674 w _ ?side1 ?side2 A20.out).mono ?_); (case side1 => repeat (first | (with_reducible first | exact HI648.out | apply IsS196.alloc | apply IsS196.drewN | apply IsS196.drew | apply IsS196.set_1 | apply IsS196.set_2) | exact HI648.out)); (case side2 => repeat (first | (with_reducible first | exact HB.out | apply below_alloc | apply pw_below_drewN | apply below_drew1 | refine below_set ?_ (IsS196.ge HI648.out)) | exact HB.out)); rintro e w24 ⟨v671, rfl, ho0, hi, hb, hk⟩; refine ⟨_, rfl, ?_⟩; have n0_ := Aside0.mk (Kd.R_mono (Kd.R_keep (IsS196.apart (show IsS196 w _ g648 t645 x649001_1 x649002_1 from by repeat (first | (with_reducible first | exact HI648.out | apply IsS196.alloc | apply IsS196.drewN | apply IsS196.drew | apply IsS196.set_1 | apply IsS196.set_2) | exact HI648.out)) (by (with_reducible repeat (first | apply Kd.R_alloc | apply Kd.R_drewN | apply Kd.R_drew)); exact HO_6.out) (by decide)) hk (fun _ h => h.2)) (fun _ h => h.1)); have n1_ := Aside0.mk (Kd.R_lower ho0 (below_size (by repeat (first | (with_reducible first | exact HB.out | apply below_alloc | apply pw_below_drewN | apply below_drew1 | refine below_set ?_ (IsS196.ge HI648.out)) | exact HB.out)))); have n2_ := Aside0.mk (hb); have n3_ := Aside0.mk (hi); clear HO_6; clear HB; clear HI648; have HO_6 := n0_; have HO672 := n1_; have HB := n2_; have HI648 := n3_; clear n0_ n1_ n2_ n3_; (try clear hb); (try clear hb2); (try clear hk); (try clear hi); (try clear ho0)) | ((with_reducible refine gate_callee (f := 106) rfl ?_); refine goesL_ (some 34) rfl rfl Try.func106 (by kernel_rfl) rfl #[.pointer (some ⟨g648, 0, none⟩), .int .i64 4] rfl (by (try simp only [List.map_toArray, List.map_cons, List.map_nil]); first | done | rfl | (simp only [List.length_drop, List.length_take]; rfl)) ?_; (with_reducible refine (spec_l1Once.calls g648 t645 t673 t674 4 true t676 t677 w _ ?side1 ?side2 A21.out).mono ?_); (case side1 => repeat (first | (with_reducible first | exact HI648.out | apply IsS196.alloc | apply IsS196.drewN | apply IsS196.drew | apply IsS196.set_1 | apply IsS196.set_2) | exact HI648.out)); (case side2 => repeat (first | (with_reducible first | exact HB.out | apply below_alloc | apply pw_below_drewN | apply below_drew1 | refine below_set ?_ (IsS196.ge HI648.out)) | exact HB.out)); rintro e w25 ⟨rfl, hi, hb, hk⟩; refine ⟨_, rfl, ?_⟩; have n0_ := Aside0.mk (Kd.R_mono (Kd.R_keep (IsS196.apart (show IsS196 w _ g648 t645 t673 t674 from by repeat (first | (with_reducible first | exact HI648.out | apply IsS196.alloc | apply IsS196.drewN | apply IsS196.drew | apply IsS196.set_1 | apply IsS196.set_2) | exact HI648.out)) (by (with_reducible repeat (first | apply Kd.R_alloc | apply Kd.R_drewN | apply Kd.R_drew)); exact HO_6.out) (by decide)) hk (fun _ h => h.2)) (fun _ h => h.1)); have n1_ := Aside0.mk (Kd.R_mono (Kd.R_keep (IsS196.apart (show IsS196 w _ g648 t645 t673 t674 from by repeat (first | (with_reducible first | exact HI648.out | apply IsS196.alloc | apply IsS196.drewN | apply IsS196.drew | apply IsS196.set_1 | apply IsS196.set_2) | exact HI648.out)) (by (with_reducible repeat (first | apply Kd.R_alloc | apply Kd.R_drewN | apply Kd.R_drew)); exact HO672.out) (by decide)) hk (fun _ h => h.2)) (fun _ h => h.1)); have n2_ := Aside0.mk (hb); have n3_ := Aside0.mk (hi); clear HO_6; clear HO672; clear HB; clear HI648; have HO_6 := n0_; have HO672 := n1_; have HB := n2_; have HI648 := n3_; clear n0_ n1_ n2_ n3_; (try clear hb); (try clear hb2); (try clear hk); (try clear hi)) | ((with_reducible refine gate_dst (N := 64) rfl ?_); refine Kd.R_lit (Kd.int .i64) _ 3 ?hg (N := 64) ?hd (xs := ([2, 2, 3, 0] : List Int)) (inner := [.int .i64 2, .int .i64 2, .int .i64 3, .int .i64 0]) (ok := fun _ => True) (okp := fun _ => True) ?hr ?hp (fun _ hk => hk) trivial (Below.refl _ _) (Nat.le_refl _) (by simp) ?_; (case hd => rfl); (case hg => rfl); (case hr => first | (go_simp; done) | (go_simp; rfl)); (case hp => exact (Reps.one (show Kd.M (Kd.int .i64) _ _ _ 2 [.int .i64 2] from rfl) (Reps.one (show Kd.M (Kd.int .i64) _ _ _ 2 [.int .i64 2] from rfl) (Reps.one (show Kd.M (Kd.int .i64) _ _ _ 3 [.int .i64 3] from rfl) (Reps.one (show Kd.M (Kd.int .i64) _ _ _ 0 [.int .i64 0] from rfl) (Reps.none _ _)))))); intro v679 w26 ho27 hb hg_ hnew_; clear hg_ hnew_; (first | rw [← Ny678.out] at ho27 | (simp only [Int.reduceToNat] at ho27; rw [← Ny678.out] at ho27)); have n0_ := Aside0.mk (Kd.R_below (by (with_reducible repeat (first | apply Kd.R_alloc | apply Kd.R_drewN | apply Kd.R_drew)); exact HO_6.out) hb); have n1_ := Aside0.mk (Kd.R_below (by (with_reducible repeat (first | apply Kd.R_alloc | apply Kd.R_drewN | apply Kd.R_drew)); exact HO672.out) hb); have n2_ := Aside0.mk (Kd.R_lower ho27 (below_size (by repeat (first | (with_reducible first | exact HB.out | apply below_alloc | apply pw_below_drewN | apply below_drew1 | refine below_set ?_ (IsS196.ge HI648.out)) | exact HB.out)))); have n3_ := Aside0.mk (IsS196.below (by repeat (first | (with_reducible first | exact HI648.out | apply IsS196.alloc | apply IsS196.drewN | apply IsS196.drew | apply IsS196.set_1 | apply IsS196.set_2) | exact HI648.out)) hb); have n4_ := Aside0.mk (below_step (by repeat (first | (with_reducible first | exact HB.out | apply below_alloc | apply pw_below_drewN | apply below_drew1 | refine below_set ?_ (IsS196.ge HI648.out)) | exact HB.out)) hb); clear HO_6; clear HO672; clear HI648; clear HB; have HO_6 := n0_; have HO672 := n1_; have HO680 := n2_; have HI648 := n3_; have HB := n4_; clear n0_ n1_ n2_ n3_ n4_; clear hb ho27; obtain ⟨Ao28, co28, eo28⟩ := Kd.R_slice HO680.out; subst eo28) | ((with_reducible refine gate_callee (f := 103) rfl ?_); refine goesL_ (some 65) rfl rfl Try.func103 (by kernel_rfl) rfl #[.pointer (some ⟨g648, 0, none⟩), .slice Ao28 y678.length co28] rfl (by (try simp only [List.map_toArray, List.map_cons, List.map_nil]); first | done | rfl | (simp only [List.length_drop, List.length_take]; rfl)) ?_; (with_reducible refine (spec_l1Int.calls g648 t645 t676 t677 _ _ y678 t681 t682 t683 w _ ?side1 ?side2 ?side3 ?side4 ?side5 A23.out).mono ?_); (case side1 => repeat (first | (with_reducible first | exact HI648.out | apply IsS196.alloc | apply IsS196.drewN | apply IsS196.drew | apply IsS196.set_1 | apply IsS196.set_2) | exact HI648.out)); (case side2 => repeat (first | (with_reducible first | exact HB.out | apply below_alloc | apply pw_below_drewN | apply below_drew1 | refine below_set ?_ (IsS196.ge HI648.out)) | exact HB.out)); (case side3 => repeat (first | exact (Kd.R_reads' HO680.out).2.2 | (with_reducible refine Kd.C_alloc ?_ _) | (with_reducible refine Kd.C_drewN ?_ _) | (with_reducible refine Kd.C_drew ?_))); (case side4 => exact (Kd.R_reads' HO680.out).2.1); (case side5 => exact far_slice (IsS196.own_ne HI648.out HO680.out (by decide))); rintro e w29 ⟨rfl, hi, hb, hk⟩; refine ⟨_, rfl, ?_⟩; have n0_ := Aside0.mk (Kd.R_mono (Kd.R_keep (IsS196.apart (show IsS196 w _ g648 t645 t676 t677 from by repeat (first | (with_reducible first | exact HI648.out | apply IsS196.alloc | apply IsS196.drewN | apply IsS196.drew | apply IsS196.set_1 | apply IsS196.set_2) | exact HI648.out)) (by (with_reducible repeat (first | apply Kd.R_alloc | apply Kd.R_drewN | apply Kd.R_drew)); exact HO_6.out) (by decide)) hk (fun _ h => h.2)) (fun _ h => h.1)); have n1_ := Aside0.mk (Kd.R_mono (Kd.R_keep (IsS196.apart (show IsS196 w _ g648 t645 t676 t677 from by repeat (first | (with_reducible first | exact HI648.out | apply IsS196.alloc | apply IsS196.drewN | apply IsS196.drew | apply IsS196.set_1 | apply IsS196.set_2) | exact HI648.out)) (by (with_reducible repeat (first | apply Kd.R_alloc | apply Kd.R_drewN | apply Kd.R_drew)); exact HO672.out) (by decide)) hk (fun _ h => h.2)) (fun _ h => h.1)); have n2_ := Aside0.mk (Kd.R_mono (Kd.R_keep (IsS196.apart (show IsS196 w _ g648 t645 t676 t677 from by repeat (first | (with_reducible first | exact HI648.out | apply IsS196.alloc | apply IsS196.drewN | apply IsS196.drew | apply IsS196.set_1 | apply IsS196.set_2) | exact HI648.out)) (by (with_reducible repeat (first | apply Kd.R_alloc | apply Kd.R_drewN | apply Kd.R_drew)); exact HO680.out) (by decide)) hk (fun _ h => h.2)) (fun _ h => h.1)); have n3_ := Aside0.mk (hb); have n4_ := Aside0.mk (hi); clear HO_6; clear HO672; clear HO680; clear HB; clear HI648; have HO_6 := n0_; have HO672 := n1_; have HO680 := n2_; have HB := n3_; have HI648 := n4_; clear n0_ n1_ n2_ n3_ n4_; (try clear hb); (try clear hb2); (try clear hk); (try clear hi)))
          go_ret3
          exact ⟨_, _, by first | rfl | (simp [errW_none, errW_some] <;> rfl) | (simp [*, errW_none, errW_some] <;> rfl), by (with_reducible repeat (first | apply Kd.R_alloc | apply Kd.R_drewN | apply Kd.R_drew)); exact HO672.out, by (with_reducible repeat (first | apply Kd.R_alloc | apply Kd.R_drewN | apply Kd.R_drew)); exact HO_6.out, by repeat (first | (with_reducible first | exact HB.out | apply below_alloc | apply pw_below_drewN | apply below_drew1 | refine below_set ?_ (IsS196.ge HI648.out)) | exact HB.out)⟩
        · replace c22 := Bool.eq_false_iff.mpr c22
          subst c22
          have H1 : (spec_DrawGatherTc.l1 k1 x6_1 t670 0 t645 t676 t677) = some (r1, r2, r3) := by rw [if_neg (show ¬ (false = true) by decide)] at H; exact H
          clear H
          have H := H1
          clear H1
          have H' := Aside0.mk H
          clear H
          go_wp2_with (first | ((with_reducible refine gate_callee (f := 105) rfl ?_); refine goesL_ (some 32) rfl rfl Try.func105 (by kernel_rfl) rfl #[.pointer (some ⟨g648, 0, none⟩)] rfl (by (try simp only [List.map_toArray, List.map_cons, List.map_nil]); first | done | rfl | (simp only [List.length_drop, List.length_take]; rfl)) ?_; (with_reducible refine (spec_l7Any.calls k1 g648 t645 x649001_1 x649002_1 t670 t673 t674 w _ ?side1 ?side2 A20.out).mono ?_); (case side1 => repeat (first | (with_reducible first | exact HI648.out | apply IsS196.alloc | apply IsS196.drewN | apply IsS196.drew | apply IsS196.set_1 | apply IsS196.set_2) | exact HI648.out)); (case side2 => repeat (first | (with_reducible first | exact HB.out | apply below_alloc | apply pw_below_drewN | apply below_drew1 | refine below_set ?_ (IsS196.ge HI648.out)) | exact HB.out)); rintro e w30 ⟨v671, rfl, ho0, hi, hb, hk⟩; refine ⟨_, rfl, ?_⟩; have n0_ := Aside0.mk (Kd.R_mono (Kd.R_keep (IsS196.apart (show IsS196 w _ g648 t645 x649001_1 x649002_1 from by repeat (first | (with_reducible first | exact HI648.out | apply IsS196.alloc | apply IsS196.drewN | apply IsS196.drew | apply IsS196.set_1 | apply IsS196.set_2) | exact HI648.out)) (by (with_reducible repeat (first | apply Kd.R_alloc | apply Kd.R_drewN | apply Kd.R_drew)); exact HO_6.out) (by decide)) hk (fun _ h => h.2)) (fun _ h => h.1)); have n1_ := Aside0.mk (Kd.R_lower ho0 (below_size (by repeat (first | (with_reducible first | exact HB.out | apply below_alloc | apply pw_below_drewN | apply below_drew1 | refine below_set ?_ (IsS196.ge HI648.out)) | exact HB.out)))); have n2_ := Aside0.mk (hb); have n3_ := Aside0.mk (hi); clear HO_6; clear HB; clear HI648; have HO_6 := n0_; have HO672 := n1_; have HB := n2_; have HI648 := n3_; clear n0_ n1_ n2_ n3_; (try clear hb); (try clear hb2); (try clear hk); (try clear hi); (try clear ho0)) | ((with_reducible refine gate_callee (f := 106) rfl ?_); refine goesL_ (some 34) rfl rfl Try.func106 (by kernel_rfl) rfl #[.pointer (some ⟨g648, 0, none⟩), .int .i64 4] rfl (by (try simp only [List.map_toArray, List.map_cons, List.map_nil]); first | done | rfl | (simp only [List.length_drop, List.length_take]; rfl)) ?_; (with_reducible refine (spec_l1Once.calls g648 t645 t673 t674 4 false t676 t677 w _ ?side1 ?side2 A21.out).mono ?_); (case side1 => repeat (first | (with_reducible first | exact HI648.out | apply IsS196.alloc | apply IsS196.drewN | apply IsS196.drew | apply IsS196.set_1 | apply IsS196.set_2) | exact HI648.out)); (case side2 => repeat (first | (with_reducible first | exact HB.out | apply below_alloc | apply pw_below_drewN | apply below_drew1 | refine below_set ?_ (IsS196.ge HI648.out)) | exact HB.out)); rintro e w31 ⟨rfl, hi, hb, hk⟩; refine ⟨_, rfl, ?_⟩; have n0_ := Aside0.mk (Kd.R_mono (Kd.R_keep (IsS196.apart (show IsS196 w _ g648 t645 t673 t674 from by repeat (first | (with_reducible first | exact HI648.out | apply IsS196.alloc | apply IsS196.drewN | apply IsS196.drew | apply IsS196.set_1 | apply IsS196.set_2) | exact HI648.out)) (by (with_reducible repeat (first | apply Kd.R_alloc | apply Kd.R_drewN | apply Kd.R_drew)); exact HO_6.out) (by decide)) hk (fun _ h => h.2)) (fun _ h => h.1)); have n1_ := Aside0.mk (Kd.R_mono (Kd.R_keep (IsS196.apart (show IsS196 w _ g648 t645 t673 t674 from by repeat (first | (with_reducible first | exact HI648.out | apply IsS196.alloc | apply IsS196.drewN | apply IsS196.drew | apply IsS196.set_1 | apply IsS196.set_2) | exact HI648.out)) (by (with_reducible repeat (first | apply Kd.R_alloc | apply Kd.R_drewN | apply Kd.R_drew)); exact HO672.out) (by decide)) hk (fun _ h => h.2)) (fun _ h => h.1)); have n2_ := Aside0.mk (hb); have n3_ := Aside0.mk (hi); clear HO_6; clear HO672; clear HB; clear HI648; have HO_6 := n0_; have HO672 := n1_; have HB := n2_; have HI648 := n3_; clear n0_ n1_ n2_ n3_; (try clear hb); (try clear hb2); (try clear hk); (try clear hi)))
          go_loopg [6, 9] k1 (fun kq v6 v9 w' => ∃ (x6_2 : List (S64)) (x9_2 : Int) (x649001_2 : Int) (x649002_2 : Int), v9 = .int .i64 x9_2 ∧ Aside0 (spec_DrawGatherTc.l1 kq x6_2 t670 x9_2 t645 x649001_2 x649002_2 = some (r1, r2, r3)) ∧ Aside0 (kq ≤ k1) ∧ Aside0 (Kd.R k64 64 w' w.heap.size (fun _ => True) v6 x6_2) ∧ Aside0 (Kd.R k138 138 w' w.heap.size (fun _ => True) v671 t670) ∧ Aside0 (IsS196 w w' g648 t645 x649001_2 x649002_2) ∧ Aside0 (Below w.heap.size w w'))
          case atStart => exact ⟨(x6_1), (0), (t676), (t677), (by first | rfl | (simp; done) | (simp [*]; done)), H', ⟨Nat.le_refl _⟩, ⟨by (with_reducible repeat (first | apply Kd.R_alloc | apply Kd.R_drewN | apply Kd.R_drew)); exact HO_6.out⟩, ⟨by (with_reducible repeat (first | apply Kd.R_alloc | apply Kd.R_drewN | apply Kd.R_drew)); exact HO672.out⟩, ⟨by repeat (first | (with_reducible first | exact HI648.out | apply IsS196.alloc | apply IsS196.drewN | apply IsS196.drew | apply IsS196.set_1 | apply IsS196.set_2) | exact HI648.out)⟩, ⟨by repeat (first | (with_reducible first | exact HB.out | apply below_alloc | apply pw_below_drewN | apply below_drew1 | refine below_set ?_ (IsS196.ge HI648.out)) | exact HB.out)⟩⟩
          case round =>
            clear H'
            try clear c1
            try clear c2
            try clear p2
            try clear c3
            try clear p6
            try clear c8
            try clear c8b0
            try clear c9
            try clear c10
            try clear c12
            try clear c22
            try clear p2
            obtain ⟨x6_2, x9_2, x649001_2, x649002_2, rfl, HA, HK2, HO_6, HO_8, HI648, HB⟩ := hrel
            cases gk with
            | zero => exact absurd HA.out (by simp [spec_DrawGatherTc.l1])
            | succ k2 =>
              have H := HA.out
              clear HA
              simp only [spec_DrawGatherTc.l1] at H
              by_cases c32 : x9_2 < (t670.length : Int)
              · rw [if_pos c32] at H
                have c32b0 : decide (x9_2 < (t670.length : Int)) = true := decide_eq_true c32
                clear c32
                replace H := Option.bind_eq_some_iff.mp H
                obtain ⟨⟨t690, t691, t692⟩, A330, H⟩ := H
                replace H : (if t690 = true then (spec_DrawGatherTc.l1 k2 x6_2 t670 (wrap64 (x9_2 + 1)) t645 t691 t692) else ((spec_l1Below.f t645 t691 t692 2).bind fun bt693 => (if 0 ≤ x9_2 then (if x6_2.length < 4398046511104 then (spec_DrawGatherTc.l1 k2 (x6_2 ++ [(⟨2, bt693.1, (rd_T138 t670 x9_2).f0⟩ : S64)]) t670 (wrap64 (x9_2 + 1)) t645 bt693.2.1 bt693.2.2) else (none)) else (none)))) = some (r1, r2, r3) := H
                have A33 := Aside0.mk A330
                clear A330
                by_cases c34 : t690 = true
                · subst c34
                  have H1 : (spec_DrawGatherTc.l1 k2 x6_2 t670 (wrap64 (x9_2 + 1)) t645 t691 t692) = some (r1, r2, r3) := by rw [if_pos rfl] at H; exact H
                  clear H
                  have H := H1
                  clear H1
                  have H' := Aside0.mk H
                  clear H
                  obtain ⟨Ao35, co35, eo35⟩ := Kd.R_slice HO_8.out
                  subst eo35
                  go_wp2_with (first | ((with_reducible refine gate_callee (f := 106) rfl ?_); refine goesL_ (some 43) rfl rfl Try.func106 (by kernel_rfl) rfl #[.pointer (some ⟨g648, 0, none⟩), .int .i64 8] rfl (by (try simp only [List.map_toArray, List.map_cons, List.map_nil]); first | done | rfl | (simp only [List.length_drop, List.length_take]; rfl)) ?_; (with_reducible refine (spec_l1Once.calls g648 t645 x649001_2 x649002_2 8 true t691 t692 w _ ?side1 ?side2 A33.out).mono ?_); (case side1 => repeat (first | (with_reducible first | exact HI648.out | apply IsS196.alloc | apply IsS196.drewN | apply IsS196.drew | apply IsS196.set_1 | apply IsS196.set_2) | exact HI648.out)); (case side2 => repeat (first | (with_reducible first | exact HB.out | apply below_alloc | apply pw_below_drewN | apply below_drew1 | refine below_set ?_ (IsS196.ge HI648.out)) | exact HB.out)); rintro e w36 ⟨rfl, hi, hb, hk⟩; refine ⟨_, rfl, ?_⟩; have n0_ := Aside0.mk (Kd.R_mono (Kd.R_keep (IsS196.apart (show IsS196 w _ g648 t645 x649001_2 x649002_2 from by repeat (first | (with_reducible first | exact HI648.out | apply IsS196.alloc | apply IsS196.drewN | apply IsS196.drew | apply IsS196.set_1 | apply IsS196.set_2) | exact HI648.out)) (by (with_reducible repeat (first | apply Kd.R_alloc | apply Kd.R_drewN | apply Kd.R_drew)); exact HO_6.out) (by decide)) hk (fun _ h => h.2)) (fun _ h => h.1)); have n1_ := Aside0.mk (Kd.R_mono (Kd.R_keep (IsS196.apart (show IsS196 w _ g648 t645 x649001_2 x649002_2 from by repeat (first | (with_reducible first | exact HI648.out | apply IsS196.alloc | apply IsS196.drewN | apply IsS196.drew | apply IsS196.set_1 | apply IsS196.set_2) | exact HI648.out)) (by (with_reducible repeat (first | apply Kd.R_alloc | apply Kd.R_drewN | apply Kd.R_drew)); exact HO_8.out) (by decide)) hk (fun _ h => h.2)) (fun _ h => h.1)); have n2_ := Aside0.mk (hb); have n3_ := Aside0.mk (hi); clear HO_6; clear HO_8; clear HB; clear HI648; have HO_6 := n0_; have HO_8 := n1_; have HB := n2_; have HI648 := n3_; clear n0_ n1_ n2_ n3_; (try clear hb); (try clear hb2); (try clear hk); (try clear hi)))
                  go_roundg k2
                  case measure => have := HK1.out; have := HK2.out; omega
                  case rel => exact ⟨(x6_2), (wrap64 (x9_2 + 1)), (t691), (t692), (by first | rfl | (simp; done) | (simp [*]; done)), H', ⟨by have := HK1.out; have := HK2.out; omega⟩, ⟨by (with_reducible repeat (first | apply Kd.R_alloc | apply Kd.R_drewN | apply Kd.R_drew)); exact HO_6.out⟩, ⟨by (with_reducible repeat (first | apply Kd.R_alloc | apply Kd.R_drewN | apply Kd.R_drew)); exact HO_8.out⟩, ⟨by repeat (first | (with_reducible first | exact HI648.out | apply IsS196.alloc | apply IsS196.drewN | apply IsS196.drew | apply IsS196.set_1 | apply IsS196.set_2) | exact HI648.out)⟩, ⟨by repeat (first | (with_reducible first | exact HB.out | apply below_alloc | apply pw_below_drewN | apply below_drew1 | refine below_set ?_ (IsS196.ge HI648.out)) | exact HB.out)⟩⟩
                · replace c34 := Bool.eq_false_iff.mpr c34
                  subst c34
                  have H1 : ((spec_l1Below.f t645 t691 t692 2).bind fun bt693 => (if 0 ≤ x9_2 then (if x6_2.length < 4398046511104 then (spec_DrawGatherTc.l1 k2 (x6_2 ++ [(⟨2, bt693.1, (rd_T138 t670 x9_2).f0⟩ : S64)]) t670 (wrap64 (x9_2 + 1)) t645 bt693.2.1 bt693.2.2) else (none)) else (none))) = some (r1, r2, r3) := by rw [if_neg (show ¬ (false = true) by decide)] at H; exact H
                  clear H
                  have H := H1
                  clear H1
                  replace H := Option.bind_eq_some_iff.mp H
                  obtain ⟨⟨t693, t694, t695⟩, A370, H⟩ := H
                  replace H : (if 0 ≤ x9_2 then (if x6_2.length < 4398046511104 then (spec_DrawGatherTc.l1 k2 (x6_2 ++ [(⟨2, t693, (rd_T138 t670 x9_2).f0⟩ : S64)]) t670 (wrap64 (x9_2 + 1)) t645 t694 t695) else (none)) else (none)) = some (r1, r2, r3) := H
                  have A37 := Aside0.mk A370
                  clear A370
                  by_cases c38 : 0 ≤ x9_2
                  · rw [if_pos c38] at H
                    have c38b0 : decide (0 ≤ x9_2) = true := decide_eq_true c38
                    clear c38
                    by_cases c39 : x6_2.length < 4398046511104
                    · rw [if_pos c39] at H
                      have LMc39 := Aside0.mk c39
                      clear c39
                      obtain ⟨y697, hy697⟩ : ∃ y_ : List (S64), y_ = (x6_2 ++ [(⟨2, t693, (rd_T138 t670 x9_2).f0⟩ : S64)]) := ⟨_, rfl⟩
                      replace H : (spec_DrawGatherTc.l1 k2 y697 t670 (wrap64 (x9_2 + 1)) t645 t694 t695) = some (r1, r2, r3) := by first | (rw [hy697]; with_reducible exact H) | (have H2_ := (Option.bind_some _ _).symm.trans H; rw [hy697]; with_reducible exact H2_) | (have H2_ := (Option.bind_some _ _).symm.trans H; with_reducible exact H2_) | with_reducible exact H | (rw [hy697]; exact H) | exact H
                      have Ny697 := Aside0.mk hy697
                      clear hy697
                      have H' := Aside0.mk H
                      clear H
                      obtain ⟨Ao40, co40, eo40⟩ := Kd.R_slice HO_8.out
                      subst eo40
                      try go_wp2_with (first | ((with_reducible refine gate_callee (f := 106) rfl ?_); refine goesL_ (some 43) rfl rfl Try.func106 (by kernel_rfl) rfl #[.pointer (some ⟨g648, 0, none⟩), .int .i64 8] rfl (by (try simp only [List.map_toArray, List.map_cons, List.map_nil]); first | done | rfl | (simp only [List.length_drop, List.length_take]; rfl)) ?_; (with_reducible refine (spec_l1Once.calls g648 t645 x649001_2 x649002_2 8 false t691 t692 w _ ?side1 ?side2 A33.out).mono ?_); (case side1 => repeat (first | (with_reducible first | exact HI648.out | apply IsS196.alloc | apply IsS196.drewN | apply IsS196.drew | apply IsS196.set_1 | apply IsS196.set_2) | exact HI648.out)); (case side2 => repeat (first | (with_reducible first | exact HB.out | apply below_alloc | apply pw_below_drewN | apply below_drew1 | refine below_set ?_ (IsS196.ge HI648.out)) | exact HB.out)); rintro e w41 ⟨rfl, hi, hb, hk⟩; refine ⟨_, rfl, ?_⟩; have n0_ := Aside0.mk (Kd.R_mono (Kd.R_keep (IsS196.apart (show IsS196 w _ g648 t645 x649001_2 x649002_2 from by repeat (first | (with_reducible first | exact HI648.out | apply IsS196.alloc | apply IsS196.drewN | apply IsS196.drew | apply IsS196.set_1 | apply IsS196.set_2) | exact HI648.out)) (by (with_reducible repeat (first | apply Kd.R_alloc | apply Kd.R_drewN | apply Kd.R_drew)); exact HO_6.out) (by decide)) hk (fun _ h => h.2)) (fun _ h => h.1)); have n1_ := Aside0.mk (Kd.R_mono (Kd.R_keep (IsS196.apart (show IsS196 w _ g648 t645 x649001_2 x649002_2 from by repeat (first | (with_reducible first | exact HI648.out | apply IsS196.alloc | apply IsS196.drewN | apply IsS196.drew | apply IsS196.set_1 | apply IsS196.set_2) | exact HI648.out)) (by (with_reducible repeat (first | apply Kd.R_alloc | apply Kd.R_drewN | apply Kd.R_drew)); exact HO_8.out) (by decide)) hk (fun _ h => h.2)) (fun _ h => h.1)); have n2_ := Aside0.mk (hb); have n3_ := Aside0.mk (hi); clear HO_6; clear HO_8; clear HB; clear HI648; have HO_6 := n0_; have HO_8 := n1_; have HB := n2_; have HI648 := n3_; clear n0_ n1_ n2_ n3_; (try clear hb); (try clear hb2); (try clear hk); (try clear hi)))
                      have n0_ := Aside0.mk (Kd.R_drew HO_6.out)
                      have n1_ := Aside0.mk (Kd.R_drew HO_8.out)
                      have n2_ := Aside0.mk (IsS196.drew HI648.out)
                      have n3_ := Aside0.mk (below_drew1 HB.out)
                      clear HO_6
                      clear HO_8
                      clear HI648
                      clear HB
                      have HO_6 := n0_
                      have HO_8 := n1_
                      have HI648 := n2_
                      have HB := n3_
                      clear n0_ n1_ n2_ n3_
                      have p696 : 0 ≤ (x9_2 : Int) := of_decide_eq_true (by first | (with_reducible assumption) | assumption)
                      have q696 : x9_2 < (t670.length : Int) := of_decide_eq_true (by first | (with_reducible assumption) | assumption)
                      obtain ⟨ad696, e696, hx696_0, hx696_1⟩ := at_T138 (Kd.R_reads' HO_8.out).2.2 x9_2 p696 q696
                      cases e696
                      replace p696 := eq_true p696
                      replace q696 := eq_true q696
                      refine start_ (n := 12) (S := fun w' => w'.cell? (ad696.add ((x9_2).toNat * 2)) = some (.string ((rd_T138 t670 x9_2).f0)) ∧ w'.cell? ⟨(ad696.add ((x9_2).toNat * 2)).block, (ad696.add ((x9_2).toNat * 2)).off + 1, none⟩ = some (.int .i64 ((rd_T138 t670 x9_2).f1))) (ds := [9, 10]) #[false, false, false, false, false, false, false, false, false, false, false, false] (by kernel_rfl) rfl rfl ⟨hx696_0, hx696_1⟩ (fun hHeld => ?_); refine with_tabW spec_DrawGatherTc.tab13 spec_DrawGatherTc.bits13 (fun HT_ HW_ => ?_)
                      generalize w41.drew = w42 at HO_6 HO_8 HI648 HB hx696_0 hx696_1 hHeld ⊢
                      refine pure_ (i := 0) (N := some 45) (v := ?_) (a' := ?_) #[true, false, false, false, false, false, false, false, false, false, false, false] rfl rfl (any_of HT_.out (by kernel_rfl)) (fun _ _ _ h => h) (Or.inl ⟨by rfl, ?_⟩) ?_ ?_
                      rotate_left
                      · intro w'
                        go_simp
                        with_reducible rfl
                      rotate_left
                      · simp only [Act.put, List.setIfInBounds_toArray, List.set_cons_zero, List.set_cons_succ, i64_w, i32_w]
                        rfl
                      refine pure_ (i := 1) (N := some 46) (v := ?_) (a' := ?_) #[true, true, false, false, false, false, false, false, false, false, false, false] rfl rfl (any_of HT_.out (by kernel_rfl)) (fun _ _ _ h => h) (Or.inl ⟨by rfl, ?_⟩) ?_ ?_
                      rotate_left
                      · intro w'
                        go_simp
                        with_reducible rfl
                      rotate_left
                      · simp only [Act.put, List.setIfInBounds_toArray, List.set_cons_zero, List.set_cons_succ, i64_w, i32_w]
                        rfl
                      refine pure_ (i := 3) (N := some 48) (v := ?_) (a' := ?_) #[true, true, false, true, false, false, false, false, false, false, false, false] rfl rfl (any_of HT_.out (by kernel_rfl)) (fun _ _ _ h => h) (Or.inl ⟨by rfl, ?_⟩) ?_ ?_
                      rotate_left
                      · intro w'
                        go_simp
                        with_reducible rfl
                      rotate_left
                      · simp only [Act.put, List.setIfInBounds_toArray, List.set_cons_zero, List.set_cons_succ, i64_w, i32_w]
                        rfl
                      refine pure_ (i := 4) (N := some 49) (v := ?_) (a' := ?_) #[true, true, false, true, true, false, false, false, false, false, false, false] rfl rfl (any_of HT_.out (by kernel_rfl)) (fun _ _ _ h => h) (Or.inl ⟨by rfl, ?_⟩) ?_ ?_
                      rotate_left
                      · intro w'
                        go_simp
                        with_reducible rfl
                      rotate_left
                      · simp only [Act.put, List.setIfInBounds_toArray, List.set_cons_zero, List.set_cons_succ, i64_w, i32_w]
                        rfl
                      refine pure_ (i := 5) (N := some 50) (v := ?_) (a' := ?_) #[true, true, false, true, true, true, false, false, false, false, false, false] rfl rfl (any_of HT_.out (by kernel_rfl)) (fun _ _ _ h => h) (Or.inl ⟨by rfl, ?_⟩) ?_ ?_
                      rotate_left
                      · intro w'
                        go_simp
                        with_reducible rfl
                      rotate_left
                      · simp only [Act.put, List.setIfInBounds_toArray, List.set_cons_zero, List.set_cons_succ, i64_w, i32_w]
                        rfl
                      refine pure_ (i := 6) (N := some 51) (v := ?_) (a' := ?_) #[true, true, false, true, true, true, true, false, false, false, false, false] rfl rfl (any_of HT_.out (by kernel_rfl)) (fun _ _ _ h => h) (Or.inl ⟨by rfl, ?_⟩) ?_ ?_
                      rotate_left
                      · intro w'
                        go_simp
                        with_reducible rfl
                      rotate_left
                      · simp only [Act.put, List.setIfInBounds_toArray, List.set_cons_zero, List.set_cons_succ, i64_w, i32_w]
                        rfl
                      refine take_ (i := 7) (N := some 52) (v := ?_) (a' := ?_) #[true, true, false, true, true, true, true, true, false, false, false, false] rfl rfl (take_ofW HT_.out HW_.out (by kernel_rfl)) (fun _ _ _ h => h) (Or.inl ⟨by rfl, ?_⟩) hHeld ?_ ?_
                      rotate_left
                      · rintro w' ⟨s0, s1⟩
                        go_simp
                        with_reducible rfl
                      rotate_left
                      · simp only [Act.put, List.setIfInBounds_toArray, List.set_cons_zero, List.set_cons_succ, i64_w, i32_w]
                        rfl
                      refine one_ (i := 2) (N := some 47) #[true, true, true, true, true, true, true, true, false, false, false, false] rfl rfl (one_of HT_.out (by kernel_rfl)) (by decide) (fun K hK => ?_)
                      refine goes_ Try.func102 (by kernel_rfl) rfl #[.pointer (some ⟨g648, 0, none⟩), .int .i64 2] (by rfl) rfl rfl (by (try simp only [List.map_toArray, List.map_cons, List.map_nil]); first | done | rfl | (simp only [List.length_drop, List.length_take]; rfl)) ?_
                      with_reducible refine (spec_l1Below.calls g648 t645 t691 t692 2 t693 t694 t695 w _ ?side1 ?side2 A37.out).mono ?_
                      (case side1 => repeat (first | (with_reducible first | exact HI648.out | apply IsS196.alloc | apply IsS196.drewN | apply IsS196.drew | apply IsS196.set_1 | apply IsS196.set_2) | exact HI648.out))
                      (case side2 => repeat (first | (with_reducible first | exact HB.out | apply below_alloc | apply pw_below_drewN | apply below_drew1 | refine below_set ?_ (IsS196.ge HI648.out)) | exact HB.out))
                      rintro e w43 ⟨rfl, hi, hb, hk⟩
                      have HS0_ := keep_cell hk (hHeld.1) (by first | (rw [add_block]; exact Kd.own_blk (IsS196.own_ne HI648.out HO_8.out (by decide))) | (show (Addr.add _ _).block ≠ _; rw [add_block]; exact Kd.own_blk (IsS196.own_ne HI648.out HO_8.out (by decide))) | exact Kd.own_blk (IsS196.own_ne HI648.out HO_8.out (by decide)))
                      have HS1_ := keep_cell hk (hHeld.2) (by first | (rw [add_block]; exact Kd.own_blk (IsS196.own_ne HI648.out HO_8.out (by decide))) | (show (Addr.add _ _).block ≠ _; rw [add_block]; exact Kd.own_blk (IsS196.own_ne HI648.out HO_8.out (by decide))) | exact Kd.own_blk (IsS196.own_ne HI648.out HO_8.out (by decide)))
                      refine ⟨_, rfl, ?_⟩
                      have n0_ := Aside0.mk (Kd.R_mono (Kd.R_keep (IsS196.apart (show IsS196 w _ g648 t645 t691 t692 from by repeat (first | (with_reducible first | exact HI648.out | apply IsS196.alloc | apply IsS196.drewN | apply IsS196.drew | apply IsS196.set_1 | apply IsS196.set_2) | exact HI648.out)) (by (with_reducible repeat (first | apply Kd.R_alloc | apply Kd.R_drewN | apply Kd.R_drew)); exact HO_6.out) (by decide)) hk (fun _ h => h.2)) (fun _ h => h.1))
                      have n1_ := Aside0.mk (Kd.R_mono (Kd.R_keep (IsS196.apart (show IsS196 w _ g648 t645 t691 t692 from by repeat (first | (with_reducible first | exact HI648.out | apply IsS196.alloc | apply IsS196.drewN | apply IsS196.drew | apply IsS196.set_1 | apply IsS196.set_2) | exact HI648.out)) (by (with_reducible repeat (first | apply Kd.R_alloc | apply Kd.R_drewN | apply Kd.R_drew)); exact HO_8.out) (by decide)) hk (fun _ h => h.2)) (fun _ h => h.1))
                      have n2_ := Aside0.mk (hb)
                      have n3_ := Aside0.mk (hi)
                      clear HO_6
                      clear HO_8
                      clear HB
                      clear HI648
                      have HO_6 := n0_
                      have HO_8 := n1_
                      have HB := n2_
                      have HI648 := n3_
                      clear n0_ n1_ n2_ n3_
                      (try clear hb)
                      (try clear hb2)
                      (try clear hk)
                      (try clear hi)
                      refine hK.out _ _ ⟨HS0_, HS1_⟩ (fun hHeld => ?_)
                      clear hK K
                      refine norm_ (a' := ?_) ?_ ?_
                      rotate_left
                      · show Act.put _ (some 47) _ = _
                        simp only [Act.put, List.setIfInBounds_toArray, List.set_cons_zero, List.set_cons_succ, i64_w, i32_w]
                        rfl
                      refine pure_ (i := 8) (N := some 53) (v := ?_) (a' := ?_) #[true, true, true, true, true, true, true, true, true, false, false, false] rfl rfl (any_of HT_.out (by kernel_rfl)) (fun _ _ _ h => h) (Or.inl ⟨by rfl, ?_⟩) ?_ ?_
                      rotate_left
                      · intro w'
                        go_simp
                        with_reducible rfl
                      rotate_left
                      · simp only [Act.put, List.setIfInBounds_toArray, List.set_cons_zero, List.set_cons_succ, i64_w, i32_w]
                        rfl
                      refine last_ (i := 9) (N := some 54) #[true, true, true, true, true, true, true, true, true, true, false, false] rfl rfl (one_of HT_.out (by kernel_rfl)) (by decide) (fun K hK => ?_)
                      refine value_ (w1 := ?_) (v := ?_) (by rfl) rfl ?_ ?_
                      rotate_left 2
                      · go_simp
                        constructor
                        · rfl
                        · rfl
                      refine hK.out _ _ ?_
                      clear hK K
                      refine norm_ (a' := ?_) ?_ ?_
                      rotate_left
                      · show Act.put _ (some 54) _ = _
                        simp only [Act.put, List.setIfInBounds_toArray, List.set_cons_zero, List.set_cons_succ, i64_w, i32_w]
                        rfl
                      refine last_ (i := 10) (N := some 55) #[true, true, true, true, true, true, true, true, true, true, true, false] rfl rfl (one_of HT_.out (by kernel_rfl)) (by decide) (fun K hK => ?_)
                      refine Kd.R_append_step k64 (w0 := w) w.heap.size (by rfl) (.tmp 45) (.tmp 54) 55 64 (.agg #[(.int .i64 0), (.int .i64 0), (.string ⟨#[]⟩)]) 32 rfl Try.underlying55 info64 rfl (by decide) (by omega) u6 x6_2 (⟨2, t693, (rd_T138 t670 x9_2).f0⟩ : S64) [.int .i64 2, .int .i64 t693, .string ((rd_T138 t670 x9_2).f0)] (fun _ => True) (fun _ => False) rfl rfl ?aP (fun _ hk => hk.elim) ?aF ?aO ?aB ?aS ?aL ?_
                      (case aP => exact k64_mkM _ _ _ (⟨2, t693, (rd_T138 t670 x9_2).f0⟩ : S64))
                      (case aB => exact (by repeat (first | (with_reducible first | exact HB.out | apply below_alloc | apply pw_below_drewN | apply below_drew1 | refine below_set ?_ (IsS196.ge HI648.out)) | exact HB.out)))
                      (case aF => exact (fun _ _ => trivial))
                      (case aO => exact (by (with_reducible repeat (first | apply Kd.R_alloc | apply Kd.R_drewN | apply Kd.R_drew)); exact HO_6.out))
                      (case aS => exact (below_size (by repeat (first | (with_reducible first | exact HB.out | apply below_alloc | apply pw_below_drewN | apply below_drew1 | refine below_set ?_ (IsS196.ge HI648.out)) | exact HB.out))))
                      (case aL => have := LMc39.out; omega)
                      intro v698 w44 ho hb hg hat
                      rw [← Ny697.out] at ho
                      have n0_ := Aside0.mk (Kd.R_over' (by (with_reducible repeat (first | apply Kd.R_alloc | apply Kd.R_drewN | apply Kd.R_drew)); exact HO_8.out) (Kd.R_typed (by (with_reducible repeat (first | apply Kd.R_alloc | apply Kd.R_drewN | apply Kd.R_drew)); exact HO_6.out)) (by decide) hg)
                      have n1_ := Aside0.mk (IsS196.grown (by repeat (first | (with_reducible first | exact HI648.out | apply IsS196.alloc | apply IsS196.drewN | apply IsS196.drew | apply IsS196.set_1 | apply IsS196.set_2) | exact HI648.out)) hg (IsS196.own_ne HI648.out HO_6.out (by decide)))
                      have n2_ := Aside0.mk (hb)
                      have n3_ := Aside0.mk (ho)
                      clear HO_8
                      clear HI648
                      clear HB
                      clear HO_6
                      have HO_8 := n0_
                      have HI648 := n1_
                      have HB := n2_
                      have HO699 := n3_
                      clear n0_ n1_ n2_ n3_
                      clear ho hb hg hat
                      refine hK.out _ _ ?_
                      clear hK K
                      refine norm_ (a' := ?_) ?_ ?_
                      rotate_left
                      · show Act.put _ (some 55) _ = _
                        simp only [Act.put, List.setIfInBounds_toArray, List.set_cons_zero, List.set_cons_succ, i64_w, i32_w]
                        rfl
                      refine pure_ (i := 11) (N := some 6) (v := ?_) (a' := ?_) #[true, true, true, true, true, true, true, true, true, true, true, true] rfl rfl (any_of HT_.out (by kernel_rfl)) (fun _ _ _ h => h) (Or.inl ⟨by rfl, ?_⟩) ?_ ?_
                      rotate_left
                      · intro w'
                        go_simp
                        with_reducible rfl
                      rotate_left
                      · simp only [Act.put, List.setIfInBounds_toArray, List.set_cons_zero, List.set_cons_succ, i64_w, i32_w]
                        rfl
                      refine done_ (done_of HT_.out (by kernel_rfl)) ?_
                      try go_wp2
                      go_roundg k2
                      case measure => have := HK1.out; have := HK2.out; omega
                      case rel => exact ⟨(y697), (wrap64 (x9_2 + 1)), (t694), (t695), (by first | rfl | (simp; done) | (simp [*]; done)), H', ⟨by have := HK1.out; have := HK2.out; omega⟩, ⟨by (with_reducible repeat (first | apply Kd.R_alloc | apply Kd.R_drewN | apply Kd.R_drew)); exact HO699.out⟩, ⟨by (with_reducible repeat (first | apply Kd.R_alloc | apply Kd.R_drewN | apply Kd.R_drew)); exact HO_8.out⟩, ⟨by repeat (first | (with_reducible first | exact HI648.out | apply IsS196.alloc | apply IsS196.drewN | apply IsS196.drew | apply IsS196.set_1 | apply IsS196.set_2) | exact HI648.out)⟩, ⟨by repeat (first | (with_reducible first | exact HB.out | apply below_alloc | apply pw_below_drewN | apply below_drew1 | refine below_set ?_ (IsS196.ge HI648.out)) | exact HB.out)⟩⟩
                    · rw [if_neg c39] at H
                      exact absurd H (by simp)
                  · rw [if_neg c38] at H
                    exact absurd H (by simp)
              · rw [if_neg c32] at H
                have c32b0 : decide (x9_2 < (t670.length : Int)) = false := decide_eq_false c32
                clear c32
                obtain ⟨y684, hy684⟩ : ∃ y_ : List Int, y_ = (([2, 2, 2, 2, 3] : List Int)) := ⟨_, rfl⟩
                replace H : ((spec_l1Int.f t645 x649001_2 x649002_2 y684).bind fun bt687 => (some (t670, x6_2, bt687.1))) = some (r1, r2, r3) := by first | (rw [hy684]; with_reducible exact H) | (have H2_ := (Option.bind_some _ _).symm.trans H; rw [hy684]; with_reducible exact H2_) | (have H2_ := (Option.bind_some _ _).symm.trans H; with_reducible exact H2_) | with_reducible exact H | (rw [hy684]; exact H) | exact H
                have Ny684 := Aside0.mk hy684
                clear hy684
                replace H := Option.bind_eq_some_iff.mp H
                obtain ⟨⟨t687, t688, t689⟩, A450, H⟩ := H
                replace H : (some (t670, x6_2, t687)) = some (r1, r2, r3) := H
                have A45 := Aside0.mk A450
                clear A450
                simp only [Option.some.injEq, Prod.mk.injEq] at H
                obtain ⟨rfl, rfl, rfl⟩ := H
                obtain ⟨Ao46, co46, eo46⟩ := Kd.R_slice HO_8.out
                subst eo46
                go_wp2_with (first | ((with_reducible refine gate_dst (N := 59) rfl ?_); refine Kd.R_lit (Kd.int .i64) _ 3 ?hg (N := 59) ?hd (xs := ([2, 2, 2, 2, 3] : List Int)) (inner := [.int .i64 2, .int .i64 2, .int .i64 2, .int .i64 2, .int .i64 3]) (ok := fun _ => True) (okp := fun _ => True) ?hr ?hp (fun _ hk => hk) trivial (Below.refl _ _) (Nat.le_refl _) (by simp) ?_; (case hd => rfl); (case hg => rfl); (case hr => first | (go_simp; done) | (go_simp; rfl)); (case hp => exact (Reps.one (show Kd.M (Kd.int .i64) _ _ _ 2 [.int .i64 2] from rfl) (Reps.one (show Kd.M (Kd.int .i64) _ _ _ 2 [.int .i64 2] from rfl) (Reps.one (show Kd.M (Kd.int .i64) _ _ _ 2 [.int .i64 2] from rfl) (Reps.one (show Kd.M (Kd.int .i64) _ _ _ 2 [.int .i64 2] from rfl) (Reps.one (show Kd.M (Kd.int .i64) _ _ _ 3 [.int .i64 3] from rfl) (Reps.none _ _))))))); intro v685 w47 ho48 hb hg_ hnew_; clear hg_ hnew_; (first | rw [← Ny684.out] at ho48 | (simp only [Int.reduceToNat] at ho48; rw [← Ny684.out] at ho48)); have n0_ := Aside0.mk (Kd.R_below (by (with_reducible repeat (first | apply Kd.R_alloc | apply Kd.R_drewN | apply Kd.R_drew)); exact HO_6.out) hb); have n1_ := Aside0.mk (Kd.R_below (by (with_reducible repeat (first | apply Kd.R_alloc | apply Kd.R_drewN | apply Kd.R_drew)); exact HO_8.out) hb); have n2_ := Aside0.mk (Kd.R_lower ho48 (below_size (by repeat (first | (with_reducible first | exact HB.out | apply below_alloc | apply pw_below_drewN | apply below_drew1 | refine below_set ?_ (IsS196.ge HI648.out)) | exact HB.out)))); have n3_ := Aside0.mk (IsS196.below (by repeat (first | (with_reducible first | exact HI648.out | apply IsS196.alloc | apply IsS196.drewN | apply IsS196.drew | apply IsS196.set_1 | apply IsS196.set_2) | exact HI648.out)) hb); have n4_ := Aside0.mk (below_step (by repeat (first | (with_reducible first | exact HB.out | apply below_alloc | apply pw_below_drewN | apply below_drew1 | refine below_set ?_ (IsS196.ge HI648.out)) | exact HB.out)) hb); clear HO_6; clear HO_8; clear HI648; clear HB; have HO_6 := n0_; have HO_8 := n1_; have HO686 := n2_; have HI648 := n3_; have HB := n4_; clear n0_ n1_ n2_ n3_ n4_; clear hb ho48; obtain ⟨Ao49, co49, eo49⟩ := Kd.R_slice HO686.out; subst eo49) | ((with_reducible refine gate_callee (f := 103) rfl ?_); refine goesL_ (some 60) rfl rfl Try.func103 (by kernel_rfl) rfl #[.pointer (some ⟨g648, 0, none⟩), .slice Ao49 y684.length co49] rfl (by (try simp only [List.map_toArray, List.map_cons, List.map_nil]); first | done | rfl | (simp only [List.length_drop, List.length_take]; rfl)) ?_; (with_reducible refine (spec_l1Int.calls g648 t645 x649001_2 x649002_2 _ _ y684 t687 t688 t689 w _ ?side1 ?side2 ?side3 ?side4 ?side5 A45.out).mono ?_); (case side1 => repeat (first | (with_reducible first | exact HI648.out | apply IsS196.alloc | apply IsS196.drewN | apply IsS196.drew | apply IsS196.set_1 | apply IsS196.set_2) | exact HI648.out)); (case side2 => repeat (first | (with_reducible first | exact HB.out | apply below_alloc | apply pw_below_drewN | apply below_drew1 | refine below_set ?_ (IsS196.ge HI648.out)) | exact HB.out)); (case side3 => repeat (first | exact (Kd.R_reads' HO686.out).2.2 | (with_reducible refine Kd.C_alloc ?_ _) | (with_reducible refine Kd.C_drewN ?_ _) | (with_reducible refine Kd.C_drew ?_))); (case side4 => exact (Kd.R_reads' HO686.out).2.1); (case side5 => exact far_slice (IsS196.own_ne HI648.out HO686.out (by decide))); rintro e w50 ⟨rfl, hi, hb, hk⟩; refine ⟨_, rfl, ?_⟩; have n0_ := Aside0.mk (Kd.R_mono (Kd.R_keep (IsS196.apart (show IsS196 w _ g648 t645 x649001_2 x649002_2 from by repeat (first | (with_reducible first | exact HI648.out | apply IsS196.alloc | apply IsS196.drewN | apply IsS196.drew | apply IsS196.set_1 | apply IsS196.set_2) | exact HI648.out)) (by (with_reducible repeat (first | apply Kd.R_alloc | apply Kd.R_drewN | apply Kd.R_drew)); exact HO_6.out) (by decide)) hk (fun _ h => h.2)) (fun _ h => h.1)); have n1_ := Aside0.mk (Kd.R_mono (Kd.R_keep (IsS196.apart (show IsS196 w _ g648 t645 x649001_2 x649002_2 from by repeat (first | (with_reducible first | exact HI648.out | apply IsS196.alloc | apply IsS196.drewN | apply IsS196.drew | apply IsS196.set_1 | apply IsS196.set_2) | exact HI648.out)) (by (with_reducible repeat (first | apply Kd.R_alloc | apply Kd.R_drewN | apply Kd.R_drew)); exact HO_8.out) (by decide)) hk (fun _ h => h.2)) (fun _ h => h.1)); have n2_ := Aside0.mk (Kd.R_mono (Kd.R_keep (IsS196.apart (show IsS196 w _ g648 t645 x649001_2 x649002_2 from by repeat (first | (with_reducible first | exact HI648.out | apply IsS196.alloc | apply IsS196.drewN | apply IsS196.drew | apply IsS196.set_1 | apply IsS196.set_2) | exact HI648.out)) (by (with_reducible repeat (first | apply Kd.R_alloc | apply Kd.R_drewN | apply Kd.R_drew)); exact HO686.out) (by decide)) hk (fun _ h => h.2)) (fun _ h => h.1)); have n3_ := Aside0.mk (hb); have n4_ := Aside0.mk (hi); clear HO_6; clear HO_8; clear HO686; clear HB; clear HI648; have HO_6 := n0_; have HO_8 := n1_; have HO686 := n2_; have HB := n3_; have HI648 := n4_; clear n0_ n1_ n2_ n3_ n4_; (try clear hb); (try clear hb2); (try clear hk); (try clear hi)))
                go_ret3
                exact ⟨_, _, by first | rfl | (simp [errW_none, errW_some] <;> rfl) | (simp [*, errW_none, errW_some] <;> rfl), by (with_reducible repeat (first | apply Kd.R_alloc | apply Kd.R_drewN | apply Kd.R_drew)); exact HO_8.out, by (with_reducible repeat (first | apply Kd.R_alloc | apply Kd.R_drewN | apply Kd.R_drew)); exact HO_6.out, by repeat (first | (with_reducible first | exact HB.out | apply below_alloc | apply pw_below_drewN | apply below_drew1 | refine below_set ?_ (IsS196.ge HI648.out)) | exact HB.out)⟩

theorem spec_DrawGatherTc.is {b : List Int} (hb : b.length ≤ 9223372036854775806) : ∃ l gones r, Ev (fun k => spec_DrawGatherTc.f k b) (l, gones, r) ∧ valsSmall l ∧ gones.length ≤ 20 := by
  have key1 : ∀ (n i : Nat) (x : List S64) (l : List S138) (p h : Int), i + n = l.length → valsSmall l → x.length ≤ 11 + i → 0 ≤ p → p ≤ (b.length : Int) → Dw b (fun k => spec_DrawGatherTc.l1 k x l (i : Int) b p h) (fun _ => 0) (fun r => valsSmall r.1 ∧ r.2.1.length ≤ 20) := by
    intro n
    induction n with
    | zero =>
      intro i x l p h hi hl hx h0 h1
      have := hl.1
      refine Dw.up ?_
      simp only [spec_DrawGatherTc.l1]
      exact Dw.no (by omega) (Dw.bind ((spec_l1Int.dr hb (by decide)).at h0 h1) (fun q a c _ => Dw.ret (Int.le_refl _) (Int.natCast_nonneg _) ⟨hl, by show x.length ≤ 20; omega⟩))
    | succ n ih =>
      intro i x l p h hi hl hx h0 h1
      have := hl.1
      refine Dw.up ?_
      simp only [spec_DrawGatherTc.l1]
      refine Dw.yes (by omega) (Dw.bind ((spec_l1Once.dr hb 8).at h0 h1) (fun q a c _ => ?_))
      rw [unw (x := (i : Int) + 1) (by omega) (by omega)]
      refine Dw.cond (fun _ => ?_) (fun _ => Dw.bind ((spec_l1Below.dr hb 2).at a c) (fun q2 a2 c2 _ => Dw.yes (by omega) (Dw.yes (by omega) ?_)))
      · exact ih (i + 1) _ _ _ _ (by omega) hl (by omega) a c
      · exact ih (i + 1) _ _ _ _ (by omega) hl (by rw [List.length_append, List.length_singleton]; omega) a2 c2
  have key0 : ∀ (n : Nat) (x : List S64) (p h : Int), x.length + n ≤ 11 → 0 ≤ p → p ≤ (b.length : Int) → Dw b (fun k => spec_DrawGatherTc.l0 k x (n : Int) b p h) (fun _ => 0) (fun r => valsSmall r.1 ∧ r.2.1.length ≤ 20) := by
    intro n
    induction n with
    | zero =>
      intro x p h hx h0 h1
      refine Dw.up ?_
      simp only [spec_DrawGatherTc.l0]
      refine Dw.no (by omega) (Dw.bind ((spec_l7Any.dr hb).at h0 h1) (fun l a c hl => Dw.bind ((spec_l1Once.dr hb 4).at a c) (fun o a2 c2 _ => Dw.cond (fun _ => ?_) (fun _ => ?_))))
      · exact Dw.bind ((spec_l1Int.dr hb (by decide)).at a2 c2) (fun q a3 c3 _ => Dw.ret (Int.le_refl _) (Int.natCast_nonneg _) ⟨hl, by show x.length ≤ 20; omega⟩)
      · exact key1 _ 0 _ _ _ _ (Nat.zero_add _) hl (by omega) a2 c2
    | succ n ih =>
      intro x p h hx h0 h1
      refine Dw.up ?_
      simp only [spec_DrawGatherTc.l0]
      refine Dw.yes (by omega) (Dw.bind ((spec_l1Below.dr hb 2).at h0 h1) (fun q a c _ => Dw.bind ((spec_l1Int.dr hb (by decide)).at a c) (fun q2 a2 c2 _ => Dw.bind ((spec_l1Name.dr hb).at a2 c2) (fun q3 a3 c3 _ => Dw.yes (by omega) ?_))))
      rw [unw (x := ((n + 1 : Nat) : Int) - 1) (by omega) (by omega), show ((n + 1 : Nat) : Int) - 1 = (n : Int) by omega]
      exact ih _ _ _ (by rw [List.length_append, List.length_singleton]; omega) a3 c3
  unfold spec_DrawGatherTc.f
  obtain ⟨h, e⟩ := spec_l1New.is hb
  obtain ⟨q, eq, a, c, hq⟩ := (spec_l1Below.dr hb 12).at (p := 0) (g := h) (by omega) (by omega)
  obtain ⟨n, hn⟩ : ∃ n : Nat, q.1 = (n : Int) := ⟨q.1.toNat, by omega⟩
  obtain ⟨r, er, _, _, hr⟩ := key0 n [] q.2.1 q.2.2 (by show 0 + n ≤ 11; omega) a c
  rw [← hn] at er
  exact ⟨r.1, r.2.1, r.2.2, Ev.bind e (Ev.bind eq er), hr.1, hr.2⟩

/-! ### impl_HighOf: function 36 -/
def impl_HighOf.l0 : Nat → Int → List Int → Int → Int → Option (Int)
  | 0, _, _, _, _ => none
  | k + 1, x3, x7, x8, x9 => if x9 < x8 then (if 0 ≤ x9 then (if x9 < (x7.length : Int) then (impl_HighOf.l0 k (mx x3 (rd x7 x9)) x7 x8 (wrap64 (x9 + 1))) else (none)) else (none)) else (some x3)
def impl_HighOf.f (k : Nat) (a0_0 : Int) (l0_1 : List ByteArray) (l0_2 : List Int) : Option (Int) := impl_HighOf.l0 k 0 l0_2 (l0_2.length : Int) 0
theorem impl_HighOf.mono_l : ∀ k, (∀ y0 y1 y2 y3, LeO (impl_HighOf.l0 k y0 y1 y2 y3) (impl_HighOf.l0 (k + 1) y0 y1 y2 y3))
  | 0 => fun _ _ _ _ r h => by simp [impl_HighOf.l0] at h
  | k + 1 => by
    have ih0 := impl_HighOf.mono_l k
    · intro y0 y1 y2 y3
      unfold impl_HighOf.l0
      repeat' first
      | (with_reducible exact ih0 _ _ _ _)
      | (with_reducible exact LeO.refl _)
      | (with_reducible exact LeO.none _)
      | (with_reducible refine LeO.ite ?_ ?_)
      | (with_reducible refine LeO.bind ?_ (fun _ => ?_))
      | exact ih0 _ _ _ _
      | exact LeO.none _
      | refine LeO.ite ?_ ?_
      | refine LeO.bind ?_ (fun _ => ?_)
theorem impl_HighOf.mono : ∀ a0 a1 a2 k, LeO (impl_HighOf.f k a0 a1 a2) (impl_HighOf.f (k + 1) a0 a1 a2) := by
  intro a0 a1 a2 k
  have ih0 := impl_HighOf.mono_l k
  unfold impl_HighOf.f
  repeat' first
      | (with_reducible exact ih0 _ _ _ _)
      | (with_reducible exact LeO.refl _)
      | (with_reducible exact LeO.none _)
      | (with_reducible refine LeO.ite ?_ ?_)
      | (with_reducible refine LeO.bind ?_ (fun _ => ?_))
      | exact ih0 _ _ _ _
      | exact LeO.none _
      | refine LeO.ite ?_ ?_
      | refine LeO.bind ?_ (fun _ => ?_)
set_option maxHeartbeats 8000000 in
set_option maxRecDepth 100000 in
theorem impl_HighOf.calls (k : Nat) (a0_0 : Int) (A0_1 : Option Addr) (c0_1 : Nat) (l0_1 : List ByteArray) (A0_2 : Option Addr) (c0_2 : Nat) (l0_2 : List Int) (r : Int) (w : World) (hr0_1 : Kd.C Kd.string w A0_1 l0_1.length l0_1) (hc0_1 : l0_1.length ≤ c0_1) (hr0_2 : Kd.C (Kd.int .i64) w A0_2 l0_2.length l0_2) (hc0_2 : l0_2.length ≤ c0_2) (h : impl_HighOf.f k a0_0 l0_1 l0_2 = some r) :
    Calls Try.prog 36 #[.agg #[.int .i64 a0_0, .slice A0_1 l0_1.length c0_1, .slice A0_2 l0_2.length c0_2]] w fun e w' => e = .returned (.int .i64 r) ∧ Below w.heap.size w w' := by
  have hu60 := Try.underlying60
  have HR0_1 := Aside0.mk hr0_1
  have HC0_1 := Aside0.mk hc0_1
  clear hr0_1 hc0_1
  have HR0_2 := Aside0.mk hr0_2
  have HC0_2 := Aside0.mk hc0_2
  clear hr0_2 hc0_2
  have HB := Aside0.mk (Below.refl w.heap.size w)
  have H : (impl_HighOf.l0 k 0 l0_2 (l0_2.length : Int) 0) = some r := h
  clear h
  have H' := Aside0.mk H
  clear H
  go_enter Try.func36, Try.ntmps36
  go_wp2_with (first | ((with_reducible refine gate_dst (N := 1) rfl ?_); refine box_event ?hg (N := 1) ?hd (cs := #[.int .i64 a0_0, .slice A0_1 l0_1.length c0_1, .slice A0_2 l0_2.length c0_2]) (t := 60) ?hr ?_; (case hd => rfl); (case hg => rfl); (case hr => first | (go_simp; done) | (go_simp; rfl)); intro gb750 hg w2 hbox hb; have n0_ := Aside0.mk (below_step (by repeat (first | (with_reducible first | exact HB.out | apply below_alloc | apply pw_below_drewN | apply below_drew1) | exact HB.out)) hb); have n1_ := Aside0.mk (hbox); have n2_ := Aside0.mk ((by rw [hg]; exact (below_size (by repeat (first | (with_reducible first | exact HB.out | apply below_alloc | apply pw_below_drewN | apply below_drew1) | exact HB.out))) : w.heap.size ≤ gb750)); have n3_ := n2_; clear HB; have HB := n0_; have BK750 := n1_; have GW750 := n2_; have GE750 := n3_; clear n0_ n1_ n2_ n3_; clear hb hbox hg; obtain ⟨hcz3_0, hcz3_1, hcz3_2⟩ := cells3 BK750.out; obtain ⟨hfz3_0, hfz3_1, hfz3_2⟩ := frozens3 BK750.out))
  go_loopg [3, 9] k (fun kq v3 v9 w' => ∃ (x3_1 : Int) (x9_1 : Int), v3 = .int .i64 x3_1 ∧ v9 = .int .i64 x9_1 ∧ Aside0 (impl_HighOf.l0 kq x3_1 l0_2 (l0_2.length : Int) x9_1 = some r) ∧ Aside0 (kq ≤ k) ∧ Aside0 (w'.heap[gb750]? = some (.cells #[.int .i64 a0_0, (.slice A0_1 l0_1.length c0_1), (.slice A0_2 l0_2.length c0_2)] 60 (0, 0))) ∧ Aside0 (Below w.heap.size w w'))
  case atStart => exact ⟨(0), (0), (by first | rfl | (simp; done) | (simp [*]; done)), (by first | rfl | (simp; done) | (simp [*]; done)), H', ⟨Nat.le_refl _⟩, ⟨by (with_reducible repeat (first | refine blk_drewN ?_ _ | refine blk_drew ?_ | refine blk_alloc ?_ _)); exact BK750.out⟩, ⟨by repeat (first | (with_reducible first | exact HB.out | apply below_alloc | apply pw_below_drewN | apply below_drew1 | refine below_set ?_ GE750.out) | exact HB.out)⟩⟩
  case round =>
    clear H'
    try clear p2
    try clear c3
    try clear hcz3_0
    try clear hcz3_1
    try clear hcz3_2
    try clear hfz3_0
    try clear hfz3_1
    try clear hfz3_2
    obtain ⟨x3_1, x9_1, rfl, rfl, HA, HK1, BK750, HB⟩ := hrel
    cases gk with
    | zero => exact absurd HA.out (by simp [impl_HighOf.l0])
    | succ k1 =>
      have H := HA.out
      clear HA
      simp only [impl_HighOf.l0] at H
      by_cases c4 : x9_1 < (l0_2.length : Int)
      · rw [if_pos c4] at H
        have c4b0 : decide (x9_1 < (l0_2.length : Int)) = true := decide_eq_true c4
        clear c4
        by_cases c5 : 0 ≤ x9_1
        · rw [if_pos c5] at H
          have c5b0 : decide (0 ≤ x9_1) = true := decide_eq_true c5
          clear c5
          by_cases c6 : x9_1 < (l0_2.length : Int)
          · rw [if_pos c6] at H
            have c6b0 : decide (x9_1 < (l0_2.length : Int)) = true := decide_eq_true c6
            clear c6
            obtain ⟨ji7, hji7⟩ : ∃ j_ : Int, (mx x3_1 (rd l0_2 x9_1)) = j_ := ⟨_, rfl⟩
            replace H : (impl_HighOf.l0 k1 ji7 l0_2 (l0_2.length : Int) (wrap64 (x9_1 + 1))) = some r := by first | (rw [hji7] at H; exact H) | (simp only [hji7] at H ⊢; exact H)
            have hji7_ : (if x3_1 < (rd l0_2 x9_1) then (rd l0_2 x9_1) else x3_1) = ji7 := hji7
            have H' := Aside0.mk H
            clear H
            have p751 : 0 ≤ (x9_1 : Int) := of_decide_eq_true (by first | (with_reducible assumption) | assumption)
            have q751 : x9_1 < (l0_2.length : Int) := of_decide_eq_true (by first | (with_reducible assumption) | assumption)
            obtain ⟨ad751, e751, hx751_0⟩ := Kd.at_int HR0_2.out x9_1 p751 q751
            cases e751
            replace hx751_0 := (HB.out.cell (World.block_lt_of_cell? w _ hx751_0)).trans hx751_0
            replace p751 := eq_true p751
            replace q751 := eq_true q751
            go_wp2
            go_roundg k1
            case measure => have := HK1.out; omega
            case rel => exact ⟨(ji7), (wrap64 (x9_1 + 1)), (by first | rfl | (simp; done) | (simp only [← hji7] <;> (first | rfl | simp)) | (simp [*]; done)), (by first | rfl | (simp; done) | (simp [*]; done)), H', ⟨by have := HK1.out; omega⟩, ⟨by (with_reducible repeat (first | refine blk_drewN ?_ _ | refine blk_drew ?_ | refine blk_alloc ?_ _)); exact BK750.out⟩, ⟨by repeat (first | (with_reducible first | exact HB.out | apply below_alloc | apply pw_below_drewN | apply below_drew1 | refine below_set ?_ GE750.out) | exact HB.out)⟩⟩
          · rw [if_neg c6] at H
            exact absurd H (by simp)
        · rw [if_neg c5] at H
          exact absurd H (by simp)
      · rw [if_neg c4] at H
        have c4b0 : decide (x9_1 < (l0_2.length : Int)) = false := decide_eq_false c4
        clear c4
        obtain rfl := Option.some.inj H
        go_wp2
        go_ret
        exact ⟨by first | rfl | (simp [errW_none, errW_some] <;> rfl) | (simp [*, errW_none, errW_some] <;> rfl), by repeat (first | (with_reducible first | exact HB.out | apply below_alloc | apply pw_below_drewN | apply below_drew1 | refine below_set ?_ GE750.out) | exact HB.out)⟩

theorem impl_HighOf.is {r : Int} {who : List ByteArray} {l : List Int} (hl : l.length ≤ 9223372036854775807) : Ev (fun k => impl_HighOf.f k r who l) (high l 0) := by
  unfold impl_HighOf.f
  refine ev_loop (fun k s i => impl_HighOf.l0 k s l l.length i) high (fun s => ?_) (fun pre y ys s hx ih => ?_) 0
  · simp only [impl_HighOf.l0]
    exact Ev.no (by omega) (Ev.now _)
  · have hp := len_app hx
    have hrd : rd l pre.length = y := by rw [hx]; exact at_app pre y ys _
    simp only [impl_HighOf.l0, hrd]
    refine Ev.yes (by omega) (Ev.yes (by omega) (Ev.yes (by omega) ?_))
    rw [unw (x := (pre.length : Int) + 1) (by omega) (by omega)]
    exact ih _

end Go.Proofs.Ytadkhkpchankjaa.F
