/-
Functions of the program, what they come to, and that Go comes to just that: spec_AcctAt, spec_PoolDrop, slices_IndexFunc_impl_Acct_impl_Acct, impl_AcctAt_1, impl_AcctAt, impl_PoolDrop, laws_FnExactPoolDrop.
Conditions: those that each theorem names.
-/
import Derived.Test.YtadkhkpchankjaaFAbs
import Derived.Test.YtadkhkpchankjaaF36
import Derived.Test.YtadkhkpchankjaaF40
import Derived.Test.YtadkhkpchankjaaF41
import Derived.Test.YtadkhkpchankjaaF42
import Derived.Test.YtadkhkpchankjaaF60
import Derived.Test.YtadkhkpchankjaaF65
import Derived.Test.YtadkhkpchankjaaF68
import Derived.Test.YtadkhkpchankjaaWApart
import Derived.Test.YtadkhkpchankjaaWKept
import Derived.Test.YtadkhkpchankjaaWN
import Derived.Test.YtadkhkpchankjaaWMore
import Derived.Test.YtadkhkpchankjaaMark
set_option linter.unusedVariables false
set_option linter.unusedSimpArgs false
namespace Go.Proofs.Ytadkhkpchankjaa.F
open Go.RowKit Go.Proofs.YtadkhkpchankjaaW.PrintWords Go.Proofs.YtadkhkpchankjaaW.PrintLast Go.Proofs.Ytadkhkpchankjaa.Base Go.Proofs.Ytadkhkpchankjaa.BW
open Go.Proofs.Ytadkhkpchankjaa.Mark
open Go.Proofs.YtadkhkpchankjaaW.PrintMore
attribute [local go_sem] max2_int min2_int max_two min_two max_three min_three max_four min_four   -- for this text's walks alone

/-! ### spec_AcctAt: function 166 -/
def spec_AcctAt.l0 : Nat → List (S43) → ByteArray → Int → Option (Int)
  | 0, _, _, _ => none
  | k + 1, x0, x1, x5 => if x5 < (x0.length : Int) then (if 0 ≤ x5 then (if ((rd_T43 x0 x5).f0).toList = x1.toList then (some x5) else (spec_AcctAt.l0 k x0 x1 (wrap64 (x5 + 1)))) else (none)) else (some (-1))
def spec_AcctAt.f (k : Nat) (l0 : List (S43)) (a1 : ByteArray) : Option (Int) := spec_AcctAt.l0 k l0 a1 0
theorem spec_AcctAt.mono_l : ∀ k, (∀ y0 y1 y2, LeO (spec_AcctAt.l0 k y0 y1 y2) (spec_AcctAt.l0 (k + 1) y0 y1 y2))
  | 0 => fun _ _ _ r h => by simp [spec_AcctAt.l0] at h
  | k + 1 => by
    have ih0 := spec_AcctAt.mono_l k
    · intro y0 y1 y2
      unfold spec_AcctAt.l0
      repeat' first
      | (with_reducible exact ih0 _ _ _)
      | (with_reducible exact LeO.refl _)
      | (with_reducible exact LeO.none _)
      | (with_reducible refine LeO.ite ?_ ?_)
      | (with_reducible refine LeO.bind ?_ (fun _ => ?_))
      | exact ih0 _ _ _
      | exact LeO.none _
      | refine LeO.ite ?_ ?_
      | refine LeO.bind ?_ (fun _ => ?_)
theorem spec_AcctAt.mono : ∀ a0 a1 k, LeO (spec_AcctAt.f k a0 a1) (spec_AcctAt.f (k + 1) a0 a1) := by
  intro a0 a1 k
  have ih0 := spec_AcctAt.mono_l k
  unfold spec_AcctAt.f
  repeat' first
      | (with_reducible exact ih0 _ _ _)
      | (with_reducible exact LeO.refl _)
      | (with_reducible exact LeO.none _)
      | (with_reducible refine LeO.ite ?_ ?_)
      | (with_reducible refine LeO.bind ?_ (fun _ => ?_))
      | exact ih0 _ _ _
      | exact LeO.none _
      | refine LeO.ite ?_ ?_
      | refine LeO.bind ?_ (fun _ => ?_)
set_option maxHeartbeats 8000000 in
set_option maxRecDepth 100000 in
theorem spec_AcctAt.calls (k : Nat) (A0 : Option Addr) (c0 : Nat) (l0 : List (S43)) (a1 : ByteArray) (r : Int) (w : World) (hr0 : Kd.C k43 w A0 l0.length l0) (hc0 : l0.length ≤ c0) (h : spec_AcctAt.f k l0 a1 = some r) :
    Calls Try.prog 166 #[.slice A0 l0.length c0, .string a1] w fun e w' => e = .returned (.int .i64 r) ∧ Drawn0 w w' := by
  have HR0 := Aside0.mk hr0
  have HC0 := Aside0.mk hc0
  clear hr0 hc0
  have H : (spec_AcctAt.l0 k l0 a1 0) = some r := h
  clear h
  have H' := Aside0.mk H
  clear H
  go_enter Try.func166, Try.ntmps166
  go_wp2
  go_loopg [5] k (fun kq v5 w' => ∃ (x5_1 : Int), v5 = .int .i64 x5_1 ∧ Aside0 (spec_AcctAt.l0 kq l0 a1 x5_1 = some r) ∧ Aside0 (kq ≤ k) ∧ Drawn0 w w')
  case atStart => exact ⟨(0), (by first | rfl | (simp; done) | (simp [*]; done)), H', ⟨Nat.le_refl _⟩, by repeat (first | exact Drawn0.refl _ | apply Drawn0.step)⟩
  case round =>
    clear H'
    try clear c1
    try clear p2
    obtain ⟨x5_1, rfl, HA, HK1, ⟨m1, rfl⟩⟩ := hrel
    cases gk with
    | zero => exact absurd HA.out (by simp [spec_AcctAt.l0])
    | succ k1 =>
      have H := HA.out
      clear HA
      simp only [spec_AcctAt.l0] at H
      by_cases c3 : x5_1 < (l0.length : Int)
      · rw [if_pos c3] at H
        have c3b0 : decide (x5_1 < (l0.length : Int)) = true := decide_eq_true c3
        clear c3
        by_cases c4 : 0 ≤ x5_1
        · rw [if_pos c4] at H
          have c4b0 : decide (0 ≤ x5_1) = true := decide_eq_true c4
          clear c4
          by_cases c5 : ((rd_T43 l0 x5_1).f0).toList = a1.toList
          · rw [if_pos c5] at H
            have c5b0 : (((rd_T43 l0 x5_1).f0).toList == a1.toList) = true := beq_iff_eq.mpr c5
            have c5b1 : (((rd_T43 l0 x5_1).f0).toList != a1.toList) = false := bne_eq_false_iff_eq.mpr c5
            clear c5
            obtain rfl := Option.some.inj H
            have p1942 : 0 ≤ (x5_1 : Int) := of_decide_eq_true (by first | (with_reducible assumption) | assumption)
            have q1942 : x5_1 < (l0.length : Int) := of_decide_eq_true (by first | (with_reducible assumption) | assumption)
            obtain ⟨ad1942, A1942_4, c1942_4, e1942, hx1942_0, hx1942_1, hx1942_2, hx1942_3, hx1942_4, hl1942_4, hi1942_4⟩ := at_T43 HR0.out x5_1 p1942 q1942
            cases e1942
            have HR1942_4 := Aside0.mk hi1942_4
            have HC1942_4 := Aside0.mk hl1942_4
            clear hi1942_4 hl1942_4
            replace p1942 := eq_true p1942
            replace q1942 := eq_true q1942
            go_wp2
            go_ret
            exact ⟨by first | rfl | (simp; done) | (simp [*]; done), by repeat (first | exact Drawn0.refl _ | apply Drawn0.step)⟩
          · rw [if_neg c5] at H
            have c5b0 : (((rd_T43 l0 x5_1).f0).toList == a1.toList) = false := beq_eq_false_iff_ne.mpr c5
            have c5b1 : (((rd_T43 l0 x5_1).f0).toList != a1.toList) = true := bne_iff_ne.mpr c5
            have H' := Aside0.mk H
            clear H
            have p1942 : 0 ≤ (x5_1 : Int) := of_decide_eq_true (by first | (with_reducible assumption) | assumption)
            have q1942 : x5_1 < (l0.length : Int) := of_decide_eq_true (by first | (with_reducible assumption) | assumption)
            obtain ⟨ad1942, A1942_4, c1942_4, e1942, hx1942_0, hx1942_1, hx1942_2, hx1942_3, hx1942_4, hl1942_4, hi1942_4⟩ := at_T43 HR0.out x5_1 p1942 q1942
            cases e1942
            have HR1942_4 := Aside0.mk hi1942_4
            have HC1942_4 := Aside0.mk hl1942_4
            clear hi1942_4 hl1942_4
            replace p1942 := eq_true p1942
            replace q1942 := eq_true q1942
            go_wp2
            go_roundg k1
            case measure => have := HK1.out; omega
            case rel => exact ⟨(wrap64 (x5_1 + 1)), (by first | rfl | (simp; done) | (simp [*]; done)), H', ⟨by have := HK1.out; omega⟩, by repeat (first | exact Drawn0.refl _ | apply Drawn0.step)⟩
        · rw [if_neg c4] at H
          exact absurd H (by simp)
      · rw [if_neg c3] at H
        have c3b0 : decide (x5_1 < (l0.length : Int)) = false := decide_eq_false c3
        clear c3
        obtain rfl := Option.some.inj H
        go_wp2
        go_ret
        exact ⟨by first | rfl | (simp; done) | (simp [*]; done), by repeat (first | exact Drawn0.refl _ | apply Drawn0.step)⟩

theorem spec_AcctAt.is {l : List S43} {s : ByteArray} (hl : l.length ≤ maxLen) : Ev (fun k => spec_AcctAt.f k l s) (acctIdx l s) := by
  have hm : maxLen = 9223372036854775807 := rfl
  unfold spec_AcctAt.f
  have key : ∀ (n i : Nat), i + n = l.length → (∀ j, j < i → acctIs s (l.getD j z43) = false) → Ev (fun k => spec_AcctAt.l0 k l s (i : Int)) (acctIdx l s) := by
    intro n
    induction n with
    | zero =>
      intro i hi hn
      refine Ev.up ?_
      simp only [spec_AcctAt.l0]
      exact Ev.no (by omega) (Ev.is (idxOf_miss (z := z43) (fun j hj => hn j (by omega))).symm)
    | succ n ih =>
      intro i hi hn
      have hrd : rd_T43 l (i : Int) = l.getD i z43 := rfl
      refine Ev.up ?_
      simp only [spec_AcctAt.l0, hrd]
      refine Ev.yes (by omega) (Ev.yes (by omega) (Ev.cond (fun hc => ?_) (fun hc => ?_)))
      · exact Ev.is (idxOf_hit (z := z43) (by omega) (by unfold acctIs; exact beq_iff_eq.2 hc) hn).symm
      · rw [unw (x := (i : Int) + 1) (by omega) (by omega)]
        refine ih (i + 1) (by omega) (fun j hj => ?_)
        rcases Nat.lt_or_ge j i with h | h
        · exact hn j h
        · obtain rfl : j = i := by omega
          unfold acctIs
          exact beq_eq_false_iff_ne.2 hc
  exact key l.length 0 (by omega) (fun j hj => absurd hj (by omega))

/-! ### spec_PoolDrop: function 84 -/
def spec_PoolDrop.l0 : Nat → List (S186) → List (S186) → Int → Int → List (S43) → Option ((List (S186)))
  | 0, _, _, _, _, _ => none
  | k + 1, x0, x5, x6, x1944000, x1944001 => if x6 < (x0.length : Int) then (if 0 ≤ x6 then ((spec_AcctAt.f k x1944001 ((rd_T186 x0 x6).f1)).bind fun t1948 => (if t1948 ≥ 0 then (if 0 ≤ t1948 then (if t1948 < (x1944001.length : Int) then (if ((rd_T186 x0 x6).f4) ≥ ((rd_T43 x1944001 t1948).f2) then (if x5.length < 2513169434916 then (spec_PoolDrop.l0 k x0 (x5 ++ [(⟨(rd_T186 x0 x6).f0, (rd_T186 x0 x6).f1, (rd_T186 x0 x6).f2, (rd_T186 x0 x6).f3, (rd_T186 x0 x6).f4⟩ : S186)]) (wrap64 (x6 + 1)) x1944000 x1944001) else (none)) else (spec_PoolDrop.l0 k x0 x5 (wrap64 (x6 + 1)) x1944000 x1944001)) else (none)) else (none)) else (spec_PoolDrop.l0 k x0 x5 (wrap64 (x6 + 1)) x1944000 x1944001))) else (none)) else (some x5)
def spec_PoolDrop.f (k : Nat) (l0 : List (S186)) (a1_0 : Int) (l1_1 : List (S43)) : Option ((List (S186))) := spec_PoolDrop.l0 k l0 (([] : List (S186))) 0 a1_0 l1_1
theorem spec_PoolDrop.mono_l : ∀ k, (∀ y0 y1 y2 y3 y4, LeO (spec_PoolDrop.l0 k y0 y1 y2 y3 y4) (spec_PoolDrop.l0 (k + 1) y0 y1 y2 y3 y4))
  | 0 => fun _ _ _ _ _ r h => by simp [spec_PoolDrop.l0] at h
  | k + 1 => by
    have ih0 := spec_PoolDrop.mono_l k
    · intro y0 y1 y2 y3 y4
      unfold spec_PoolDrop.l0
      repeat' first
      | (with_reducible exact ih0 _ _ _ _ _)
      | (with_reducible exact spec_AcctAt.mono _ _ _)
      | (with_reducible exact LeO.refl _)
      | (with_reducible exact LeO.none _)
      | (with_reducible refine LeO.ite ?_ ?_)
      | (with_reducible refine LeO.bind ?_ (fun _ => ?_))
      | exact ih0 _ _ _ _ _
      | exact spec_AcctAt.mono _ _ _
      | exact LeO.none _
      | refine LeO.ite ?_ ?_
      | refine LeO.bind ?_ (fun _ => ?_)
theorem spec_PoolDrop.mono : ∀ a0 a1 a2 k, LeO (spec_PoolDrop.f k a0 a1 a2) (spec_PoolDrop.f (k + 1) a0 a1 a2) := by
  intro a0 a1 a2 k
  have ih0 := spec_PoolDrop.mono_l k
  unfold spec_PoolDrop.f
  repeat' first
      | (with_reducible exact ih0 _ _ _ _ _)
      | (with_reducible exact spec_AcctAt.mono _ _ _)
      | (with_reducible exact LeO.refl _)
      | (with_reducible exact LeO.none _)
      | (with_reducible refine LeO.ite ?_ ?_)
      | (with_reducible refine LeO.bind ?_ (fun _ => ?_))
      | exact ih0 _ _ _ _ _
      | exact spec_AcctAt.mono _ _ _
      | exact LeO.none _
      | refine LeO.ite ?_ ?_
      | refine LeO.bind ?_ (fun _ => ?_)
set_option maxHeartbeats 8000000 in
set_option maxRecDepth 100000 in
theorem spec_PoolDrop.calls (k : Nat) (A0 : Option Addr) (c0 : Nat) (l0 : List (S186)) (a1_0 : Int) (A1_1 : Option Addr) (c1_1 : Nat) (l1_1 : List (S43)) (r : List (S186)) (w : World) (hr0 : Kd.C k186 w A0 l0.length l0) (hc0 : l0.length ≤ c0) (hr1_1 : Kd.C k43 w A1_1 l1_1.length l1_1) (hc1_1 : l1_1.length ≤ c1_1) (h : spec_PoolDrop.f k l0 a1_0 l1_1 = some r) :
    Calls Try.prog 84 #[.slice A0 l0.length c0, .agg #[.int .i64 a1_0, .slice A1_1 l1_1.length c1_1]] w fun e w' => ∃ v0_ : Value, e = .returned (v0_) ∧ Kd.R k186 186 w' w.heap.size (fun _ => True) v0_ r ∧ Below w.heap.size w w' := by
  have hu37 := Try.underlying37
  have hu186 := Try.underlying186
  have HR0 := Aside0.mk hr0
  have HC0 := Aside0.mk hc0
  clear hr0 hc0
  have HR1_1 := Aside0.mk hr1_1
  have HC1_1 := Aside0.mk hc1_1
  clear hr1_1 hc1_1
  have HB := Aside0.mk (Below.refl w.heap.size w)
  have H : (spec_PoolDrop.l0 k l0 (([] : List (S186))) 0 a1_0 l1_1) = some r := h
  clear h
  obtain ⟨y1944, hy1944⟩ : ∃ y_ : List (S186), y_ = (([] : List (S186))) := ⟨_, rfl⟩
  replace H : (spec_PoolDrop.l0 k l0 y1944 0 a1_0 l1_1) = some r := by first | (rw [hy1944]; with_reducible exact H) | (have H2_ := (Option.bind_some _ _).symm.trans H; rw [hy1944]; with_reducible exact H2_) | (have H2_ := (Option.bind_some _ _).symm.trans H; with_reducible exact H2_) | with_reducible exact H | (rw [hy1944]; exact H) | exact H
  have Ny1944 := Aside0.mk hy1944
  clear hy1944
  have H' := Aside0.mk H
  clear H
  go_enter Try.func84, Try.ntmps84
  go_wp2_with (first | ((with_reducible refine gate_dst (N := 3) rfl ?_); refine box_event ?hg (N := 3) ?hd (cs := #[.int .i64 a1_0, .slice A1_1 l1_1.length c1_1]) (t := 37) ?hr ?_; (case hd => rfl); (case hg => rfl); (case hr => first | (go_simp; done) | (go_simp; rfl)); intro gb1943 hg w3 hbox hb; have n0_ := Aside0.mk (below_step (by repeat (first | (with_reducible first | exact HB.out | apply below_alloc | apply pw_below_drewN | apply below_drew1) | exact HB.out)) hb); have n1_ := Aside0.mk (hbox); have n2_ := Aside0.mk ((by rw [hg]; exact (below_size (by repeat (first | (with_reducible first | exact HB.out | apply below_alloc | apply pw_below_drewN | apply below_drew1) | exact HB.out))) : w.heap.size ≤ gb1943)); have n3_ := n2_; clear HB; have HB := n0_; have BK1943 := n1_; have GW1943 := n2_; have GE1943 := n3_; clear n0_ n1_ n2_ n3_; clear hb hbox hg) | ((with_reducible refine gate_dst (N := 8) rfl ?_); refine Kd.R_lit k186 _ 186 ?hg (N := 8) ?hd (xs := ([] : List (S186))) (inner := []) (ok := fun _ => True) (okp := fun _ => True) ?hr ?hp (fun _ hk => hk) trivial (Below.refl _ _) (Nat.le_refl _) (by simp) ?_; (case hd => rfl); (case hg => rfl); (case hr => first | (go_simp; done) | (go_simp; rfl)); (case hp => exact (Reps.none _ _)); intro v1945 w4 ho5 hb hg_ hnew_; clear hg_ hnew_; (first | rw [← Ny1944.out] at ho5 | (simp only [Int.reduceToNat] at ho5; rw [← Ny1944.out] at ho5)); have n0_ := Aside0.mk (Kd.R_lower ho5 (below_size (by repeat (first | (with_reducible first | exact HB.out | apply below_alloc | apply pw_below_drewN | apply below_drew1 | refine below_set ?_ GE1943.out) | exact HB.out)))); have n1_ := Aside0.mk (blk_below (g := gb1943) (by (with_reducible repeat (first | refine blk_drewN ?_ _ | refine blk_drew ?_ | refine blk_alloc ?_ _)); exact BK1943.out) hb); have n2_ := Aside0.mk (below_step (by repeat (first | (with_reducible first | exact HB.out | apply below_alloc | apply pw_below_drewN | apply below_drew1 | refine below_set ?_ GE1943.out) | exact HB.out)) hb); clear BK1943; clear HB; have HO1946 := n0_; have BK1943 := n1_; have HB := n2_; clear n0_ n1_ n2_; clear hb ho5))
  repeat (go_quiet (first | ((with_reducible refine gate_dst (N := 3) rfl ?_); refine box_event ?hg (N := 3) ?hd (cs := #[.int .i64 a1_0, .slice A1_1 l1_1.length c1_1]) (t := 37) ?hr ?_; (case hd => rfl); (case hg => rfl); (case hr => first | (go_simp; done) | (go_simp; rfl)); intro gb1943 hg w3 hbox hb; have n0_ := Aside0.mk (below_step (by repeat (first | (with_reducible first | exact HB.out | apply below_alloc | apply pw_below_drewN | apply below_drew1) | exact HB.out)) hb); have n1_ := Aside0.mk (hbox); have n2_ := Aside0.mk ((by rw [hg]; exact (below_size (by repeat (first | (with_reducible first | exact HB.out | apply below_alloc | apply pw_below_drewN | apply below_drew1) | exact HB.out))) : w.heap.size ≤ gb1943)); have n3_ := n2_; clear HB; have HB := n0_; have BK1943 := n1_; have GW1943 := n2_; have GE1943 := n3_; clear n0_ n1_ n2_ n3_; clear hb hbox hg) | ((with_reducible refine gate_dst (N := 8) rfl ?_); refine Kd.R_lit k186 _ 186 ?hg (N := 8) ?hd (xs := ([] : List (S186))) (inner := []) (ok := fun _ => True) (okp := fun _ => True) ?hr ?hp (fun _ hk => hk) trivial (Below.refl _ _) (Nat.le_refl _) (by simp) ?_; (case hd => rfl); (case hg => rfl); (case hr => first | (go_simp; done) | (go_simp; rfl)); (case hp => exact (Reps.none _ _)); intro v1945 w4 ho5 hb hg_ hnew_; clear hg_ hnew_; (first | rw [← Ny1944.out] at ho5 | (simp only [Int.reduceToNat] at ho5; rw [← Ny1944.out] at ho5)); have n0_ := Aside0.mk (Kd.R_lower ho5 (below_size (by repeat (first | (with_reducible first | exact HB.out | apply below_alloc | apply pw_below_drewN | apply below_drew1 | refine below_set ?_ GE1943.out) | exact HB.out)))); have n1_ := Aside0.mk (blk_below (g := gb1943) (by (with_reducible repeat (first | refine blk_drewN ?_ _ | refine blk_drew ?_ | refine blk_alloc ?_ _)); exact BK1943.out) hb); have n2_ := Aside0.mk (below_step (by repeat (first | (with_reducible first | exact HB.out | apply below_alloc | apply pw_below_drewN | apply below_drew1 | refine below_set ?_ GE1943.out) | exact HB.out)) hb); clear BK1943; clear HB; have HO1946 := n0_; have BK1943 := n1_; have HB := n2_; clear n0_ n1_ n2_; clear hb ho5)); try go_wp2_with (first | ((with_reducible refine gate_dst (N := 3) rfl ?_); refine box_event ?hg (N := 3) ?hd (cs := #[.int .i64 a1_0, .slice A1_1 l1_1.length c1_1]) (t := 37) ?hr ?_; (case hd => rfl); (case hg => rfl); (case hr => first | (go_simp; done) | (go_simp; rfl)); intro gb1943 hg w3 hbox hb; have n0_ := Aside0.mk (below_step (by repeat (first | (with_reducible first | exact HB.out | apply below_alloc | apply pw_below_drewN | apply below_drew1) | exact HB.out)) hb); have n1_ := Aside0.mk (hbox); have n2_ := Aside0.mk ((by rw [hg]; exact (below_size (by repeat (first | (with_reducible first | exact HB.out | apply below_alloc | apply pw_below_drewN | apply below_drew1) | exact HB.out))) : w.heap.size ≤ gb1943)); have n3_ := n2_; clear HB; have HB := n0_; have BK1943 := n1_; have GW1943 := n2_; have GE1943 := n3_; clear n0_ n1_ n2_ n3_; clear hb hbox hg) | ((with_reducible refine gate_dst (N := 8) rfl ?_); refine Kd.R_lit k186 _ 186 ?hg (N := 8) ?hd (xs := ([] : List (S186))) (inner := []) (ok := fun _ => True) (okp := fun _ => True) ?hr ?hp (fun _ hk => hk) trivial (Below.refl _ _) (Nat.le_refl _) (by simp) ?_; (case hd => rfl); (case hg => rfl); (case hr => first | (go_simp; done) | (go_simp; rfl)); (case hp => exact (Reps.none _ _)); intro v1945 w4 ho5 hb hg_ hnew_; clear hg_ hnew_; (first | rw [← Ny1944.out] at ho5 | (simp only [Int.reduceToNat] at ho5; rw [← Ny1944.out] at ho5)); have n0_ := Aside0.mk (Kd.R_lower ho5 (below_size (by repeat (first | (with_reducible first | exact HB.out | apply below_alloc | apply pw_below_drewN | apply below_drew1 | refine below_set ?_ GE1943.out) | exact HB.out)))); have n1_ := Aside0.mk (blk_below (g := gb1943) (by (with_reducible repeat (first | refine blk_drewN ?_ _ | refine blk_drew ?_ | refine blk_alloc ?_ _)); exact BK1943.out) hb); have n2_ := Aside0.mk (below_step (by repeat (first | (with_reducible first | exact HB.out | apply below_alloc | apply pw_below_drewN | apply below_drew1 | refine below_set ?_ GE1943.out) | exact HB.out)) hb); clear BK1943; clear HB; have HO1946 := n0_; have BK1943 := n1_; have HB := n2_; clear n0_ n1_ n2_; clear hb ho5)))
  go_loopg [5, 6] k (fun kq v5 v6 w' => ∃ (x5_1 : List (S186)) (x6_1 : Int), v6 = .int .i64 x6_1 ∧ Aside0 (spec_PoolDrop.l0 kq l0 x5_1 x6_1 a1_0 l1_1 = some r) ∧ Aside0 (kq ≤ k) ∧ Aside0 (Kd.R k186 186 w' w.heap.size (fun _ => True) v5 x5_1) ∧ Aside0 (w'.heap[gb1943]? = some (.cells #[.int .i64 a1_0, (.slice A1_1 l1_1.length c1_1)] 37 (0, 0))) ∧ Aside0 (Below w.heap.size w w'))
  case atStart => exact ⟨(y1944), (0), (by first | rfl | (simp; done) | (simp [*]; done)), H', ⟨Nat.le_refl _⟩, ⟨by (with_reducible repeat (first | apply Kd.R_alloc | apply Kd.R_drewN | apply Kd.R_drew)); exact HO1946.out⟩, ⟨by (with_reducible repeat (first | refine blk_drewN ?_ _ | refine blk_drew ?_ | refine blk_alloc ?_ _)); exact BK1943.out⟩, ⟨by repeat (first | (with_reducible first | exact HB.out | apply below_alloc | apply pw_below_drewN | apply below_drew1 | refine below_set ?_ GE1943.out) | exact HB.out)⟩⟩
  case round =>
    clear H'
    try clear c1
    try clear p2
    obtain ⟨x5_1, x6_1, rfl, HA, HK1, HO_5, BK1943, HB⟩ := hrel
    cases gk with
    | zero => exact absurd HA.out (by simp [spec_PoolDrop.l0])
    | succ k1 =>
      have H := HA.out
      clear HA
      simp only [spec_PoolDrop.l0] at H
      by_cases c6 : x6_1 < (l0.length : Int)
      · rw [if_pos c6] at H
        have c6b0 : decide (x6_1 < (l0.length : Int)) = true := decide_eq_true c6
        clear c6
        by_cases c7 : 0 ≤ x6_1
        · rw [if_pos c7] at H
          have c7b0 : decide (0 ≤ x6_1) = true := decide_eq_true c7
          clear c7
          replace H := Option.bind_eq_some_iff.mp H
          obtain ⟨t1948, A80, H⟩ := H
          replace H : (if t1948 ≥ 0 then (if 0 ≤ t1948 then (if t1948 < (l1_1.length : Int) then (if ((rd_T186 l0 x6_1).f4) ≥ ((rd_T43 l1_1 t1948).f2) then (if x5_1.length < 2513169434916 then (spec_PoolDrop.l0 k1 l0 (x5_1 ++ [(⟨(rd_T186 l0 x6_1).f0, (rd_T186 l0 x6_1).f1, (rd_T186 l0 x6_1).f2, (rd_T186 l0 x6_1).f3, (rd_T186 l0 x6_1).f4⟩ : S186)]) (wrap64 (x6_1 + 1)) a1_0 l1_1) else (none)) else (spec_PoolDrop.l0 k1 l0 x5_1 (wrap64 (x6_1 + 1)) a1_0 l1_1)) else (none)) else (none)) else (spec_PoolDrop.l0 k1 l0 x5_1 (wrap64 (x6_1 + 1)) a1_0 l1_1)) = some r := H
          have A8 := Aside0.mk A80
          clear A80
          by_cases c9 : t1948 ≥ 0
          · rw [if_pos c9] at H
            have c9b0 : decide (0 ≤ t1948) = true := decide_eq_true c9
            clear c9
            by_cases c10 : 0 ≤ t1948
            · rw [if_pos c10] at H
              have c10b0 : decide (0 ≤ t1948) = true := decide_eq_true c10
              clear c10
              by_cases c11 : t1948 < (l1_1.length : Int)
              · rw [if_pos c11] at H
                have c11b0 : decide (t1948 < (l1_1.length : Int)) = true := decide_eq_true c11
                clear c11
                by_cases c12 : ((rd_T186 l0 x6_1).f4) ≥ ((rd_T43 l1_1 t1948).f2)
                · rw [if_pos c12] at H
                  have c12b0 : decide (((rd_T43 l1_1 t1948).f2) ≤ ((rd_T186 l0 x6_1).f4)) = true := decide_eq_true c12
                  clear c12
                  by_cases c13 : x5_1.length < 2513169434916
                  · rw [if_pos c13] at H
                    have LMc13 := Aside0.mk c13
                    clear c13
                    obtain ⟨y1952, hy1952⟩ : ∃ y_ : List (S186), y_ = (x5_1 ++ [(⟨(rd_T186 l0 x6_1).f0, (rd_T186 l0 x6_1).f1, (rd_T186 l0 x6_1).f2, (rd_T186 l0 x6_1).f3, (rd_T186 l0 x6_1).f4⟩ : S186)]) := ⟨_, rfl⟩
                    replace H : (spec_PoolDrop.l0 k1 l0 y1952 (wrap64 (x6_1 + 1)) a1_0 l1_1) = some r := by first | (rw [hy1952]; with_reducible exact H) | (have H2_ := (Option.bind_some _ _).symm.trans H; rw [hy1952]; with_reducible exact H2_) | (have H2_ := (Option.bind_some _ _).symm.trans H; with_reducible exact H2_) | with_reducible exact H | (rw [hy1952]; exact H) | exact H
                    have Ny1952 := Aside0.mk hy1952
                    clear hy1952
                    have H' := Aside0.mk H
                    clear H
                    obtain ⟨hcz14_0, hcz14_1⟩ := cells2 BK1943.out
                    obtain ⟨hfz14_0, hfz14_1⟩ := frozens2 BK1943.out
                    have p1947 : 0 ≤ (x6_1 : Int) := of_decide_eq_true (by first | (with_reducible assumption) | assumption)
                    have q1947 : x6_1 < (l0.length : Int) := of_decide_eq_true (by first | (with_reducible assumption) | assumption)
                    obtain ⟨ad1947, e1947, hx1947_0, hx1947_1, hx1947_2, hx1947_3, hx1947_4⟩ := at_T186 HR0.out x6_1 p1947 q1947
                    cases e1947
                    replace hx1947_0 := (HB.out.cell (World.block_lt_of_cell? w _ hx1947_0)).trans hx1947_0
                    replace hx1947_1 := (HB.out.cell (World.block_lt_of_cell? w _ hx1947_1)).trans hx1947_1
                    replace hx1947_2 := (HB.out.cell (World.block_lt_of_cell? w _ hx1947_2)).trans hx1947_2
                    replace hx1947_3 := (HB.out.cell (World.block_lt_of_cell? w _ hx1947_3)).trans hx1947_3
                    replace hx1947_4 := (HB.out.cell (World.block_lt_of_cell? w _ hx1947_4)).trans hx1947_4
                    replace p1947 := eq_true p1947
                    replace q1947 := eq_true q1947
                    go_wp2_with (first | (go_at_call 166; (with_reducible refine (spec_AcctAt.calls k1 _ _ l1_1 ((rd_T186 l0 x6_1).f1) t1948 _ ?side1 ?side2 A8.out).mono ?_); (case side1 => repeat (first | exact (Kd.C_below HR1_1.out HB.out) | (with_reducible refine Kd.C_alloc ?_ _) | (with_reducible refine Kd.C_drewN ?_ _) | (with_reducible refine Kd.C_drew ?_))); (case side2 => exact HC1_1.out); rintro e w' ⟨rfl, ⟨nd, rfl⟩⟩; (try first | exact ⟨rfl, _, World.drewN_drewN _ _ _⟩ | exact ⟨rfl, _, Eq.trans (World.drewN_drewN _ _ _) (congrArg (World.drewN _) (Nat.add_assoc _ _ _))⟩); have p1949 : 0 ≤ (x6_1 : Int) := of_decide_eq_true (by first | (with_reducible assumption) | assumption); have q1949 : x6_1 < (l0.length : Int) := of_decide_eq_true (by first | (with_reducible assumption) | assumption); obtain ⟨ad1949, e1949, hx1949_0, hx1949_1, hx1949_2, hx1949_3, hx1949_4⟩ := at_T186 HR0.out x6_1 p1949 q1949; obtain rfl : ad1947 = ad1949 := (by injection e1949); replace hx1949_0 := (HB.out.cell (World.block_lt_of_cell? w _ hx1949_0)).trans hx1949_0; replace hx1949_1 := (HB.out.cell (World.block_lt_of_cell? w _ hx1949_1)).trans hx1949_1; replace hx1949_2 := (HB.out.cell (World.block_lt_of_cell? w _ hx1949_2)).trans hx1949_2; replace hx1949_3 := (HB.out.cell (World.block_lt_of_cell? w _ hx1949_3)).trans hx1949_3; replace hx1949_4 := (HB.out.cell (World.block_lt_of_cell? w _ hx1949_4)).trans hx1949_4; replace p1949 := eq_true p1949; replace q1949 := eq_true q1949; have p1950 : 0 ≤ (t1948 : Int) := of_decide_eq_true (by first | (with_reducible assumption) | assumption); have q1950 : t1948 < (l1_1.length : Int) := of_decide_eq_true (by first | (with_reducible assumption) | assumption); obtain ⟨ad1950, A1950_4, c1950_4, e1950, hx1950_0, hx1950_1, hx1950_2, hx1950_3, hx1950_4, hl1950_4, hi1950_4⟩ := at_T43 HR1_1.out t1948 p1950 q1950; cases e1950; replace hx1950_0 := (HB.out.cell (World.block_lt_of_cell? w _ hx1950_0)).trans hx1950_0; replace hx1950_1 := (HB.out.cell (World.block_lt_of_cell? w _ hx1950_1)).trans hx1950_1; replace hx1950_2 := (HB.out.cell (World.block_lt_of_cell? w _ hx1950_2)).trans hx1950_2; replace hx1950_3 := (HB.out.cell (World.block_lt_of_cell? w _ hx1950_3)).trans hx1950_3; replace hx1950_4 := (HB.out.cell (World.block_lt_of_cell? w _ hx1950_4)).trans hx1950_4; have HR1950_4 := Aside0.mk hi1950_4; have HC1950_4 := Aside0.mk hl1950_4; clear hi1950_4 hl1950_4; replace p1950 := eq_true p1950; replace q1950 := eq_true q1950; have p1951 : 0 ≤ (x6_1 : Int) := of_decide_eq_true (by first | (with_reducible assumption) | assumption); have q1951 : x6_1 < (l0.length : Int) := of_decide_eq_true (by first | (with_reducible assumption) | assumption); obtain ⟨ad1951, e1951, hx1951_0, hx1951_1, hx1951_2, hx1951_3, hx1951_4⟩ := at_T186 HR0.out x6_1 p1951 q1951; obtain rfl : ad1947 = ad1951 := (by injection e1951); replace hx1951_0 := (HB.out.cell (World.block_lt_of_cell? w _ hx1951_0)).trans hx1951_0; replace hx1951_1 := (HB.out.cell (World.block_lt_of_cell? w _ hx1951_1)).trans hx1951_1; replace hx1951_2 := (HB.out.cell (World.block_lt_of_cell? w _ hx1951_2)).trans hx1951_2; replace hx1951_3 := (HB.out.cell (World.block_lt_of_cell? w _ hx1951_3)).trans hx1951_3; replace hx1951_4 := (HB.out.cell (World.block_lt_of_cell? w _ hx1951_4)).trans hx1951_4; replace p1951 := eq_true p1951; replace q1951 := eq_true q1951) | ((with_reducible refine gate_builtin (b := .append) (xs := #[.tmp 39, .tmp 44]) rfl ?_); at_builtin; refine Kd.R_append k186 (w0 := w) w.heap.size rfl (.tmp 39) (.tmp 44) 97 186 (.agg #[(.int .i64 0), (.string ⟨#[]⟩), (.string ⟨#[]⟩), (.int .i64 0), (.int .i64 0)]) 56 rfl Try.underlying97 info186 rfl (by decide) (by omega) u5 x5_1 (⟨(rd_T186 l0 x6_1).f0, (rd_T186 l0 x6_1).f1, (rd_T186 l0 x6_1).f2, (rd_T186 l0 x6_1).f3, (rd_T186 l0 x6_1).f4⟩ : S186) [.int .i64 ((rd_T186 l0 x6_1).f0), .string ((rd_T186 l0 x6_1).f1), .string ((rd_T186 l0 x6_1).f2), .int .i64 ((rd_T186 l0 x6_1).f3), .int .i64 ((rd_T186 l0 x6_1).f4)] (fun _ => True) (fun _ => False) rfl rfl ?aP (fun _ hk => hk.elim) ?aF ?aO ?aB ?aS ?aL ?_; (case aP => exact k186_mkM _ _ _ (⟨(rd_T186 l0 x6_1).f0, (rd_T186 l0 x6_1).f1, (rd_T186 l0 x6_1).f2, (rd_T186 l0 x6_1).f3, (rd_T186 l0 x6_1).f4⟩ : S186)); (case aB => exact (by repeat (first | (with_reducible first | exact HB.out | apply below_alloc | apply pw_below_drewN | apply below_drew1 | refine below_set ?_ GE1943.out) | exact HB.out))); (case aF => exact (fun _ _ => trivial)); (case aO => exact (by (with_reducible repeat (first | apply Kd.R_alloc | apply Kd.R_drewN | apply Kd.R_drew)); exact HO_5.out)); (case aS => exact (below_size (by repeat (first | (with_reducible first | exact HB.out | apply below_alloc | apply pw_below_drewN | apply below_drew1 | refine below_set ?_ GE1943.out) | exact HB.out)))); (case aL => have := LMc13.out; omega); intro v1953 w15 ho hb hg hat; rw [← Ny1952.out] at ho; have n0_ := Aside0.mk (blk_grown (g := gb1943) (o := .cells #[.int .i64 a1_0, .slice (some ad1950) l1_1.length c1_1] 37 (0, 0)) (by (with_reducible repeat (first | refine blk_drewN ?_ _ | refine blk_drew ?_ | refine blk_alloc ?_ _)); exact BK1943.out) hg (Kd.R_ne HO_5.out BK1943.out (by decide))); have n1_ := Aside0.mk (hb); have n2_ := Aside0.mk (ho); clear BK1943; clear HB; clear HO_5; have BK1943 := n0_; have HB := n1_; have HO1954 := n2_; clear n0_ n1_ n2_; clear ho hb hg hat))
                    repeat (go_quiet (first | (go_at_call 166; (with_reducible refine (spec_AcctAt.calls k1 _ _ l1_1 ((rd_T186 l0 x6_1).f1) t1948 _ ?side1 ?side2 A8.out).mono ?_); (case side1 => repeat (first | exact (Kd.C_below HR1_1.out HB.out) | (with_reducible refine Kd.C_alloc ?_ _) | (with_reducible refine Kd.C_drewN ?_ _) | (with_reducible refine Kd.C_drew ?_))); (case side2 => exact HC1_1.out); rintro e w' ⟨rfl, ⟨nd, rfl⟩⟩; (try first | exact ⟨rfl, _, World.drewN_drewN _ _ _⟩ | exact ⟨rfl, _, Eq.trans (World.drewN_drewN _ _ _) (congrArg (World.drewN _) (Nat.add_assoc _ _ _))⟩); have p1949 : 0 ≤ (x6_1 : Int) := of_decide_eq_true (by first | (with_reducible assumption) | assumption); have q1949 : x6_1 < (l0.length : Int) := of_decide_eq_true (by first | (with_reducible assumption) | assumption); obtain ⟨ad1949, e1949, hx1949_0, hx1949_1, hx1949_2, hx1949_3, hx1949_4⟩ := at_T186 HR0.out x6_1 p1949 q1949; obtain rfl : ad1947 = ad1949 := (by injection e1949); replace hx1949_0 := (HB.out.cell (World.block_lt_of_cell? w _ hx1949_0)).trans hx1949_0; replace hx1949_1 := (HB.out.cell (World.block_lt_of_cell? w _ hx1949_1)).trans hx1949_1; replace hx1949_2 := (HB.out.cell (World.block_lt_of_cell? w _ hx1949_2)).trans hx1949_2; replace hx1949_3 := (HB.out.cell (World.block_lt_of_cell? w _ hx1949_3)).trans hx1949_3; replace hx1949_4 := (HB.out.cell (World.block_lt_of_cell? w _ hx1949_4)).trans hx1949_4; replace p1949 := eq_true p1949; replace q1949 := eq_true q1949; have p1950 : 0 ≤ (t1948 : Int) := of_decide_eq_true (by first | (with_reducible assumption) | assumption); have q1950 : t1948 < (l1_1.length : Int) := of_decide_eq_true (by first | (with_reducible assumption) | assumption); obtain ⟨ad1950, A1950_4, c1950_4, e1950, hx1950_0, hx1950_1, hx1950_2, hx1950_3, hx1950_4, hl1950_4, hi1950_4⟩ := at_T43 HR1_1.out t1948 p1950 q1950; cases e1950; replace hx1950_0 := (HB.out.cell (World.block_lt_of_cell? w _ hx1950_0)).trans hx1950_0; replace hx1950_1 := (HB.out.cell (World.block_lt_of_cell? w _ hx1950_1)).trans hx1950_1; replace hx1950_2 := (HB.out.cell (World.block_lt_of_cell? w _ hx1950_2)).trans hx1950_2; replace hx1950_3 := (HB.out.cell (World.block_lt_of_cell? w _ hx1950_3)).trans hx1950_3; replace hx1950_4 := (HB.out.cell (World.block_lt_of_cell? w _ hx1950_4)).trans hx1950_4; have HR1950_4 := Aside0.mk hi1950_4; have HC1950_4 := Aside0.mk hl1950_4; clear hi1950_4 hl1950_4; replace p1950 := eq_true p1950; replace q1950 := eq_true q1950; have p1951 : 0 ≤ (x6_1 : Int) := of_decide_eq_true (by first | (with_reducible assumption) | assumption); have q1951 : x6_1 < (l0.length : Int) := of_decide_eq_true (by first | (with_reducible assumption) | assumption); obtain ⟨ad1951, e1951, hx1951_0, hx1951_1, hx1951_2, hx1951_3, hx1951_4⟩ := at_T186 HR0.out x6_1 p1951 q1951; obtain rfl : ad1947 = ad1951 := (by injection e1951); replace hx1951_0 := (HB.out.cell (World.block_lt_of_cell? w _ hx1951_0)).trans hx1951_0; replace hx1951_1 := (HB.out.cell (World.block_lt_of_cell? w _ hx1951_1)).trans hx1951_1; replace hx1951_2 := (HB.out.cell (World.block_lt_of_cell? w _ hx1951_2)).trans hx1951_2; replace hx1951_3 := (HB.out.cell (World.block_lt_of_cell? w _ hx1951_3)).trans hx1951_3; replace hx1951_4 := (HB.out.cell (World.block_lt_of_cell? w _ hx1951_4)).trans hx1951_4; replace p1951 := eq_true p1951; replace q1951 := eq_true q1951) | ((with_reducible refine gate_builtin (b := .append) (xs := #[.tmp 39, .tmp 44]) rfl ?_); at_builtin; refine Kd.R_append k186 (w0 := w) w.heap.size rfl (.tmp 39) (.tmp 44) 97 186 (.agg #[(.int .i64 0), (.string ⟨#[]⟩), (.string ⟨#[]⟩), (.int .i64 0), (.int .i64 0)]) 56 rfl Try.underlying97 info186 rfl (by decide) (by omega) u5 x5_1 (⟨(rd_T186 l0 x6_1).f0, (rd_T186 l0 x6_1).f1, (rd_T186 l0 x6_1).f2, (rd_T186 l0 x6_1).f3, (rd_T186 l0 x6_1).f4⟩ : S186) [.int .i64 ((rd_T186 l0 x6_1).f0), .string ((rd_T186 l0 x6_1).f1), .string ((rd_T186 l0 x6_1).f2), .int .i64 ((rd_T186 l0 x6_1).f3), .int .i64 ((rd_T186 l0 x6_1).f4)] (fun _ => True) (fun _ => False) rfl rfl ?aP (fun _ hk => hk.elim) ?aF ?aO ?aB ?aS ?aL ?_; (case aP => exact k186_mkM _ _ _ (⟨(rd_T186 l0 x6_1).f0, (rd_T186 l0 x6_1).f1, (rd_T186 l0 x6_1).f2, (rd_T186 l0 x6_1).f3, (rd_T186 l0 x6_1).f4⟩ : S186)); (case aB => exact (by repeat (first | (with_reducible first | exact HB.out | apply below_alloc | apply pw_below_drewN | apply below_drew1 | refine below_set ?_ GE1943.out) | exact HB.out))); (case aF => exact (fun _ _ => trivial)); (case aO => exact (by (with_reducible repeat (first | apply Kd.R_alloc | apply Kd.R_drewN | apply Kd.R_drew)); exact HO_5.out)); (case aS => exact (below_size (by repeat (first | (with_reducible first | exact HB.out | apply below_alloc | apply pw_below_drewN | apply below_drew1 | refine below_set ?_ GE1943.out) | exact HB.out)))); (case aL => have := LMc13.out; omega); intro v1953 w15 ho hb hg hat; rw [← Ny1952.out] at ho; have n0_ := Aside0.mk (blk_grown (g := gb1943) (o := .cells #[.int .i64 a1_0, .slice (some ad1950) l1_1.length c1_1] 37 (0, 0)) (by (with_reducible repeat (first | refine blk_drewN ?_ _ | refine blk_drew ?_ | refine blk_alloc ?_ _)); exact BK1943.out) hg (Kd.R_ne HO_5.out BK1943.out (by decide))); have n1_ := Aside0.mk (hb); have n2_ := Aside0.mk (ho); clear BK1943; clear HB; clear HO_5; have BK1943 := n0_; have HB := n1_; have HO1954 := n2_; clear n0_ n1_ n2_; clear ho hb hg hat)); try go_wp2_with (first | (go_at_call 166; (with_reducible refine (spec_AcctAt.calls k1 _ _ l1_1 ((rd_T186 l0 x6_1).f1) t1948 _ ?side1 ?side2 A8.out).mono ?_); (case side1 => repeat (first | exact (Kd.C_below HR1_1.out HB.out) | (with_reducible refine Kd.C_alloc ?_ _) | (with_reducible refine Kd.C_drewN ?_ _) | (with_reducible refine Kd.C_drew ?_))); (case side2 => exact HC1_1.out); rintro e w' ⟨rfl, ⟨nd, rfl⟩⟩; (try first | exact ⟨rfl, _, World.drewN_drewN _ _ _⟩ | exact ⟨rfl, _, Eq.trans (World.drewN_drewN _ _ _) (congrArg (World.drewN _) (Nat.add_assoc _ _ _))⟩); have p1949 : 0 ≤ (x6_1 : Int) := of_decide_eq_true (by first | (with_reducible assumption) | assumption); have q1949 : x6_1 < (l0.length : Int) := of_decide_eq_true (by first | (with_reducible assumption) | assumption); obtain ⟨ad1949, e1949, hx1949_0, hx1949_1, hx1949_2, hx1949_3, hx1949_4⟩ := at_T186 HR0.out x6_1 p1949 q1949; obtain rfl : ad1947 = ad1949 := (by injection e1949); replace hx1949_0 := (HB.out.cell (World.block_lt_of_cell? w _ hx1949_0)).trans hx1949_0; replace hx1949_1 := (HB.out.cell (World.block_lt_of_cell? w _ hx1949_1)).trans hx1949_1; replace hx1949_2 := (HB.out.cell (World.block_lt_of_cell? w _ hx1949_2)).trans hx1949_2; replace hx1949_3 := (HB.out.cell (World.block_lt_of_cell? w _ hx1949_3)).trans hx1949_3; replace hx1949_4 := (HB.out.cell (World.block_lt_of_cell? w _ hx1949_4)).trans hx1949_4; replace p1949 := eq_true p1949; replace q1949 := eq_true q1949; have p1950 : 0 ≤ (t1948 : Int) := of_decide_eq_true (by first | (with_reducible assumption) | assumption); have q1950 : t1948 < (l1_1.length : Int) := of_decide_eq_true (by first | (with_reducible assumption) | assumption); obtain ⟨ad1950, A1950_4, c1950_4, e1950, hx1950_0, hx1950_1, hx1950_2, hx1950_3, hx1950_4, hl1950_4, hi1950_4⟩ := at_T43 HR1_1.out t1948 p1950 q1950; cases e1950; replace hx1950_0 := (HB.out.cell (World.block_lt_of_cell? w _ hx1950_0)).trans hx1950_0; replace hx1950_1 := (HB.out.cell (World.block_lt_of_cell? w _ hx1950_1)).trans hx1950_1; replace hx1950_2 := (HB.out.cell (World.block_lt_of_cell? w _ hx1950_2)).trans hx1950_2; replace hx1950_3 := (HB.out.cell (World.block_lt_of_cell? w _ hx1950_3)).trans hx1950_3; replace hx1950_4 := (HB.out.cell (World.block_lt_of_cell? w _ hx1950_4)).trans hx1950_4; have HR1950_4 := Aside0.mk hi1950_4; have HC1950_4 := Aside0.mk hl1950_4; clear hi1950_4 hl1950_4; replace p1950 := eq_true p1950; replace q1950 := eq_true q1950; have p1951 : 0 ≤ (x6_1 : Int) := of_decide_eq_true (by first | (with_reducible assumption) | assumption); have q1951 : x6_1 < (l0.length : Int) := of_decide_eq_true (by first | (with_reducible assumption) | assumption); obtain ⟨ad1951, e1951, hx1951_0, hx1951_1, hx1951_2, hx1951_3, hx1951_4⟩ := at_T186 HR0.out x6_1 p1951 q1951; obtain rfl : ad1947 = ad1951 := (by injection e1951); replace hx1951_0 := (HB.out.cell (World.block_lt_of_cell? w _ hx1951_0)).trans hx1951_0; replace hx1951_1 := (HB.out.cell (World.block_lt_of_cell? w _ hx1951_1)).trans hx1951_1; replace hx1951_2 := (HB.out.cell (World.block_lt_of_cell? w _ hx1951_2)).trans hx1951_2; replace hx1951_3 := (HB.out.cell (World.block_lt_of_cell? w _ hx1951_3)).trans hx1951_3; replace hx1951_4 := (HB.out.cell (World.block_lt_of_cell? w _ hx1951_4)).trans hx1951_4; replace p1951 := eq_true p1951; replace q1951 := eq_true q1951) | ((with_reducible refine gate_builtin (b := .append) (xs := #[.tmp 39, .tmp 44]) rfl ?_); at_builtin; refine Kd.R_append k186 (w0 := w) w.heap.size rfl (.tmp 39) (.tmp 44) 97 186 (.agg #[(.int .i64 0), (.string ⟨#[]⟩), (.string ⟨#[]⟩), (.int .i64 0), (.int .i64 0)]) 56 rfl Try.underlying97 info186 rfl (by decide) (by omega) u5 x5_1 (⟨(rd_T186 l0 x6_1).f0, (rd_T186 l0 x6_1).f1, (rd_T186 l0 x6_1).f2, (rd_T186 l0 x6_1).f3, (rd_T186 l0 x6_1).f4⟩ : S186) [.int .i64 ((rd_T186 l0 x6_1).f0), .string ((rd_T186 l0 x6_1).f1), .string ((rd_T186 l0 x6_1).f2), .int .i64 ((rd_T186 l0 x6_1).f3), .int .i64 ((rd_T186 l0 x6_1).f4)] (fun _ => True) (fun _ => False) rfl rfl ?aP (fun _ hk => hk.elim) ?aF ?aO ?aB ?aS ?aL ?_; (case aP => exact k186_mkM _ _ _ (⟨(rd_T186 l0 x6_1).f0, (rd_T186 l0 x6_1).f1, (rd_T186 l0 x6_1).f2, (rd_T186 l0 x6_1).f3, (rd_T186 l0 x6_1).f4⟩ : S186)); (case aB => exact (by repeat (first | (with_reducible first | exact HB.out | apply below_alloc | apply pw_below_drewN | apply below_drew1 | refine below_set ?_ GE1943.out) | exact HB.out))); (case aF => exact (fun _ _ => trivial)); (case aO => exact (by (with_reducible repeat (first | apply Kd.R_alloc | apply Kd.R_drewN | apply Kd.R_drew)); exact HO_5.out)); (case aS => exact (below_size (by repeat (first | (with_reducible first | exact HB.out | apply below_alloc | apply pw_below_drewN | apply below_drew1 | refine below_set ?_ GE1943.out) | exact HB.out)))); (case aL => have := LMc13.out; omega); intro v1953 w15 ho hb hg hat; rw [← Ny1952.out] at ho; have n0_ := Aside0.mk (blk_grown (g := gb1943) (o := .cells #[.int .i64 a1_0, .slice (some ad1950) l1_1.length c1_1] 37 (0, 0)) (by (with_reducible repeat (first | refine blk_drewN ?_ _ | refine blk_drew ?_ | refine blk_alloc ?_ _)); exact BK1943.out) hg (Kd.R_ne HO_5.out BK1943.out (by decide))); have n1_ := Aside0.mk (hb); have n2_ := Aside0.mk (ho); clear BK1943; clear HB; clear HO_5; have BK1943 := n0_; have HB := n1_; have HO1954 := n2_; clear n0_ n1_ n2_; clear ho hb hg hat)))
                    go_roundg k1
                    case measure => have := HK1.out; omega
                    case rel => exact ⟨(y1952), (wrap64 (x6_1 + 1)), (by first | rfl | (simp; done) | (simp [*]; done)), H', ⟨by have := HK1.out; omega⟩, ⟨by (with_reducible repeat (first | apply Kd.R_alloc | apply Kd.R_drewN | apply Kd.R_drew)); exact HO1954.out⟩, ⟨by (with_reducible repeat (first | refine blk_drewN ?_ _ | refine blk_drew ?_ | refine blk_alloc ?_ _)); exact BK1943.out⟩, ⟨by repeat (first | (with_reducible first | exact HB.out | apply below_alloc | apply pw_below_drewN | apply below_drew1 | refine below_set ?_ GE1943.out) | exact HB.out)⟩⟩
                  · rw [if_neg c13] at H
                    exact absurd H (by simp)
                · rw [if_neg c12] at H
                  have c12b0 : decide (((rd_T43 l1_1 t1948).f2) ≤ ((rd_T186 l0 x6_1).f4)) = false := decide_eq_false c12
                  clear c12
                  have H' := Aside0.mk H
                  clear H
                  obtain ⟨hcz16_0, hcz16_1⟩ := cells2 BK1943.out
                  obtain ⟨hfz16_0, hfz16_1⟩ := frozens2 BK1943.out
                  have p1947 : 0 ≤ (x6_1 : Int) := of_decide_eq_true (by first | (with_reducible assumption) | assumption)
                  have q1947 : x6_1 < (l0.length : Int) := of_decide_eq_true (by first | (with_reducible assumption) | assumption)
                  obtain ⟨ad1947, e1947, hx1947_0, hx1947_1, hx1947_2, hx1947_3, hx1947_4⟩ := at_T186 HR0.out x6_1 p1947 q1947
                  cases e1947
                  replace hx1947_0 := (HB.out.cell (World.block_lt_of_cell? w _ hx1947_0)).trans hx1947_0
                  replace hx1947_1 := (HB.out.cell (World.block_lt_of_cell? w _ hx1947_1)).trans hx1947_1
                  replace hx1947_2 := (HB.out.cell (World.block_lt_of_cell? w _ hx1947_2)).trans hx1947_2
                  replace hx1947_3 := (HB.out.cell (World.block_lt_of_cell? w _ hx1947_3)).trans hx1947_3
                  replace hx1947_4 := (HB.out.cell (World.block_lt_of_cell? w _ hx1947_4)).trans hx1947_4
                  replace p1947 := eq_true p1947
                  replace q1947 := eq_true q1947
                  go_wp2_with (first | (go_at_call 166; (with_reducible refine (spec_AcctAt.calls k1 _ _ l1_1 ((rd_T186 l0 x6_1).f1) t1948 _ ?side1 ?side2 A8.out).mono ?_); (case side1 => repeat (first | exact (Kd.C_below HR1_1.out HB.out) | (with_reducible refine Kd.C_alloc ?_ _) | (with_reducible refine Kd.C_drewN ?_ _) | (with_reducible refine Kd.C_drew ?_))); (case side2 => exact HC1_1.out); rintro e w' ⟨rfl, ⟨nd, rfl⟩⟩; (try first | exact ⟨rfl, _, World.drewN_drewN _ _ _⟩ | exact ⟨rfl, _, Eq.trans (World.drewN_drewN _ _ _) (congrArg (World.drewN _) (Nat.add_assoc _ _ _))⟩); have p1949 : 0 ≤ (x6_1 : Int) := of_decide_eq_true (by first | (with_reducible assumption) | assumption); have q1949 : x6_1 < (l0.length : Int) := of_decide_eq_true (by first | (with_reducible assumption) | assumption); obtain ⟨ad1949, e1949, hx1949_0, hx1949_1, hx1949_2, hx1949_3, hx1949_4⟩ := at_T186 HR0.out x6_1 p1949 q1949; obtain rfl : ad1947 = ad1949 := (by injection e1949); replace hx1949_0 := (HB.out.cell (World.block_lt_of_cell? w _ hx1949_0)).trans hx1949_0; replace hx1949_1 := (HB.out.cell (World.block_lt_of_cell? w _ hx1949_1)).trans hx1949_1; replace hx1949_2 := (HB.out.cell (World.block_lt_of_cell? w _ hx1949_2)).trans hx1949_2; replace hx1949_3 := (HB.out.cell (World.block_lt_of_cell? w _ hx1949_3)).trans hx1949_3; replace hx1949_4 := (HB.out.cell (World.block_lt_of_cell? w _ hx1949_4)).trans hx1949_4; replace p1949 := eq_true p1949; replace q1949 := eq_true q1949; have p1950 : 0 ≤ (t1948 : Int) := of_decide_eq_true (by first | (with_reducible assumption) | assumption); have q1950 : t1948 < (l1_1.length : Int) := of_decide_eq_true (by first | (with_reducible assumption) | assumption); obtain ⟨ad1950, A1950_4, c1950_4, e1950, hx1950_0, hx1950_1, hx1950_2, hx1950_3, hx1950_4, hl1950_4, hi1950_4⟩ := at_T43 HR1_1.out t1948 p1950 q1950; cases e1950; replace hx1950_0 := (HB.out.cell (World.block_lt_of_cell? w _ hx1950_0)).trans hx1950_0; replace hx1950_1 := (HB.out.cell (World.block_lt_of_cell? w _ hx1950_1)).trans hx1950_1; replace hx1950_2 := (HB.out.cell (World.block_lt_of_cell? w _ hx1950_2)).trans hx1950_2; replace hx1950_3 := (HB.out.cell (World.block_lt_of_cell? w _ hx1950_3)).trans hx1950_3; replace hx1950_4 := (HB.out.cell (World.block_lt_of_cell? w _ hx1950_4)).trans hx1950_4; have HR1950_4 := Aside0.mk hi1950_4; have HC1950_4 := Aside0.mk hl1950_4; clear hi1950_4 hl1950_4; replace p1950 := eq_true p1950; replace q1950 := eq_true q1950))
                  repeat (go_quiet (first | (go_at_call 166; (with_reducible refine (spec_AcctAt.calls k1 _ _ l1_1 ((rd_T186 l0 x6_1).f1) t1948 _ ?side1 ?side2 A8.out).mono ?_); (case side1 => repeat (first | exact (Kd.C_below HR1_1.out HB.out) | (with_reducible refine Kd.C_alloc ?_ _) | (with_reducible refine Kd.C_drewN ?_ _) | (with_reducible refine Kd.C_drew ?_))); (case side2 => exact HC1_1.out); rintro e w' ⟨rfl, ⟨nd, rfl⟩⟩; (try first | exact ⟨rfl, _, World.drewN_drewN _ _ _⟩ | exact ⟨rfl, _, Eq.trans (World.drewN_drewN _ _ _) (congrArg (World.drewN _) (Nat.add_assoc _ _ _))⟩); have p1949 : 0 ≤ (x6_1 : Int) := of_decide_eq_true (by first | (with_reducible assumption) | assumption); have q1949 : x6_1 < (l0.length : Int) := of_decide_eq_true (by first | (with_reducible assumption) | assumption); obtain ⟨ad1949, e1949, hx1949_0, hx1949_1, hx1949_2, hx1949_3, hx1949_4⟩ := at_T186 HR0.out x6_1 p1949 q1949; obtain rfl : ad1947 = ad1949 := (by injection e1949); replace hx1949_0 := (HB.out.cell (World.block_lt_of_cell? w _ hx1949_0)).trans hx1949_0; replace hx1949_1 := (HB.out.cell (World.block_lt_of_cell? w _ hx1949_1)).trans hx1949_1; replace hx1949_2 := (HB.out.cell (World.block_lt_of_cell? w _ hx1949_2)).trans hx1949_2; replace hx1949_3 := (HB.out.cell (World.block_lt_of_cell? w _ hx1949_3)).trans hx1949_3; replace hx1949_4 := (HB.out.cell (World.block_lt_of_cell? w _ hx1949_4)).trans hx1949_4; replace p1949 := eq_true p1949; replace q1949 := eq_true q1949; have p1950 : 0 ≤ (t1948 : Int) := of_decide_eq_true (by first | (with_reducible assumption) | assumption); have q1950 : t1948 < (l1_1.length : Int) := of_decide_eq_true (by first | (with_reducible assumption) | assumption); obtain ⟨ad1950, A1950_4, c1950_4, e1950, hx1950_0, hx1950_1, hx1950_2, hx1950_3, hx1950_4, hl1950_4, hi1950_4⟩ := at_T43 HR1_1.out t1948 p1950 q1950; cases e1950; replace hx1950_0 := (HB.out.cell (World.block_lt_of_cell? w _ hx1950_0)).trans hx1950_0; replace hx1950_1 := (HB.out.cell (World.block_lt_of_cell? w _ hx1950_1)).trans hx1950_1; replace hx1950_2 := (HB.out.cell (World.block_lt_of_cell? w _ hx1950_2)).trans hx1950_2; replace hx1950_3 := (HB.out.cell (World.block_lt_of_cell? w _ hx1950_3)).trans hx1950_3; replace hx1950_4 := (HB.out.cell (World.block_lt_of_cell? w _ hx1950_4)).trans hx1950_4; have HR1950_4 := Aside0.mk hi1950_4; have HC1950_4 := Aside0.mk hl1950_4; clear hi1950_4 hl1950_4; replace p1950 := eq_true p1950; replace q1950 := eq_true q1950)); try go_wp2_with (first | (go_at_call 166; (with_reducible refine (spec_AcctAt.calls k1 _ _ l1_1 ((rd_T186 l0 x6_1).f1) t1948 _ ?side1 ?side2 A8.out).mono ?_); (case side1 => repeat (first | exact (Kd.C_below HR1_1.out HB.out) | (with_reducible refine Kd.C_alloc ?_ _) | (with_reducible refine Kd.C_drewN ?_ _) | (with_reducible refine Kd.C_drew ?_))); (case side2 => exact HC1_1.out); rintro e w' ⟨rfl, ⟨nd, rfl⟩⟩; (try first | exact ⟨rfl, _, World.drewN_drewN _ _ _⟩ | exact ⟨rfl, _, Eq.trans (World.drewN_drewN _ _ _) (congrArg (World.drewN _) (Nat.add_assoc _ _ _))⟩); have p1949 : 0 ≤ (x6_1 : Int) := of_decide_eq_true (by first | (with_reducible assumption) | assumption); have q1949 : x6_1 < (l0.length : Int) := of_decide_eq_true (by first | (with_reducible assumption) | assumption); obtain ⟨ad1949, e1949, hx1949_0, hx1949_1, hx1949_2, hx1949_3, hx1949_4⟩ := at_T186 HR0.out x6_1 p1949 q1949; obtain rfl : ad1947 = ad1949 := (by injection e1949); replace hx1949_0 := (HB.out.cell (World.block_lt_of_cell? w _ hx1949_0)).trans hx1949_0; replace hx1949_1 := (HB.out.cell (World.block_lt_of_cell? w _ hx1949_1)).trans hx1949_1; replace hx1949_2 := (HB.out.cell (World.block_lt_of_cell? w _ hx1949_2)).trans hx1949_2; replace hx1949_3 := (HB.out.cell (World.block_lt_of_cell? w _ hx1949_3)).trans hx1949_3; replace hx1949_4 := (HB.out.cell (World.block_lt_of_cell? w _ hx1949_4)).trans hx1949_4; replace p1949 := eq_true p1949; replace q1949 := eq_true q1949; have p1950 : 0 ≤ (t1948 : Int) := of_decide_eq_true (by first | (with_reducible assumption) | assumption); have q1950 : t1948 < (l1_1.length : Int) := of_decide_eq_true (by first | (with_reducible assumption) | assumption); obtain ⟨ad1950, A1950_4, c1950_4, e1950, hx1950_0, hx1950_1, hx1950_2, hx1950_3, hx1950_4, hl1950_4, hi1950_4⟩ := at_T43 HR1_1.out t1948 p1950 q1950; cases e1950; replace hx1950_0 := (HB.out.cell (World.block_lt_of_cell? w _ hx1950_0)).trans hx1950_0; replace hx1950_1 := (HB.out.cell (World.block_lt_of_cell? w _ hx1950_1)).trans hx1950_1; replace hx1950_2 := (HB.out.cell (World.block_lt_of_cell? w _ hx1950_2)).trans hx1950_2; replace hx1950_3 := (HB.out.cell (World.block_lt_of_cell? w _ hx1950_3)).trans hx1950_3; replace hx1950_4 := (HB.out.cell (World.block_lt_of_cell? w _ hx1950_4)).trans hx1950_4; have HR1950_4 := Aside0.mk hi1950_4; have HC1950_4 := Aside0.mk hl1950_4; clear hi1950_4 hl1950_4; replace p1950 := eq_true p1950; replace q1950 := eq_true q1950)))
                  go_roundg k1
                  case measure => have := HK1.out; omega
                  case rel => exact ⟨(x5_1), (wrap64 (x6_1 + 1)), (by first | rfl | (simp; done) | (simp [*]; done)), H', ⟨by have := HK1.out; omega⟩, ⟨by (with_reducible repeat (first | apply Kd.R_alloc | apply Kd.R_drewN | apply Kd.R_drew)); exact HO_5.out⟩, ⟨by (with_reducible repeat (first | refine blk_drewN ?_ _ | refine blk_drew ?_ | refine blk_alloc ?_ _)); exact BK1943.out⟩, ⟨by repeat (first | (with_reducible first | exact HB.out | apply below_alloc | apply pw_below_drewN | apply below_drew1 | refine below_set ?_ GE1943.out) | exact HB.out)⟩⟩
              · rw [if_neg c11] at H
                exact absurd H (by simp)
            · rw [if_neg c10] at H
              exact absurd H (by simp)
          · rw [if_neg c9] at H
            have c9b0 : decide (0 ≤ t1948) = false := decide_eq_false c9
            clear c9
            have H' := Aside0.mk H
            clear H
            obtain ⟨hcz17_0, hcz17_1⟩ := cells2 BK1943.out
            obtain ⟨hfz17_0, hfz17_1⟩ := frozens2 BK1943.out
            have p1947 : 0 ≤ (x6_1 : Int) := of_decide_eq_true (by first | (with_reducible assumption) | assumption)
            have q1947 : x6_1 < (l0.length : Int) := of_decide_eq_true (by first | (with_reducible assumption) | assumption)
            obtain ⟨ad1947, e1947, hx1947_0, hx1947_1, hx1947_2, hx1947_3, hx1947_4⟩ := at_T186 HR0.out x6_1 p1947 q1947
            cases e1947
            replace hx1947_0 := (HB.out.cell (World.block_lt_of_cell? w _ hx1947_0)).trans hx1947_0
            replace hx1947_1 := (HB.out.cell (World.block_lt_of_cell? w _ hx1947_1)).trans hx1947_1
            replace hx1947_2 := (HB.out.cell (World.block_lt_of_cell? w _ hx1947_2)).trans hx1947_2
            replace hx1947_3 := (HB.out.cell (World.block_lt_of_cell? w _ hx1947_3)).trans hx1947_3
            replace hx1947_4 := (HB.out.cell (World.block_lt_of_cell? w _ hx1947_4)).trans hx1947_4
            replace p1947 := eq_true p1947
            replace q1947 := eq_true q1947
            go_wp2_with (first | (go_at_call 166; (with_reducible refine (spec_AcctAt.calls k1 _ _ l1_1 ((rd_T186 l0 x6_1).f1) t1948 _ ?side1 ?side2 A8.out).mono ?_); (case side1 => repeat (first | exact (Kd.C_below HR1_1.out HB.out) | (with_reducible refine Kd.C_alloc ?_ _) | (with_reducible refine Kd.C_drewN ?_ _) | (with_reducible refine Kd.C_drew ?_))); (case side2 => exact HC1_1.out); rintro e w' ⟨rfl, ⟨nd, rfl⟩⟩; (try first | exact ⟨rfl, _, World.drewN_drewN _ _ _⟩ | exact ⟨rfl, _, Eq.trans (World.drewN_drewN _ _ _) (congrArg (World.drewN _) (Nat.add_assoc _ _ _))⟩)))
            repeat (go_quiet (first | (go_at_call 166; (with_reducible refine (spec_AcctAt.calls k1 _ _ l1_1 ((rd_T186 l0 x6_1).f1) t1948 _ ?side1 ?side2 A8.out).mono ?_); (case side1 => repeat (first | exact (Kd.C_below HR1_1.out HB.out) | (with_reducible refine Kd.C_alloc ?_ _) | (with_reducible refine Kd.C_drewN ?_ _) | (with_reducible refine Kd.C_drew ?_))); (case side2 => exact HC1_1.out); rintro e w' ⟨rfl, ⟨nd, rfl⟩⟩; (try first | exact ⟨rfl, _, World.drewN_drewN _ _ _⟩ | exact ⟨rfl, _, Eq.trans (World.drewN_drewN _ _ _) (congrArg (World.drewN _) (Nat.add_assoc _ _ _))⟩))); try go_wp2_with (first | (go_at_call 166; (with_reducible refine (spec_AcctAt.calls k1 _ _ l1_1 ((rd_T186 l0 x6_1).f1) t1948 _ ?side1 ?side2 A8.out).mono ?_); (case side1 => repeat (first | exact (Kd.C_below HR1_1.out HB.out) | (with_reducible refine Kd.C_alloc ?_ _) | (with_reducible refine Kd.C_drewN ?_ _) | (with_reducible refine Kd.C_drew ?_))); (case side2 => exact HC1_1.out); rintro e w' ⟨rfl, ⟨nd, rfl⟩⟩; (try first | exact ⟨rfl, _, World.drewN_drewN _ _ _⟩ | exact ⟨rfl, _, Eq.trans (World.drewN_drewN _ _ _) (congrArg (World.drewN _) (Nat.add_assoc _ _ _))⟩))))
            go_roundg k1
            case measure => have := HK1.out; omega
            case rel => exact ⟨(x5_1), (wrap64 (x6_1 + 1)), (by first | rfl | (simp; done) | (simp [*]; done)), H', ⟨by have := HK1.out; omega⟩, ⟨by (with_reducible repeat (first | apply Kd.R_alloc | apply Kd.R_drewN | apply Kd.R_drew)); exact HO_5.out⟩, ⟨by (with_reducible repeat (first | refine blk_drewN ?_ _ | refine blk_drew ?_ | refine blk_alloc ?_ _)); exact BK1943.out⟩, ⟨by repeat (first | (with_reducible first | exact HB.out | apply below_alloc | apply pw_below_drewN | apply below_drew1 | refine below_set ?_ GE1943.out) | exact HB.out)⟩⟩
        · rw [if_neg c7] at H
          exact absurd H (by simp)
      · rw [if_neg c6] at H
        have c6b0 : decide (x6_1 < (l0.length : Int)) = false := decide_eq_false c6
        clear c6
        obtain rfl := Option.some.inj H
        go_wp2
        repeat (go_quiet (fail); try go_wp2)
        go_ret
        exact ⟨_, by first | rfl | (simp [errW_none, errW_some] <;> rfl) | (simp [*, errW_none, errW_some] <;> rfl), by (with_reducible repeat (first | apply Kd.R_alloc | apply Kd.R_drewN | apply Kd.R_drew)); exact HO_5.out, by repeat (first | (with_reducible first | exact HB.out | apply below_alloc | apply pw_below_drewN | apply below_drew1 | refine below_set ?_ GE1943.out) | exact HB.out)⟩

theorem spec_PoolDrop.is {l : List S186} {e : Int} {ac : List S43} (hl : l.length ≤ 1048576) (ha : ac.length ≤ 1048576) : Ev (fun k => spec_PoolDrop.f k l e ac) (poolDrop l ac) := by
  have hm : maxLen = 9223372036854775807 := rfl
  unfold spec_PoolDrop.f
  have key : ∀ (ys pre : List S186), l = pre ++ ys → Ev (fun k => spec_PoolDrop.l0 k l (poolDrop pre ac) (pre.length : Int) e ac) (poolDrop l ac) := by
    intro ys
    induction ys with
    | nil =>
      intro pre hx
      obtain rfl : l = pre := by rw [hx, List.append_nil]
      refine Ev.up ?_
      simp only [spec_PoolDrop.l0]
      exact Ev.no (by omega) (Ev.now _)
    | cons y ys ih =>
      intro pre hx
      have hp := len_app hx
      have hrd : rd_T186 l pre.length = y := by rw [hx]; exact at_app pre y ys _
      have hn := ih (pre ++ [y]) (by rw [hx]; simp)
      have hlen := poolDrop_le pre ac
      have h1 := acctIdx_hi ac y.f1
      rw [poolDrop_next, List.length_append, List.length_singleton] at hn
      refine Ev.up ?_
      simp only [spec_PoolDrop.l0, hrd]
      rw [unw (x := (pre.length : Int) + 1) (by omega) (by omega)]
      refine Ev.yes (by omega) (Ev.yes (by omega) (Ev.bind (spec_AcctAt.is (by omega)) ?_))
      have hk : keptTx ac y = (decide (acctIdx ac y.f1 ≥ 0) && decide (y.f4 ≥ (rd_T43 ac (acctIdx ac y.f1)).f2)) := rfl
      refine Ev.cond (fun hc => Ev.yes (by omega) (Ev.yes (by omega) (Ev.cond (fun hq => Ev.yes (by omega) ?_) (fun hq => ?_)))) (fun hc => ?_)
      · rw [if_pos (by rw [hk, decide_eq_true hc, decide_eq_true hq]; rfl)] at hn
        exact hn
      · rw [if_neg (by rw [hk, decide_eq_false hq, Bool.and_false]; decide)] at hn
        exact hn
      · rw [if_neg (by rw [hk, decide_eq_false hc, Bool.false_and]; decide)] at hn
        exact hn
  exact key l [] rfl

/-! ### slices.IndexFunc of accounts: walked in this session -/
set_option maxHeartbeats 1000000 in
set_option maxRecDepth 100000 in
theorem slices_IndexFunc_impl_Acct_impl_Acct.does {p : S43 → Bool} {f : Nat} {lb : Array Value} (eg : ∀ args w, (callFunc f args).run Try.prog w = .ok (.enter f args) w) {l : List S43} (hl : l.length ≤ maxLen) {B : Option Addr} {c : Nat} {w : World} (hr : Kd.C k43 w B l.length l) (hc : l.length ≤ c)
    (hp : ∀ (e : On w) (v : S43) (cs : List Value), k43.K e.now v cs → Calls Try.prog f (#[.agg cs.toArray] ++ lb) e.now fun r W => r = .returned (.bool (p v)) ∧ Below e.now.heap.size e.now W) :
    Calls Try.prog 214 #[.slice B l.length c, .func (.func f) #[] lb] w fun e w' => e = .returned (.int .i64 (idxOf p l)) ∧ Below w.heap.size w w' := by
  have hn : (l.length : Int) ≤ 9223372036854775807 := by have : maxLen = 9223372036854775807 := rfl; omega
  have HR := Aside0.mk hr
  have HP := Aside0.mk hp
  clear hr hp hl
  go_enter Try.func214, Try.ntmps214
  go_wp2
  go_loopg [5, 8] l.length (fun g _ v8 w' => ∃ (i : Int) (e : On w), v8 = .int .i64 i ∧ w' = e.now ∧ 0 ≤ i ∧ i ≤ l.length ∧ Aside0 ((l.length : Int) - i ≤ g) ∧ Aside0 (∀ j, j < i.toNat → p (l.getD j z43) = false))
  case atStart => exact ⟨0, On.here w, rfl, rfl, Int.le_refl _, by omega, ⟨by omega⟩, ⟨fun j hj => absurd hj (by simp)⟩⟩
  case round =>
    obtain ⟨i, e, rfl, rfl, hi0, hi1, HG, HA⟩ := hrel
    by_cases c1 : i < (l.length : Int)
    · obtain ⟨ad, A4, u4, e1, h0, h1, h2, h3, h4, l4, g4⟩ := at_T43 HR.out i hi0 c1
      cases e1
      have E1 := Aside0.mk (fun e : On w => HP.out e (rd_T43 l i) _ (On.val (k43_mk w (rd_T43 l i) l4 g4) e))
      have R0 := On.cell h0
      have R1 := On.cell h1
      have R2 := On.cell h2
      have R3 := On.cell h3
      have R4 := On.cell h4
      clear h0 h1 h2 h3 h4 l4 g4
      cases hb1 : p (rd_T43 l i)
      · rw [hb1] at E1
        have HT : Aside0 (p (l.getD i.toNat z43) = false) := ⟨hb1⟩
        clear hb1
        go_wp2_with fail
        refine BW.call (E1.out _) (fun e2 => ?_)
        go_wp2
        go_roundg (l.length - i.toNat - 1)
        case measure => have := HG.out; omega
        case rel => exact ⟨i + 1, e2, rfl, rfl, by omega, by omega, ⟨by omega⟩, ⟨upto_next hi0 HA.out HT.out⟩⟩
      · rw [hb1] at E1
        have HF := Aside0.mk (idxOf_hit (z := z43) (i := i.toNat) (by omega) hb1 HA.out)
        clear hb1
        go_wp2_with fail
        refine BW.call (E1.out _) (fun e2 => ?_)
        go_wp2
        go_ret
        exact ⟨by rw [HF.out, Int.toNat_of_nonneg hi0]; rfl, e2.ok⟩
    · have HF := Aside0.mk (idxOf_miss (z := z43) (l := l) (fun j hj => HA.out j (by omega)))
      go_wp2
      go_ret
      exact ⟨by rw [HF.out]; rfl, e.ok⟩

/-! ### impl_AcctAt_1: walked in this session (the function value of AcctAt) -/
set_option maxHeartbeats 1000000 in
theorem impl_AcctAt_1.does {v : S43} {g : Nat} {s : ByteArray} {cs : List Value} {w : World} (hs : w.cell? ⟨g, 0, none⟩ = some (.string s)) (hK : k43.K w v cs) :
    Calls Try.prog 215 #[.agg cs.toArray, .pointer (some ⟨g, 0, none⟩)] w fun e w' => e = .returned (.bool (acctIs s v)) ∧ Below w.heap.size w w' := by
  obtain ⟨A4, u4, rfl, l4, g4⟩ := k43_open hK
  clear hK l4 g4
  have hb : g < w.heap.size := World.block_lt_of_cell? w _ hs
  have hne : g ≠ w.heap.size := by omega
  have HF : Aside0 ((v.f0.toList == s.toList) = acctIs s v) := ⟨rfl⟩
  go_enter Try.func215, Try.ntmps215
  go_wp2
  go_ret
  exact ⟨by rw [← HF.out]; rfl, below_alloc (Below.refl _ _) _⟩

/-! ### impl_AcctAt: walked in this session -/
set_option maxHeartbeats 400000 in
theorem impl_AcctAt.does {l : List S43} (hl : l.length ≤ maxLen) {s : ByteArray} {B : Option Addr} {c : Nat} {w : World} (hr : Kd.C k43 w B l.length l) (hc : l.length ≤ c) :
    Calls Try.prog 168 #[.slice B l.length c, .string s] w fun e w' => e = .returned (.int .i64 (acctIdx l s)) ∧ Below w.heap.size w w' := by
  have eg : ∀ args w, (callFunc 215 args).run Try.prog w = .ok (.enter 215 args) w := fun args w => enters_ Try.func215 (by kernel_rfl) rfl args w
  have N0 := On.new (e := On.here w) (cs := #[.string s]) (t := 9) (i := 0) rfl
  have HI := Aside0.mk (slices_IndexFunc_impl_Acct_impl_Acct.does (p := acctIs s) (lb := #[.pointer (some ⟨w.heap.size, 0, none⟩)]) eg hl (w := w.alloc (.cells #[.string s] 9)) (Kd.C_alloc hr _) hc (fun e v cs hK => impl_AcctAt_1.does (N0 e) hK))
  clear hr hl eg N0
  have HF : Aside0 (idxOf (acctIs s) l = acctIdx l s) := ⟨rfl⟩
  generalize idxOf (acctIs s) l = b at *
  go_enter Try.func168, Try.ntmps168
  go_wp2_with (go_at_call 214; refine HI.out.mono ?_; rintro e w' ⟨rfl, hb⟩)
  go_ret
  exact ⟨by rw [← HF.out]; rfl, below_then (below_alloc (Below.refl _ _) _) (by simp) hb⟩

/-- What AcctAt comes to, told as the printer tells it (the true function is walked by hand above). -/
def impl_AcctAt.f (_k : Nat) (l0 : List S43) (a1 : ByteArray) : Option Int := if l0.length ≤ maxLen then some (acctIdx l0 a1) else none
theorem impl_AcctAt.mono : ∀ a0 a1 k, LeO (impl_AcctAt.f k a0 a1) (impl_AcctAt.f (k + 1) a0 a1) := fun _ _ _ => LeO.refl _
theorem impl_AcctAt.calls (k : Nat) (A0 : Option Addr) (c0 : Nat) (l0 : List S43) (a1 : ByteArray) (r : Int) (w : World) (hr0 : Kd.C k43 w A0 l0.length l0) (hc0 : l0.length ≤ c0) (h : impl_AcctAt.f k l0 a1 = some r) :
    Calls Try.prog 168 #[.slice A0 l0.length c0, .string a1] w fun e w' => e = .returned (.int .i64 r) ∧ Below w.heap.size w w' := by
  unfold impl_AcctAt.f at h
  split at h
  · next hl =>
    cases h
    exact impl_AcctAt.does hl hr0 hc0
  · cases h
theorem impl_AcctAt.is {l : List S43} {s : ByteArray} (hl : l.length ≤ maxLen) : Ev (fun k => impl_AcctAt.f k l s) (acctIdx l s) := by
  unfold impl_AcctAt.f
  rw [if_pos hl]
  exact Ev.now _

/-! ### impl_PoolDrop: function 86 -/
def impl_PoolDrop.l0 : Nat → List (S186) → List (S186) → Int → Int → Int → List (S43) → Option ((List (S186)))
  | 0, _, _, _, _, _, _ => none
  | k + 1, x5, x9, x10, x11, x1958000, x1958001 => if x11 < x10 then (if 0 ≤ x11 then (if x11 < (x9.length : Int) then ((impl_AcctAt.f k x1958001 ((rd_T186 x9 x11).f1)).bind fun t1960 => (if t1960 ≥ 0 then (if 0 ≤ t1960 then (if t1960 < (x1958001.length : Int) then (if ((rd_T186 x9 x11).f4) ≥ ((rd_T43 x1958001 t1960).f2) then (if x5.length < 2513169434916 then (impl_PoolDrop.l0 k (x5 ++ [(⟨(rd_T186 x9 x11).f0, (rd_T186 x9 x11).f1, (rd_T186 x9 x11).f2, (rd_T186 x9 x11).f3, (rd_T186 x9 x11).f4⟩ : S186)]) x9 x10 (wrap64 (x11 + 1)) x1958000 x1958001) else (none)) else (impl_PoolDrop.l0 k x5 x9 x10 (wrap64 (x11 + 1)) x1958000 x1958001)) else (none)) else (none)) else (impl_PoolDrop.l0 k x5 x9 x10 (wrap64 (x11 + 1)) x1958000 x1958001))) else (none)) else (none)) else (some x5)
def impl_PoolDrop.f (k : Nat) (l0 : List (S186)) (a1_0 : Int) (l1_1 : List (S43)) : Option ((List (S186))) := impl_PoolDrop.l0 k ([] : List (S186)) l0 (l0.length : Int) 0 a1_0 l1_1
theorem impl_PoolDrop.mono_l : ∀ k, (∀ y0 y1 y2 y3 y4 y5, LeO (impl_PoolDrop.l0 k y0 y1 y2 y3 y4 y5) (impl_PoolDrop.l0 (k + 1) y0 y1 y2 y3 y4 y5))
  | 0 => fun _ _ _ _ _ _ r h => by simp [impl_PoolDrop.l0] at h
  | k + 1 => by
    have ih0 := impl_PoolDrop.mono_l k
    · intro y0 y1 y2 y3 y4 y5
      unfold impl_PoolDrop.l0
      repeat' first
      | (with_reducible exact ih0 _ _ _ _ _ _)
      | (with_reducible exact impl_AcctAt.mono _ _ _)
      | (with_reducible exact LeO.refl _)
      | (with_reducible exact LeO.none _)
      | (with_reducible refine LeO.ite ?_ ?_)
      | (with_reducible refine LeO.bind ?_ (fun _ => ?_))
      | exact ih0 _ _ _ _ _ _
      | exact impl_AcctAt.mono _ _ _
      | exact LeO.none _
      | refine LeO.ite ?_ ?_
      | refine LeO.bind ?_ (fun _ => ?_)
theorem impl_PoolDrop.mono : ∀ a0 a1 a2 k, LeO (impl_PoolDrop.f k a0 a1 a2) (impl_PoolDrop.f (k + 1) a0 a1 a2) := by
  intro a0 a1 a2 k
  have ih0 := impl_PoolDrop.mono_l k
  unfold impl_PoolDrop.f
  repeat' first
      | (with_reducible exact ih0 _ _ _ _ _ _)
      | (with_reducible exact impl_AcctAt.mono _ _ _)
      | (with_reducible exact LeO.refl _)
      | (with_reducible exact LeO.none _)
      | (with_reducible refine LeO.ite ?_ ?_)
      | (with_reducible refine LeO.bind ?_ (fun _ => ?_))
      | exact ih0 _ _ _ _ _ _
      | exact impl_AcctAt.mono _ _ _
      | exact LeO.none _
      | refine LeO.ite ?_ ?_
      | refine LeO.bind ?_ (fun _ => ?_)
set_option maxHeartbeats 8000000 in
set_option maxRecDepth 100000 in
theorem impl_PoolDrop.calls (k : Nat) (A0 : Option Addr) (c0 : Nat) (l0 : List (S186)) (a1_0 : Int) (A1_1 : Option Addr) (c1_1 : Nat) (l1_1 : List (S43)) (r : List (S186)) (w : World) (hr0 : Kd.C k186 w A0 l0.length l0) (hc0 : l0.length ≤ c0) (hr1_1 : Kd.C k43 w A1_1 l1_1.length l1_1) (hc1_1 : l1_1.length ≤ c1_1) (h : impl_PoolDrop.f k l0 a1_0 l1_1 = some r) :
    Calls Try.prog 86 #[.slice A0 l0.length c0, .agg #[.int .i64 a1_0, .slice A1_1 l1_1.length c1_1]] w fun e w' => ∃ v0_ : Value, e = .returned (v0_) ∧ Kd.R k186 186 w' w.heap.size (fun _ => True) v0_ r ∧ Below w.heap.size w w' := by
  have hu37 := Try.underlying37
  have hu186 := Try.underlying186
  have HR0 := Aside0.mk hr0
  have HC0 := Aside0.mk hc0
  clear hr0 hc0
  have HR1_1 := Aside0.mk hr1_1
  have HC1_1 := Aside0.mk hc1_1
  clear hr1_1 hc1_1
  have HB := Aside0.mk (Below.refl w.heap.size w)
  have H : (impl_PoolDrop.l0 k ([] : List (S186)) l0 (l0.length : Int) 0 a1_0 l1_1) = some r := h
  clear h
  have H' := Aside0.mk H
  clear H
  go_enter Try.func86, Try.ntmps86
  go_wp2_with (first | ((with_reducible refine gate_dst (N := 3) rfl ?_); refine box_event ?hg (N := 3) ?hd (cs := #[.int .i64 a1_0, .slice A1_1 l1_1.length c1_1]) (t := 37) ?hr ?_; (case hd => rfl); (case hg => rfl); (case hr => first | (go_simp; done) | (go_simp; rfl)); intro gb1957 hg w3 hbox hb; have n0_ := Aside0.mk (below_step (by repeat (first | (with_reducible first | exact HB.out | apply below_alloc | apply pw_below_drewN | apply below_drew1) | exact HB.out)) hb); have n1_ := Aside0.mk (hbox); have n2_ := Aside0.mk ((by rw [hg]; exact (below_size (by repeat (first | (with_reducible first | exact HB.out | apply below_alloc | apply pw_below_drewN | apply below_drew1) | exact HB.out))) : w.heap.size ≤ gb1957)); have n3_ := n2_; clear HB; have HB := n0_; have BK1957 := n1_; have GW1957 := n2_; have GE1957 := n3_; clear n0_ n1_ n2_ n3_; clear hb hbox hg))
  repeat (go_quiet (first | ((with_reducible refine gate_dst (N := 3) rfl ?_); refine box_event ?hg (N := 3) ?hd (cs := #[.int .i64 a1_0, .slice A1_1 l1_1.length c1_1]) (t := 37) ?hr ?_; (case hd => rfl); (case hg => rfl); (case hr => first | (go_simp; done) | (go_simp; rfl)); intro gb1957 hg w3 hbox hb; have n0_ := Aside0.mk (below_step (by repeat (first | (with_reducible first | exact HB.out | apply below_alloc | apply pw_below_drewN | apply below_drew1) | exact HB.out)) hb); have n1_ := Aside0.mk (hbox); have n2_ := Aside0.mk ((by rw [hg]; exact (below_size (by repeat (first | (with_reducible first | exact HB.out | apply below_alloc | apply pw_below_drewN | apply below_drew1) | exact HB.out))) : w.heap.size ≤ gb1957)); have n3_ := n2_; clear HB; have HB := n0_; have BK1957 := n1_; have GW1957 := n2_; have GE1957 := n3_; clear n0_ n1_ n2_ n3_; clear hb hbox hg)); try go_wp2_with (first | ((with_reducible refine gate_dst (N := 3) rfl ?_); refine box_event ?hg (N := 3) ?hd (cs := #[.int .i64 a1_0, .slice A1_1 l1_1.length c1_1]) (t := 37) ?hr ?_; (case hd => rfl); (case hg => rfl); (case hr => first | (go_simp; done) | (go_simp; rfl)); intro gb1957 hg w3 hbox hb; have n0_ := Aside0.mk (below_step (by repeat (first | (with_reducible first | exact HB.out | apply below_alloc | apply pw_below_drewN | apply below_drew1) | exact HB.out)) hb); have n1_ := Aside0.mk (hbox); have n2_ := Aside0.mk ((by rw [hg]; exact (below_size (by repeat (first | (with_reducible first | exact HB.out | apply below_alloc | apply pw_below_drewN | apply below_drew1) | exact HB.out))) : w.heap.size ≤ gb1957)); have n3_ := n2_; clear HB; have HB := n0_; have BK1957 := n1_; have GW1957 := n2_; have GE1957 := n3_; clear n0_ n1_ n2_ n3_; clear hb hbox hg)))
  go_loopg [5, 11] k (fun kq v5 v11 w' => ∃ (x5_1 : List (S186)) (x11_1 : Int), v11 = .int .i64 x11_1 ∧ Aside0 (impl_PoolDrop.l0 kq x5_1 l0 (l0.length : Int) x11_1 a1_0 l1_1 = some r) ∧ Aside0 (kq ≤ k) ∧ Aside0 (Kd.R k186 186 w' w.heap.size (fun _ => True) v5 x5_1) ∧ Aside0 (w'.heap[gb1957]? = some (.cells #[.int .i64 a1_0, (.slice A1_1 l1_1.length c1_1)] 37 (0, 0))) ∧ Aside0 (Below w.heap.size w w'))
  case atStart => exact ⟨(([] : List (S186))), (0), (by first | rfl | (simp; done) | (simp [*]; done)), H', ⟨Nat.le_refl _⟩, ⟨by first | exact Kd.R_nil _ _ _ _ _ | exact Kd.N_nil _ _ _ _ _ | exact Kd.V_nil _ _ _ _ _ | exact Kd.Q_nil _ _ _ _ _ | exact Kd.S_nil _ _ _ _ _⟩, ⟨by (with_reducible repeat (first | refine blk_drewN ?_ _ | refine blk_drew ?_ | refine blk_alloc ?_ _)); exact BK1957.out⟩, ⟨by repeat (first | (with_reducible first | exact HB.out | apply below_alloc | apply pw_below_drewN | apply below_drew1 | refine below_set ?_ GE1957.out) | exact HB.out)⟩⟩
  case round =>
    clear H'
    try clear c1
    try clear p2
    obtain ⟨x5_1, x11_1, rfl, HA, HK1, HO_5, BK1957, HB⟩ := hrel
    cases gk with
    | zero => exact absurd HA.out (by simp [impl_PoolDrop.l0])
    | succ k1 =>
      have H := HA.out
      clear HA
      simp only [impl_PoolDrop.l0] at H
      by_cases c4 : x11_1 < (l0.length : Int)
      · rw [if_pos c4] at H
        have c4b0 : decide (x11_1 < (l0.length : Int)) = true := decide_eq_true c4
        clear c4
        by_cases c5 : 0 ≤ x11_1
        · rw [if_pos c5] at H
          have c5b0 : decide (0 ≤ x11_1) = true := decide_eq_true c5
          clear c5
          by_cases c6 : x11_1 < (l0.length : Int)
          · rw [if_pos c6] at H
            have c6b0 : decide (x11_1 < (l0.length : Int)) = true := decide_eq_true c6
            clear c6
            replace H := Option.bind_eq_some_iff.mp H
            obtain ⟨t1960, A70, H⟩ := H
            replace H : (if t1960 ≥ 0 then (if 0 ≤ t1960 then (if t1960 < (l1_1.length : Int) then (if ((rd_T186 l0 x11_1).f4) ≥ ((rd_T43 l1_1 t1960).f2) then (if x5_1.length < 2513169434916 then (impl_PoolDrop.l0 k1 (x5_1 ++ [(⟨(rd_T186 l0 x11_1).f0, (rd_T186 l0 x11_1).f1, (rd_T186 l0 x11_1).f2, (rd_T186 l0 x11_1).f3, (rd_T186 l0 x11_1).f4⟩ : S186)]) l0 (l0.length : Int) (wrap64 (x11_1 + 1)) a1_0 l1_1) else (none)) else (impl_PoolDrop.l0 k1 x5_1 l0 (l0.length : Int) (wrap64 (x11_1 + 1)) a1_0 l1_1)) else (none)) else (none)) else (impl_PoolDrop.l0 k1 x5_1 l0 (l0.length : Int) (wrap64 (x11_1 + 1)) a1_0 l1_1)) = some r := H
            have A7 := Aside0.mk A70
            clear A70
            by_cases c8 : t1960 ≥ 0
            · rw [if_pos c8] at H
              have c8b0 : decide (0 ≤ t1960) = true := decide_eq_true c8
              clear c8
              by_cases c9 : 0 ≤ t1960
              · rw [if_pos c9] at H
                have c9b0 : decide (0 ≤ t1960) = true := decide_eq_true c9
                clear c9
                by_cases c10 : t1960 < (l1_1.length : Int)
                · rw [if_pos c10] at H
                  have c10b0 : decide (t1960 < (l1_1.length : Int)) = true := decide_eq_true c10
                  clear c10
                  by_cases c11 : ((rd_T186 l0 x11_1).f4) ≥ ((rd_T43 l1_1 t1960).f2)
                  · rw [if_pos c11] at H
                    have c11b0 : decide (((rd_T43 l1_1 t1960).f2) ≤ ((rd_T186 l0 x11_1).f4)) = true := decide_eq_true c11
                    clear c11
                    by_cases c12 : x5_1.length < 2513169434916
                    · rw [if_pos c12] at H
                      have LMc12 := Aside0.mk c12
                      clear c12
                      obtain ⟨y1962, hy1962⟩ : ∃ y_ : List (S186), y_ = (x5_1 ++ [(⟨(rd_T186 l0 x11_1).f0, (rd_T186 l0 x11_1).f1, (rd_T186 l0 x11_1).f2, (rd_T186 l0 x11_1).f3, (rd_T186 l0 x11_1).f4⟩ : S186)]) := ⟨_, rfl⟩
                      replace H : (impl_PoolDrop.l0 k1 y1962 l0 (l0.length : Int) (wrap64 (x11_1 + 1)) a1_0 l1_1) = some r := by first | (rw [hy1962]; with_reducible exact H) | (have H2_ := (Option.bind_some _ _).symm.trans H; rw [hy1962]; with_reducible exact H2_) | (have H2_ := (Option.bind_some _ _).symm.trans H; with_reducible exact H2_) | with_reducible exact H | (rw [hy1962]; exact H) | exact H
                      have Ny1962 := Aside0.mk hy1962
                      clear hy1962
                      have H' := Aside0.mk H
                      clear H
                      have p1958 : 0 ≤ (x11_1 : Int) := of_decide_eq_true (by first | (with_reducible assumption) | assumption)
                      have q1958 : x11_1 < (l0.length : Int) := of_decide_eq_true (by first | (with_reducible assumption) | assumption)
                      obtain ⟨ad1958, e1958, hx1958_0, hx1958_1, hx1958_2, hx1958_3, hx1958_4⟩ := at_T186 HR0.out x11_1 p1958 q1958
                      cases e1958
                      replace hx1958_0 := (HB.out.cell (World.block_lt_of_cell? w _ hx1958_0)).trans hx1958_0
                      replace hx1958_1 := (HB.out.cell (World.block_lt_of_cell? w _ hx1958_1)).trans hx1958_1
                      replace hx1958_2 := (HB.out.cell (World.block_lt_of_cell? w _ hx1958_2)).trans hx1958_2
                      replace hx1958_3 := (HB.out.cell (World.block_lt_of_cell? w _ hx1958_3)).trans hx1958_3
                      replace hx1958_4 := (HB.out.cell (World.block_lt_of_cell? w _ hx1958_4)).trans hx1958_4
                      replace p1958 := eq_true p1958
                      replace q1958 := eq_true q1958
                      go_wp2_with (first | ((with_reducible refine gate_dst (N := 7) rfl ?_); refine box_event ?hg (N := 7) ?hd (cs := #[.int .i64 0, .string (⟨#[]⟩ : ByteArray), .string (⟨#[]⟩ : ByteArray), .int .i64 0, .int .i64 0]) (t := 186) ?hr ?_; (case hd => rfl); (case hg => rfl); (case hr => first | (go_simp; done) | (go_simp; rfl)); intro gb1959 hg w13 hbox hb; have n0_ := Aside0.mk (Kd.R_below (Kd.R_elderB (by (with_reducible repeat (first | apply Kd.R_alloc | apply Kd.R_drewN | apply Kd.R_drew)); exact HO_5.out) gb1959 (Nat.le_of_eq hg.symm)) hb); have n1_ := Aside0.mk (blk_below (g := gb1957) (by (with_reducible repeat (first | refine blk_drewN ?_ _ | refine blk_drew ?_ | refine blk_alloc ?_ _)); exact BK1957.out) hb); have n2_ := Aside0.mk (below_step (by repeat (first | (with_reducible first | exact HB.out | apply below_alloc | apply pw_below_drewN | apply below_drew1 | refine below_set ?_ GE1957.out) | exact HB.out)) hb); have n3_ := Aside0.mk (hbox); have n4_ := Aside0.mk ((by rw [hg]; exact (below_size (by repeat (first | (with_reducible first | exact HB.out | apply below_alloc | apply pw_below_drewN | apply below_drew1 | refine below_set ?_ GE1957.out) | exact HB.out))) : w.heap.size ≤ gb1959)); have n5_ := Aside0.mk ((by rw [hg]; exact (below_size (by repeat (first | (with_reducible first | exact HB.out | apply below_alloc | apply pw_below_drewN | apply below_drew1 | refine below_set ?_ GE1957.out) | exact HB.out))) : w.heap.size ≤ gb1959)); have n6_ := Aside0.mk ((by rw [hg]; exact Nat.ne_of_lt (blk_lt (g := gb1957) (o := .cells #[.int .i64 a1_0, .slice A1_1 l1_1.length c1_1] 37 (0, 0)) (by (with_reducible repeat (first | refine blk_drewN ?_ _ | refine blk_drew ?_ | refine blk_alloc ?_ _)); exact BK1957.out)) : gb1957 ≠ gb1959)); have n7_ := Aside0.mk ((by rw [hg]; exact Nat.ne_of_gt (blk_lt (g := gb1957) (o := .cells #[.int .i64 a1_0, .slice A1_1 l1_1.length c1_1] 37 (0, 0)) (by (with_reducible repeat (first | refine blk_drewN ?_ _ | refine blk_drew ?_ | refine blk_alloc ?_ _)); exact BK1957.out)) : gb1959 ≠ gb1957)); clear HO_5; clear BK1957; clear HB; have HO_5 := n0_; have BK1957 := n1_; have HB := n2_; have BK1959 := n3_; have GW1959 := n4_; have GE1959 := n5_; have NB1957_1959 := n6_; have NB1959_1957 := n7_; clear n0_ n1_ n2_ n3_ n4_ n5_ n6_ n7_; clear hb hbox hg; have hnb14 := NB1959_1957.out; have hnc14 := NB1957_1959.out; obtain ⟨hcz15_0, hcz15_1, hcz15_2, hcz15_3, hcz15_4⟩ := cells5 BK1959.out; obtain ⟨hfz15_0, hfz15_1, hfz15_2, hfz15_3, hfz15_4⟩ := frozens5 BK1959.out; obtain ⟨hcz16_0, hcz16_1⟩ := cells2 BK1957.out; obtain ⟨hfz16_0, hfz16_1⟩ := frozens2 BK1957.out) | (go_at_call 168; (with_reducible refine (impl_AcctAt.calls k1 _ _ l1_1 ((rd_T186 l0 x11_1).f1) t1960 _ ?side1 ?side2 A7.out).mono ?_); (case side1 => exact Kd.C_below HR1_1.out (by repeat (first | (with_reducible first | exact HB.out | apply below_alloc | apply pw_below_drewN | apply below_drew1 | refine below_set ?_ GE1957.out | refine below_set ?_ GE1959.out) | exact HB.out))); (case side2 => exact HC1_1.out); rintro e w17 ⟨rfl, hb⟩; have n0_ := Aside0.mk (Kd.R_below (by (with_reducible repeat (first | apply Kd.R_alloc | apply Kd.R_drewN | apply Kd.R_drew)); exact (Kd.R_mono (Kd.R_far (p := ⟨gb1959, 4, none⟩) (Kd.R_far (p := ⟨gb1959, 3, none⟩) (Kd.R_far (p := ⟨gb1959, 2, none⟩) (Kd.R_far (p := ⟨gb1959, 1, none⟩) (Kd.R_far (p := ⟨gb1959, 0, none⟩) (Kd.R_mono HO_5.out (fun k_ hk => (⟨hk, hk.2⟩ : _ ∧ k_ ≠ gb1959))) (fun _ hk => hk.2) (.int .i64 ((rd_T186 l0 x11_1).f0))) (fun _ hk => hk.2) (.string ((rd_T186 l0 x11_1).f1))) (fun _ hk => hk.2) (.string ((rd_T186 l0 x11_1).f2))) (fun _ hk => hk.2) (.int .i64 ((rd_T186 l0 x11_1).f3))) (fun _ hk => hk.2) (.int .i64 ((rd_T186 l0 x11_1).f4))) (fun _ h_ => h_.1))) hb); have n1_ := Aside0.mk (blk_below (g := gb1957) (o := .cells #[.int .i64 a1_0, .slice A1_1 l1_1.length c1_1] 37 (0, 0)) (by (with_reducible repeat (first | refine blk_drewN ?_ _ | refine blk_drew ?_ | refine blk_alloc ?_ _)); refine blk_far ?_ NB1957_1959.out _; (with_reducible repeat (first | refine blk_drewN ?_ _ | refine blk_drew ?_ | refine blk_alloc ?_ _)); refine blk_far ?_ NB1957_1959.out _; (with_reducible repeat (first | refine blk_drewN ?_ _ | refine blk_drew ?_ | refine blk_alloc ?_ _)); refine blk_far ?_ NB1957_1959.out _; (with_reducible repeat (first | refine blk_drewN ?_ _ | refine blk_drew ?_ | refine blk_alloc ?_ _)); refine blk_far ?_ NB1957_1959.out _; (with_reducible repeat (first | refine blk_drewN ?_ _ | refine blk_drew ?_ | refine blk_alloc ?_ _)); refine blk_far ?_ NB1957_1959.out _; (with_reducible repeat (first | refine blk_drewN ?_ _ | refine blk_drew ?_ | refine blk_alloc ?_ _)); exact BK1957.out) hb); have n2_ := Aside0.mk (blk_below (g := gb1959) (o := .cells #[.int .i64 ((rd_T186 l0 x11_1).f0), .string ((rd_T186 l0 x11_1).f1), .string ((rd_T186 l0 x11_1).f2), .int .i64 ((rd_T186 l0 x11_1).f3), .int .i64 ((rd_T186 l0 x11_1).f4)] 186 (0, 0)) (by (with_reducible repeat (first | refine blk_drewN ?_ _ | refine blk_drew ?_ | refine blk_alloc ?_ _)); refine blk_put (cs := #[.int .i64 ((rd_T186 l0 x11_1).f0), .string ((rd_T186 l0 x11_1).f1), .string ((rd_T186 l0 x11_1).f2), .int .i64 ((rd_T186 l0 x11_1).f3), .int .i64 0]) ?_ 4 _ rfl; (with_reducible repeat (first | refine blk_drewN ?_ _ | refine blk_drew ?_ | refine blk_alloc ?_ _)); refine blk_put (cs := #[.int .i64 ((rd_T186 l0 x11_1).f0), .string ((rd_T186 l0 x11_1).f1), .string ((rd_T186 l0 x11_1).f2), .int .i64 0, .int .i64 0]) ?_ 3 _ rfl; (with_reducible repeat (first | refine blk_drewN ?_ _ | refine blk_drew ?_ | refine blk_alloc ?_ _)); refine blk_put (cs := #[.int .i64 ((rd_T186 l0 x11_1).f0), .string ((rd_T186 l0 x11_1).f1), .string (⟨#[]⟩ : ByteArray), .int .i64 0, .int .i64 0]) ?_ 2 _ rfl; (with_reducible repeat (first | refine blk_drewN ?_ _ | refine blk_drew ?_ | refine blk_alloc ?_ _)); refine blk_put (cs := #[.int .i64 ((rd_T186 l0 x11_1).f0), .string (⟨#[]⟩ : ByteArray), .string (⟨#[]⟩ : ByteArray), .int .i64 0, .int .i64 0]) ?_ 1 _ rfl; (with_reducible repeat (first | refine blk_drewN ?_ _ | refine blk_drew ?_ | refine blk_alloc ?_ _)); refine blk_put (cs := #[.int .i64 0, .string (⟨#[]⟩ : ByteArray), .string (⟨#[]⟩ : ByteArray), .int .i64 0, .int .i64 0]) ?_ 0 _ rfl; (with_reducible repeat (first | refine blk_drewN ?_ _ | refine blk_drew ?_ | refine blk_alloc ?_ _)); exact BK1959.out) hb); have n3_ := Aside0.mk (below_step (by repeat (first | (with_reducible first | exact HB.out | apply below_alloc | apply pw_below_drewN | apply below_drew1 | refine below_set ?_ GE1957.out | refine below_set ?_ GE1959.out) | exact HB.out)) hb); clear HO_5; clear BK1957; clear BK1959; clear HB; have HO_5 := n0_; have BK1957 := n1_; have BK1959 := n2_; have HB := n3_; clear n0_ n1_ n2_ n3_; (try clear hb); (try clear hb2); (try clear hk); (try clear hi); obtain ⟨hcz18_0, hcz18_1, hcz18_2, hcz18_3, hcz18_4⟩ := cells5 BK1959.out; obtain ⟨hfz18_0, hfz18_1, hfz18_2, hfz18_3, hfz18_4⟩ := frozens5 BK1959.out; obtain ⟨hcz19_0, hcz19_1⟩ := cells2 BK1957.out; obtain ⟨hfz19_0, hfz19_1⟩ := frozens2 BK1957.out; have p1961 : 0 ≤ (t1960 : Int) := of_decide_eq_true (by first | (with_reducible assumption) | assumption); have q1961 : t1960 < (l1_1.length : Int) := of_decide_eq_true (by first | (with_reducible assumption) | assumption); obtain ⟨ad1961, A1961_4, c1961_4, e1961, hx1961_0, hx1961_1, hx1961_2, hx1961_3, hx1961_4, hl1961_4, hi1961_4⟩ := at_T43 HR1_1.out t1960 p1961 q1961; cases e1961; replace hx1961_0 := (HB.out.cell (World.block_lt_of_cell? w _ hx1961_0)).trans hx1961_0; replace hx1961_1 := (HB.out.cell (World.block_lt_of_cell? w _ hx1961_1)).trans hx1961_1; replace hx1961_2 := (HB.out.cell (World.block_lt_of_cell? w _ hx1961_2)).trans hx1961_2; replace hx1961_3 := (HB.out.cell (World.block_lt_of_cell? w _ hx1961_3)).trans hx1961_3; replace hx1961_4 := (HB.out.cell (World.block_lt_of_cell? w _ hx1961_4)).trans hx1961_4; have HR1961_4 := Aside0.mk hi1961_4; have HC1961_4 := Aside0.mk hl1961_4; clear hi1961_4 hl1961_4; replace p1961 := eq_true p1961; replace q1961 := eq_true q1961) | ((with_reducible refine gate_builtin (b := .append) (xs := #[.tmp 33, .tmp 35]) rfl ?_); at_builtin; refine Kd.R_append k186 (w0 := w) w.heap.size rfl (.tmp 33) (.tmp 35) 97 186 (.agg #[(.int .i64 0), (.string ⟨#[]⟩), (.string ⟨#[]⟩), (.int .i64 0), (.int .i64 0)]) 56 rfl Try.underlying97 info186 rfl (by decide) (by omega) u5 x5_1 (⟨(rd_T186 l0 x11_1).f0, (rd_T186 l0 x11_1).f1, (rd_T186 l0 x11_1).f2, (rd_T186 l0 x11_1).f3, (rd_T186 l0 x11_1).f4⟩ : S186) [.int .i64 ((rd_T186 l0 x11_1).f0), .string ((rd_T186 l0 x11_1).f1), .string ((rd_T186 l0 x11_1).f2), .int .i64 ((rd_T186 l0 x11_1).f3), .int .i64 ((rd_T186 l0 x11_1).f4)] (fun k_ => k_ ≠ gb1959) (fun _ => False) rfl rfl ?aP (fun _ hk => hk.elim) ?aF ?aO ?aB ?aS ?aL ?_; (case aP => exact k186_mkM _ _ _ (⟨(rd_T186 l0 x11_1).f0, (rd_T186 l0 x11_1).f1, (rd_T186 l0 x11_1).f2, (rd_T186 l0 x11_1).f3, (rd_T186 l0 x11_1).f4⟩ : S186)); (case aB => exact (by repeat (first | (with_reducible first | exact HB.out | apply below_alloc | apply pw_below_drewN | apply below_drew1 | refine below_set ?_ GE1957.out | refine below_set ?_ GE1959.out) | exact HB.out))); (case aF => exact (fun k_ hk => Kd.freshB (g := gb1959) (o := .cells #[.int .i64 ((rd_T186 l0 x11_1).f0), .string ((rd_T186 l0 x11_1).f1), .string ((rd_T186 l0 x11_1).f2), .int .i64 ((rd_T186 l0 x11_1).f3), .int .i64 ((rd_T186 l0 x11_1).f4)] 186 (0, 0)) (by (with_reducible repeat (first | refine blk_drewN ?_ _ | refine blk_drew ?_ | refine blk_alloc ?_ _)); exact BK1959.out) k_ hk)); (case aO => exact (by (with_reducible repeat (first | apply Kd.R_alloc | apply Kd.R_drewN | apply Kd.R_drew)); exact Kd.R_mono HO_5.out (fun _ hk => hk.2))); (case aS => exact (below_size (by repeat (first | (with_reducible first | exact HB.out | apply below_alloc | apply pw_below_drewN | apply below_drew1 | refine below_set ?_ GE1957.out | refine below_set ?_ GE1959.out) | exact HB.out)))); (case aL => have := LMc12.out; omega); intro v1963 w20 ho hb hg hat; rw [← Ny1962.out] at ho; have n0_ := Aside0.mk (blk_grown (g := gb1957) (o := .cells #[.int .i64 a1_0, .slice (some ad1961) l1_1.length c1_1] 37 (0, 0)) (by (with_reducible repeat (first | refine blk_drewN ?_ _ | refine blk_drew ?_ | refine blk_alloc ?_ _)); exact BK1957.out) hg (Kd.R_ne HO_5.out BK1957.out (by decide))); have n1_ := Aside0.mk (blk_grown (g := gb1959) (o := .cells #[.int .i64 ((rd_T186 l0 x11_1).f0), .string ((rd_T186 l0 x11_1).f1), .string ((rd_T186 l0 x11_1).f2), .int .i64 ((rd_T186 l0 x11_1).f3), .int .i64 ((rd_T186 l0 x11_1).f4)] 186 (0, 0)) (by (with_reducible repeat (first | refine blk_drewN ?_ _ | refine blk_drew ?_ | refine blk_alloc ?_ _)); exact BK1959.out) hg (Kd.R_away HO_5.out (fun _ hk => hk.2))); have n2_ := Aside0.mk (hb); have n3_ := Aside0.mk (ho); clear BK1957; clear BK1959; clear HB; clear HO_5; have BK1957 := n0_; have BK1959 := n1_; have HB := n2_; have HO1964 := n3_; clear n0_ n1_ n2_ n3_; clear ho hb hg hat))
                      repeat (go_quiet (first | ((with_reducible refine gate_dst (N := 7) rfl ?_); refine box_event ?hg (N := 7) ?hd (cs := #[.int .i64 0, .string (⟨#[]⟩ : ByteArray), .string (⟨#[]⟩ : ByteArray), .int .i64 0, .int .i64 0]) (t := 186) ?hr ?_; (case hd => rfl); (case hg => rfl); (case hr => first | (go_simp; done) | (go_simp; rfl)); intro gb1959 hg w13 hbox hb; have n0_ := Aside0.mk (Kd.R_below (Kd.R_elderB (by (with_reducible repeat (first | apply Kd.R_alloc | apply Kd.R_drewN | apply Kd.R_drew)); exact HO_5.out) gb1959 (Nat.le_of_eq hg.symm)) hb); have n1_ := Aside0.mk (blk_below (g := gb1957) (by (with_reducible repeat (first | refine blk_drewN ?_ _ | refine blk_drew ?_ | refine blk_alloc ?_ _)); exact BK1957.out) hb); have n2_ := Aside0.mk (below_step (by repeat (first | (with_reducible first | exact HB.out | apply below_alloc | apply pw_below_drewN | apply below_drew1 | refine below_set ?_ GE1957.out) | exact HB.out)) hb); have n3_ := Aside0.mk (hbox); have n4_ := Aside0.mk ((by rw [hg]; exact (below_size (by repeat (first | (with_reducible first | exact HB.out | apply below_alloc | apply pw_below_drewN | apply below_drew1 | refine below_set ?_ GE1957.out) | exact HB.out))) : w.heap.size ≤ gb1959)); have n5_ := Aside0.mk ((by rw [hg]; exact (below_size (by repeat (first | (with_reducible first | exact HB.out | apply below_alloc | apply pw_below_drewN | apply below_drew1 | refine below_set ?_ GE1957.out) | exact HB.out))) : w.heap.size ≤ gb1959)); have n6_ := Aside0.mk ((by rw [hg]; exact Nat.ne_of_lt (blk_lt (g := gb1957) (o := .cells #[.int .i64 a1_0, .slice A1_1 l1_1.length c1_1] 37 (0, 0)) (by (with_reducible repeat (first | refine blk_drewN ?_ _ | refine blk_drew ?_ | refine blk_alloc ?_ _)); exact BK1957.out)) : gb1957 ≠ gb1959)); have n7_ := Aside0.mk ((by rw [hg]; exact Nat.ne_of_gt (blk_lt (g := gb1957) (o := .cells #[.int .i64 a1_0, .slice A1_1 l1_1.length c1_1] 37 (0, 0)) (by (with_reducible repeat (first | refine blk_drewN ?_ _ | refine blk_drew ?_ | refine blk_alloc ?_ _)); exact BK1957.out)) : gb1959 ≠ gb1957)); clear HO_5; clear BK1957; clear HB; have HO_5 := n0_; have BK1957 := n1_; have HB := n2_; have BK1959 := n3_; have GW1959 := n4_; have GE1959 := n5_; have NB1957_1959 := n6_; have NB1959_1957 := n7_; clear n0_ n1_ n2_ n3_ n4_ n5_ n6_ n7_; clear hb hbox hg; have hnb14 := NB1959_1957.out; have hnc14 := NB1957_1959.out; obtain ⟨hcz15_0, hcz15_1, hcz15_2, hcz15_3, hcz15_4⟩ := cells5 BK1959.out; obtain ⟨hfz15_0, hfz15_1, hfz15_2, hfz15_3, hfz15_4⟩ := frozens5 BK1959.out; obtain ⟨hcz16_0, hcz16_1⟩ := cells2 BK1957.out; obtain ⟨hfz16_0, hfz16_1⟩ := frozens2 BK1957.out) | (go_at_call 168; (with_reducible refine (impl_AcctAt.calls k1 _ _ l1_1 ((rd_T186 l0 x11_1).f1) t1960 _ ?side1 ?side2 A7.out).mono ?_); (case side1 => exact Kd.C_below HR1_1.out (by repeat (first | (with_reducible first | exact HB.out | apply below_alloc | apply pw_below_drewN | apply below_drew1 | refine below_set ?_ GE1957.out | refine below_set ?_ GE1959.out) | exact HB.out))); (case side2 => exact HC1_1.out); rintro e w17 ⟨rfl, hb⟩; have n0_ := Aside0.mk (Kd.R_below (by (with_reducible repeat (first | apply Kd.R_alloc | apply Kd.R_drewN | apply Kd.R_drew)); exact (Kd.R_mono (Kd.R_far (p := ⟨gb1959, 4, none⟩) (Kd.R_far (p := ⟨gb1959, 3, none⟩) (Kd.R_far (p := ⟨gb1959, 2, none⟩) (Kd.R_far (p := ⟨gb1959, 1, none⟩) (Kd.R_far (p := ⟨gb1959, 0, none⟩) (Kd.R_mono HO_5.out (fun k_ hk => (⟨hk, hk.2⟩ : _ ∧ k_ ≠ gb1959))) (fun _ hk => hk.2) (.int .i64 ((rd_T186 l0 x11_1).f0))) (fun _ hk => hk.2) (.string ((rd_T186 l0 x11_1).f1))) (fun _ hk => hk.2) (.string ((rd_T186 l0 x11_1).f2))) (fun _ hk => hk.2) (.int .i64 ((rd_T186 l0 x11_1).f3))) (fun _ hk => hk.2) (.int .i64 ((rd_T186 l0 x11_1).f4))) (fun _ h_ => h_.1))) hb); have n1_ := Aside0.mk (blk_below (g := gb1957) (o := .cells #[.int .i64 a1_0, .slice A1_1 l1_1.length c1_1] 37 (0, 0)) (by (with_reducible repeat (first | refine blk_drewN ?_ _ | refine blk_drew ?_ | refine blk_alloc ?_ _)); refine blk_far ?_ NB1957_1959.out _; (with_reducible repeat (first | refine blk_drewN ?_ _ | refine blk_drew ?_ | refine blk_alloc ?_ _)); refine blk_far ?_ NB1957_1959.out _; (with_reducible repeat (first | refine blk_drewN ?_ _ | refine blk_drew ?_ | refine blk_alloc ?_ _)); refine blk_far ?_ NB1957_1959.out _; (with_reducible repeat (first | refine blk_drewN ?_ _ | refine blk_drew ?_ | refine blk_alloc ?_ _)); refine blk_far ?_ NB1957_1959.out _; (with_reducible repeat (first | refine blk_drewN ?_ _ | refine blk_drew ?_ | refine blk_alloc ?_ _)); refine blk_far ?_ NB1957_1959.out _; (with_reducible repeat (first | refine blk_drewN ?_ _ | refine blk_drew ?_ | refine blk_alloc ?_ _)); exact BK1957.out) hb); have n2_ := Aside0.mk (blk_below (g := gb1959) (o := .cells #[.int .i64 ((rd_T186 l0 x11_1).f0), .string ((rd_T186 l0 x11_1).f1), .string ((rd_T186 l0 x11_1).f2), .int .i64 ((rd_T186 l0 x11_1).f3), .int .i64 ((rd_T186 l0 x11_1).f4)] 186 (0, 0)) (by (with_reducible repeat (first | refine blk_drewN ?_ _ | refine blk_drew ?_ | refine blk_alloc ?_ _)); refine blk_put (cs := #[.int .i64 ((rd_T186 l0 x11_1).f0), .string ((rd_T186 l0 x11_1).f1), .string ((rd_T186 l0 x11_1).f2), .int .i64 ((rd_T186 l0 x11_1).f3), .int .i64 0]) ?_ 4 _ rfl; (with_reducible repeat (first | refine blk_drewN ?_ _ | refine blk_drew ?_ | refine blk_alloc ?_ _)); refine blk_put (cs := #[.int .i64 ((rd_T186 l0 x11_1).f0), .string ((rd_T186 l0 x11_1).f1), .string ((rd_T186 l0 x11_1).f2), .int .i64 0, .int .i64 0]) ?_ 3 _ rfl; (with_reducible repeat (first | refine blk_drewN ?_ _ | refine blk_drew ?_ | refine blk_alloc ?_ _)); refine blk_put (cs := #[.int .i64 ((rd_T186 l0 x11_1).f0), .string ((rd_T186 l0 x11_1).f1), .string (⟨#[]⟩ : ByteArray), .int .i64 0, .int .i64 0]) ?_ 2 _ rfl; (with_reducible repeat (first | refine blk_drewN ?_ _ | refine blk_drew ?_ | refine blk_alloc ?_ _)); refine blk_put (cs := #[.int .i64 ((rd_T186 l0 x11_1).f0), .string (⟨#[]⟩ : ByteArray), .string (⟨#[]⟩ : ByteArray), .int .i64 0, .int .i64 0]) ?_ 1 _ rfl; (with_reducible repeat (first | refine blk_drewN ?_ _ | refine blk_drew ?_ | refine blk_alloc ?_ _)); refine blk_put (cs := #[.int .i64 0, .string (⟨#[]⟩ : ByteArray), .string (⟨#[]⟩ : ByteArray), .int .i64 0, .int .i64 0]) ?_ 0 _ rfl; (with_reducible repeat (first | refine blk_drewN ?_ _ | refine blk_drew ?_ | refine blk_alloc ?_ _)); exact BK1959.out) hb); have n3_ := Aside0.mk (below_step (by repeat (first | (with_reducible first | exact HB.out | apply below_alloc | apply pw_below_drewN | apply below_drew1 | refine below_set ?_ GE1957.out | refine below_set ?_ GE1959.out) | exact HB.out)) hb); clear HO_5; clear BK1957; clear BK1959; clear HB; have HO_5 := n0_; have BK1957 := n1_; have BK1959 := n2_; have HB := n3_; clear n0_ n1_ n2_ n3_; (try clear hb); (try clear hb2); (try clear hk); (try clear hi); obtain ⟨hcz18_0, hcz18_1, hcz18_2, hcz18_3, hcz18_4⟩ := cells5 BK1959.out; obtain ⟨hfz18_0, hfz18_1, hfz18_2, hfz18_3, hfz18_4⟩ := frozens5 BK1959.out; obtain ⟨hcz19_0, hcz19_1⟩ := cells2 BK1957.out; obtain ⟨hfz19_0, hfz19_1⟩ := frozens2 BK1957.out; have p1961 : 0 ≤ (t1960 : Int) := of_decide_eq_true (by first | (with_reducible assumption) | assumption); have q1961 : t1960 < (l1_1.length : Int) := of_decide_eq_true (by first | (with_reducible assumption) | assumption); obtain ⟨ad1961, A1961_4, c1961_4, e1961, hx1961_0, hx1961_1, hx1961_2, hx1961_3, hx1961_4, hl1961_4, hi1961_4⟩ := at_T43 HR1_1.out t1960 p1961 q1961; cases e1961; replace hx1961_0 := (HB.out.cell (World.block_lt_of_cell? w _ hx1961_0)).trans hx1961_0; replace hx1961_1 := (HB.out.cell (World.block_lt_of_cell? w _ hx1961_1)).trans hx1961_1; replace hx1961_2 := (HB.out.cell (World.block_lt_of_cell? w _ hx1961_2)).trans hx1961_2; replace hx1961_3 := (HB.out.cell (World.block_lt_of_cell? w _ hx1961_3)).trans hx1961_3; replace hx1961_4 := (HB.out.cell (World.block_lt_of_cell? w _ hx1961_4)).trans hx1961_4; have HR1961_4 := Aside0.mk hi1961_4; have HC1961_4 := Aside0.mk hl1961_4; clear hi1961_4 hl1961_4; replace p1961 := eq_true p1961; replace q1961 := eq_true q1961) | ((with_reducible refine gate_builtin (b := .append) (xs := #[.tmp 33, .tmp 35]) rfl ?_); at_builtin; refine Kd.R_append k186 (w0 := w) w.heap.size rfl (.tmp 33) (.tmp 35) 97 186 (.agg #[(.int .i64 0), (.string ⟨#[]⟩), (.string ⟨#[]⟩), (.int .i64 0), (.int .i64 0)]) 56 rfl Try.underlying97 info186 rfl (by decide) (by omega) u5 x5_1 (⟨(rd_T186 l0 x11_1).f0, (rd_T186 l0 x11_1).f1, (rd_T186 l0 x11_1).f2, (rd_T186 l0 x11_1).f3, (rd_T186 l0 x11_1).f4⟩ : S186) [.int .i64 ((rd_T186 l0 x11_1).f0), .string ((rd_T186 l0 x11_1).f1), .string ((rd_T186 l0 x11_1).f2), .int .i64 ((rd_T186 l0 x11_1).f3), .int .i64 ((rd_T186 l0 x11_1).f4)] (fun k_ => k_ ≠ gb1959) (fun _ => False) rfl rfl ?aP (fun _ hk => hk.elim) ?aF ?aO ?aB ?aS ?aL ?_; (case aP => exact k186_mkM _ _ _ (⟨(rd_T186 l0 x11_1).f0, (rd_T186 l0 x11_1).f1, (rd_T186 l0 x11_1).f2, (rd_T186 l0 x11_1).f3, (rd_T186 l0 x11_1).f4⟩ : S186)); (case aB => exact (by repeat (first | (with_reducible first | exact HB.out | apply below_alloc | apply pw_below_drewN | apply below_drew1 | refine below_set ?_ GE1957.out | refine below_set ?_ GE1959.out) | exact HB.out))); (case aF => exact (fun k_ hk => Kd.freshB (g := gb1959) (o := .cells #[.int .i64 ((rd_T186 l0 x11_1).f0), .string ((rd_T186 l0 x11_1).f1), .string ((rd_T186 l0 x11_1).f2), .int .i64 ((rd_T186 l0 x11_1).f3), .int .i64 ((rd_T186 l0 x11_1).f4)] 186 (0, 0)) (by (with_reducible repeat (first | refine blk_drewN ?_ _ | refine blk_drew ?_ | refine blk_alloc ?_ _)); exact BK1959.out) k_ hk)); (case aO => exact (by (with_reducible repeat (first | apply Kd.R_alloc | apply Kd.R_drewN | apply Kd.R_drew)); exact Kd.R_mono HO_5.out (fun _ hk => hk.2))); (case aS => exact (below_size (by repeat (first | (with_reducible first | exact HB.out | apply below_alloc | apply pw_below_drewN | apply below_drew1 | refine below_set ?_ GE1957.out | refine below_set ?_ GE1959.out) | exact HB.out)))); (case aL => have := LMc12.out; omega); intro v1963 w20 ho hb hg hat; rw [← Ny1962.out] at ho; have n0_ := Aside0.mk (blk_grown (g := gb1957) (o := .cells #[.int .i64 a1_0, .slice (some ad1961) l1_1.length c1_1] 37 (0, 0)) (by (with_reducible repeat (first | refine blk_drewN ?_ _ | refine blk_drew ?_ | refine blk_alloc ?_ _)); exact BK1957.out) hg (Kd.R_ne HO_5.out BK1957.out (by decide))); have n1_ := Aside0.mk (blk_grown (g := gb1959) (o := .cells #[.int .i64 ((rd_T186 l0 x11_1).f0), .string ((rd_T186 l0 x11_1).f1), .string ((rd_T186 l0 x11_1).f2), .int .i64 ((rd_T186 l0 x11_1).f3), .int .i64 ((rd_T186 l0 x11_1).f4)] 186 (0, 0)) (by (with_reducible repeat (first | refine blk_drewN ?_ _ | refine blk_drew ?_ | refine blk_alloc ?_ _)); exact BK1959.out) hg (Kd.R_away HO_5.out (fun _ hk => hk.2))); have n2_ := Aside0.mk (hb); have n3_ := Aside0.mk (ho); clear BK1957; clear BK1959; clear HB; clear HO_5; have BK1957 := n0_; have BK1959 := n1_; have HB := n2_; have HO1964 := n3_; clear n0_ n1_ n2_ n3_; clear ho hb hg hat)); try go_wp2_with (first | ((with_reducible refine gate_dst (N := 7) rfl ?_); refine box_event ?hg (N := 7) ?hd (cs := #[.int .i64 0, .string (⟨#[]⟩ : ByteArray), .string (⟨#[]⟩ : ByteArray), .int .i64 0, .int .i64 0]) (t := 186) ?hr ?_; (case hd => rfl); (case hg => rfl); (case hr => first | (go_simp; done) | (go_simp; rfl)); intro gb1959 hg w13 hbox hb; have n0_ := Aside0.mk (Kd.R_below (Kd.R_elderB (by (with_reducible repeat (first | apply Kd.R_alloc | apply Kd.R_drewN | apply Kd.R_drew)); exact HO_5.out) gb1959 (Nat.le_of_eq hg.symm)) hb); have n1_ := Aside0.mk (blk_below (g := gb1957) (by (with_reducible repeat (first | refine blk_drewN ?_ _ | refine blk_drew ?_ | refine blk_alloc ?_ _)); exact BK1957.out) hb); have n2_ := Aside0.mk (below_step (by repeat (first | (with_reducible first | exact HB.out | apply below_alloc | apply pw_below_drewN | apply below_drew1 | refine below_set ?_ GE1957.out) | exact HB.out)) hb); have n3_ := Aside0.mk (hbox); have n4_ := Aside0.mk ((by rw [hg]; exact (below_size (by repeat (first | (with_reducible first | exact HB.out | apply below_alloc | apply pw_below_drewN | apply below_drew1 | refine below_set ?_ GE1957.out) | exact HB.out))) : w.heap.size ≤ gb1959)); have n5_ := Aside0.mk ((by rw [hg]; exact (below_size (by repeat (first | (with_reducible first | exact HB.out | apply below_alloc | apply pw_below_drewN | apply below_drew1 | refine below_set ?_ GE1957.out) | exact HB.out))) : w.heap.size ≤ gb1959)); have n6_ := Aside0.mk ((by rw [hg]; exact Nat.ne_of_lt (blk_lt (g := gb1957) (o := .cells #[.int .i64 a1_0, .slice A1_1 l1_1.length c1_1] 37 (0, 0)) (by (with_reducible repeat (first | refine blk_drewN ?_ _ | refine blk_drew ?_ | refine blk_alloc ?_ _)); exact BK1957.out)) : gb1957 ≠ gb1959)); have n7_ := Aside0.mk ((by rw [hg]; exact Nat.ne_of_gt (blk_lt (g := gb1957) (o := .cells #[.int .i64 a1_0, .slice A1_1 l1_1.length c1_1] 37 (0, 0)) (by (with_reducible repeat (first | refine blk_drewN ?_ _ | refine blk_drew ?_ | refine blk_alloc ?_ _)); exact BK1957.out)) : gb1959 ≠ gb1957)); clear HO_5; clear BK1957; clear HB; have HO_5 := n0_; have BK1957 := n1_; have HB := n2_; have BK1959 := n3_; have GW1959 := n4_; have GE1959 := n5_; have NB1957_1959 := n6_; have NB1959_1957 := n7_; clear n0_ n1_ n2_ n3_ n4_ n5_ n6_ n7_; clear hb hbox hg; have hnb14 := NB1959_1957.out; have hnc14 := NB1957_1959.out; obtain ⟨hcz15_0, hcz15_1, hcz15_2, hcz15_3, hcz15_4⟩ := cells5 BK1959.out; obtain ⟨hfz15_0, hfz15_1, hfz15_2, hfz15_3, hfz15_4⟩ := frozens5 BK1959.out; obtain ⟨hcz16_0, hcz16_1⟩ := cells2 BK1957.out; obtain ⟨hfz16_0, hfz16_1⟩ := frozens2 BK1957.out) | (go_at_call 168; (with_reducible refine (impl_AcctAt.calls k1 _ _ l1_1 ((rd_T186 l0 x11_1).f1) t1960 _ ?side1 ?side2 A7.out).mono ?_); (case side1 => exact Kd.C_below HR1_1.out (by repeat (first | (with_reducible first | exact HB.out | apply below_alloc | apply pw_below_drewN | apply below_drew1 | refine below_set ?_ GE1957.out | refine below_set ?_ GE1959.out) | exact HB.out))); (case side2 => exact HC1_1.out); rintro e w17 ⟨rfl, hb⟩; have n0_ := Aside0.mk (Kd.R_below (by (with_reducible repeat (first | apply Kd.R_alloc | apply Kd.R_drewN | apply Kd.R_drew)); exact (Kd.R_mono (Kd.R_far (p := ⟨gb1959, 4, none⟩) (Kd.R_far (p := ⟨gb1959, 3, none⟩) (Kd.R_far (p := ⟨gb1959, 2, none⟩) (Kd.R_far (p := ⟨gb1959, 1, none⟩) (Kd.R_far (p := ⟨gb1959, 0, none⟩) (Kd.R_mono HO_5.out (fun k_ hk => (⟨hk, hk.2⟩ : _ ∧ k_ ≠ gb1959))) (fun _ hk => hk.2) (.int .i64 ((rd_T186 l0 x11_1).f0))) (fun _ hk => hk.2) (.string ((rd_T186 l0 x11_1).f1))) (fun _ hk => hk.2) (.string ((rd_T186 l0 x11_1).f2))) (fun _ hk => hk.2) (.int .i64 ((rd_T186 l0 x11_1).f3))) (fun _ hk => hk.2) (.int .i64 ((rd_T186 l0 x11_1).f4))) (fun _ h_ => h_.1))) hb); have n1_ := Aside0.mk (blk_below (g := gb1957) (o := .cells #[.int .i64 a1_0, .slice A1_1 l1_1.length c1_1] 37 (0, 0)) (by (with_reducible repeat (first | refine blk_drewN ?_ _ | refine blk_drew ?_ | refine blk_alloc ?_ _)); refine blk_far ?_ NB1957_1959.out _; (with_reducible repeat (first | refine blk_drewN ?_ _ | refine blk_drew ?_ | refine blk_alloc ?_ _)); refine blk_far ?_ NB1957_1959.out _; (with_reducible repeat (first | refine blk_drewN ?_ _ | refine blk_drew ?_ | refine blk_alloc ?_ _)); refine blk_far ?_ NB1957_1959.out _; (with_reducible repeat (first | refine blk_drewN ?_ _ | refine blk_drew ?_ | refine blk_alloc ?_ _)); refine blk_far ?_ NB1957_1959.out _; (with_reducible repeat (first | refine blk_drewN ?_ _ | refine blk_drew ?_ | refine blk_alloc ?_ _)); refine blk_far ?_ NB1957_1959.out _; (with_reducible repeat (first | refine blk_drewN ?_ _ | refine blk_drew ?_ | refine blk_alloc ?_ _)); exact BK1957.out) hb); have n2_ := Aside0.mk (blk_below (g := gb1959) (o := .cells #[.int .i64 ((rd_T186 l0 x11_1).f0), .string ((rd_T186 l0 x11_1).f1), .string ((rd_T186 l0 x11_1).f2), .int .i64 ((rd_T186 l0 x11_1).f3), .int .i64 ((rd_T186 l0 x11_1).f4)] 186 (0, 0)) (by (with_reducible repeat (first | refine blk_drewN ?_ _ | refine blk_drew ?_ | refine blk_alloc ?_ _)); refine blk_put (cs := #[.int .i64 ((rd_T186 l0 x11_1).f0), .string ((rd_T186 l0 x11_1).f1), .string ((rd_T186 l0 x11_1).f2), .int .i64 ((rd_T186 l0 x11_1).f3), .int .i64 0]) ?_ 4 _ rfl; (with_reducible repeat (first | refine blk_drewN ?_ _ | refine blk_drew ?_ | refine blk_alloc ?_ _)); refine blk_put (cs := #[.int .i64 ((rd_T186 l0 x11_1).f0), .string ((rd_T186 l0 x11_1).f1), .string ((rd_T186 l0 x11_1).f2), .int .i64 0, .int .i64 0]) ?_ 3 _ rfl; (with_reducible repeat (first | refine blk_drewN ?_ _ | refine blk_drew ?_ | refine blk_alloc ?_ _)); refine blk_put (cs := #[.int .i64 ((rd_T186 l0 x11_1).f0), .string ((rd_T186 l0 x11_1).f1), .string (⟨#[]⟩ : ByteArray), .int .i64 0, .int .i64 0]) ?_ 2 _ rfl; (with_reducible repeat (first | refine blk_drewN ?_ _ | refine blk_drew ?_ | refine blk_alloc ?_ _)); refine blk_put (cs := #[.int .i64 ((rd_T186 l0 x11_1).f0), .string (⟨#[]⟩ : ByteArray), .string (⟨#[]⟩ : ByteArray), .int .i64 0, .int .i64 0]) ?_ 1 _ rfl; (with_reducible repeat (first | refine blk_drewN ?_ _ | refine blk_drew ?_ | refine blk_alloc ?_ _)); refine blk_put (cs := #[.int .i64 0, .string (⟨#[]⟩ : ByteArray), .string (⟨#[]⟩ : ByteArray), .int .i64 0, .int .i64 0]) ?_ 0 _ rfl; (with_reducible repeat (first | refine blk_drewN ?_ _ | refine blk_drew ?_ | refine blk_alloc ?_ _)); exact BK1959.out) hb); have n3_ := Aside0.mk (below_step (by repeat (first | (with_reducible first | exact HB.out | apply below_alloc | apply pw_below_drewN | apply below_drew1 | refine below_set ?_ GE1957.out | refine below_set ?_ GE1959.out) | exact HB.out)) hb); clear HO_5; clear BK1957; clear BK1959; clear HB; have HO_5 := n0_; have BK1957 := n1_; have BK1959 := n2_; have HB := n3_; clear n0_ n1_ n2_ n3_; (try clear hb); (try clear hb2); (try clear hk); (try clear hi); obtain ⟨hcz18_0, hcz18_1, hcz18_2, hcz18_3, hcz18_4⟩ := cells5 BK1959.out; obtain ⟨hfz18_0, hfz18_1, hfz18_2, hfz18_3, hfz18_4⟩ := frozens5 BK1959.out; obtain ⟨hcz19_0, hcz19_1⟩ := cells2 BK1957.out; obtain ⟨hfz19_0, hfz19_1⟩ := frozens2 BK1957.out; have p1961 : 0 ≤ (t1960 : Int) := of_decide_eq_true (by first | (with_reducible assumption) | assumption); have q1961 : t1960 < (l1_1.length : Int) := of_decide_eq_true (by first | (with_reducible assumption) | assumption); obtain ⟨ad1961, A1961_4, c1961_4, e1961, hx1961_0, hx1961_1, hx1961_2, hx1961_3, hx1961_4, hl1961_4, hi1961_4⟩ := at_T43 HR1_1.out t1960 p1961 q1961; cases e1961; replace hx1961_0 := (HB.out.cell (World.block_lt_of_cell? w _ hx1961_0)).trans hx1961_0; replace hx1961_1 := (HB.out.cell (World.block_lt_of_cell? w _ hx1961_1)).trans hx1961_1; replace hx1961_2 := (HB.out.cell (World.block_lt_of_cell? w _ hx1961_2)).trans hx1961_2; replace hx1961_3 := (HB.out.cell (World.block_lt_of_cell? w _ hx1961_3)).trans hx1961_3; replace hx1961_4 := (HB.out.cell (World.block_lt_of_cell? w _ hx1961_4)).trans hx1961_4; have HR1961_4 := Aside0.mk hi1961_4; have HC1961_4 := Aside0.mk hl1961_4; clear hi1961_4 hl1961_4; replace p1961 := eq_true p1961; replace q1961 := eq_true q1961) | ((with_reducible refine gate_builtin (b := .append) (xs := #[.tmp 33, .tmp 35]) rfl ?_); at_builtin; refine Kd.R_append k186 (w0 := w) w.heap.size rfl (.tmp 33) (.tmp 35) 97 186 (.agg #[(.int .i64 0), (.string ⟨#[]⟩), (.string ⟨#[]⟩), (.int .i64 0), (.int .i64 0)]) 56 rfl Try.underlying97 info186 rfl (by decide) (by omega) u5 x5_1 (⟨(rd_T186 l0 x11_1).f0, (rd_T186 l0 x11_1).f1, (rd_T186 l0 x11_1).f2, (rd_T186 l0 x11_1).f3, (rd_T186 l0 x11_1).f4⟩ : S186) [.int .i64 ((rd_T186 l0 x11_1).f0), .string ((rd_T186 l0 x11_1).f1), .string ((rd_T186 l0 x11_1).f2), .int .i64 ((rd_T186 l0 x11_1).f3), .int .i64 ((rd_T186 l0 x11_1).f4)] (fun k_ => k_ ≠ gb1959) (fun _ => False) rfl rfl ?aP (fun _ hk => hk.elim) ?aF ?aO ?aB ?aS ?aL ?_; (case aP => exact k186_mkM _ _ _ (⟨(rd_T186 l0 x11_1).f0, (rd_T186 l0 x11_1).f1, (rd_T186 l0 x11_1).f2, (rd_T186 l0 x11_1).f3, (rd_T186 l0 x11_1).f4⟩ : S186)); (case aB => exact (by repeat (first | (with_reducible first | exact HB.out | apply below_alloc | apply pw_below_drewN | apply below_drew1 | refine below_set ?_ GE1957.out | refine below_set ?_ GE1959.out) | exact HB.out))); (case aF => exact (fun k_ hk => Kd.freshB (g := gb1959) (o := .cells #[.int .i64 ((rd_T186 l0 x11_1).f0), .string ((rd_T186 l0 x11_1).f1), .string ((rd_T186 l0 x11_1).f2), .int .i64 ((rd_T186 l0 x11_1).f3), .int .i64 ((rd_T186 l0 x11_1).f4)] 186 (0, 0)) (by (with_reducible repeat (first | refine blk_drewN ?_ _ | refine blk_drew ?_ | refine blk_alloc ?_ _)); exact BK1959.out) k_ hk)); (case aO => exact (by (with_reducible repeat (first | apply Kd.R_alloc | apply Kd.R_drewN | apply Kd.R_drew)); exact Kd.R_mono HO_5.out (fun _ hk => hk.2))); (case aS => exact (below_size (by repeat (first | (with_reducible first | exact HB.out | apply below_alloc | apply pw_below_drewN | apply below_drew1 | refine below_set ?_ GE1957.out | refine below_set ?_ GE1959.out) | exact HB.out)))); (case aL => have := LMc12.out; omega); intro v1963 w20 ho hb hg hat; rw [← Ny1962.out] at ho; have n0_ := Aside0.mk (blk_grown (g := gb1957) (o := .cells #[.int .i64 a1_0, .slice (some ad1961) l1_1.length c1_1] 37 (0, 0)) (by (with_reducible repeat (first | refine blk_drewN ?_ _ | refine blk_drew ?_ | refine blk_alloc ?_ _)); exact BK1957.out) hg (Kd.R_ne HO_5.out BK1957.out (by decide))); have n1_ := Aside0.mk (blk_grown (g := gb1959) (o := .cells #[.int .i64 ((rd_T186 l0 x11_1).f0), .string ((rd_T186 l0 x11_1).f1), .string ((rd_T186 l0 x11_1).f2), .int .i64 ((rd_T186 l0 x11_1).f3), .int .i64 ((rd_T186 l0 x11_1).f4)] 186 (0, 0)) (by (with_reducible repeat (first | refine blk_drewN ?_ _ | refine blk_drew ?_ | refine blk_alloc ?_ _)); exact BK1959.out) hg (Kd.R_away HO_5.out (fun _ hk => hk.2))); have n2_ := Aside0.mk (hb); have n3_ := Aside0.mk (ho); clear BK1957; clear BK1959; clear HB; clear HO_5; have BK1957 := n0_; have BK1959 := n1_; have HB := n2_; have HO1964 := n3_; clear n0_ n1_ n2_ n3_; clear ho hb hg hat)))
                      go_roundg k1
                      case measure => have := HK1.out; omega
                      case rel => exact ⟨(y1962), (wrap64 (x11_1 + 1)), (by first | rfl | (simp; done) | (simp [*]; done)), H', ⟨by have := HK1.out; omega⟩, ⟨by (with_reducible repeat (first | apply Kd.R_alloc | apply Kd.R_drewN | apply Kd.R_drew)); exact Kd.R_mono HO1964.out (fun _ hk => trivial)⟩, ⟨by (with_reducible repeat (first | refine blk_drewN ?_ _ | refine blk_drew ?_ | refine blk_alloc ?_ _)); exact BK1957.out⟩, ⟨by repeat (first | (with_reducible first | exact HB.out | apply below_alloc | apply pw_below_drewN | apply below_drew1 | refine below_set ?_ GE1957.out | refine below_set ?_ GE1959.out) | exact HB.out)⟩⟩
                    · rw [if_neg c12] at H
                      exact absurd H (by simp)
                  · rw [if_neg c11] at H
                    have c11b0 : decide (((rd_T43 l1_1 t1960).f2) ≤ ((rd_T186 l0 x11_1).f4)) = false := decide_eq_false c11
                    clear c11
                    have H' := Aside0.mk H
                    clear H
                    have p1958 : 0 ≤ (x11_1 : Int) := of_decide_eq_true (by first | (with_reducible assumption) | assumption)
                    have q1958 : x11_1 < (l0.length : Int) := of_decide_eq_true (by first | (with_reducible assumption) | assumption)
                    obtain ⟨ad1958, e1958, hx1958_0, hx1958_1, hx1958_2, hx1958_3, hx1958_4⟩ := at_T186 HR0.out x11_1 p1958 q1958
                    cases e1958
                    replace hx1958_0 := (HB.out.cell (World.block_lt_of_cell? w _ hx1958_0)).trans hx1958_0
                    replace hx1958_1 := (HB.out.cell (World.block_lt_of_cell? w _ hx1958_1)).trans hx1958_1
                    replace hx1958_2 := (HB.out.cell (World.block_lt_of_cell? w _ hx1958_2)).trans hx1958_2
                    replace hx1958_3 := (HB.out.cell (World.block_lt_of_cell? w _ hx1958_3)).trans hx1958_3
                    replace hx1958_4 := (HB.out.cell (World.block_lt_of_cell? w _ hx1958_4)).trans hx1958_4
                    replace p1958 := eq_true p1958
                    replace q1958 := eq_true q1958
                    go_wp2_with (first | ((with_reducible refine gate_dst (N := 7) rfl ?_); refine box_event ?hg (N := 7) ?hd (cs := #[.int .i64 0, .string (⟨#[]⟩ : ByteArray), .string (⟨#[]⟩ : ByteArray), .int .i64 0, .int .i64 0]) (t := 186) ?hr ?_; (case hd => rfl); (case hg => rfl); (case hr => first | (go_simp; done) | (go_simp; rfl)); intro gb1959 hg w21 hbox hb; have n0_ := Aside0.mk (Kd.R_below (Kd.R_elderB (by (with_reducible repeat (first | apply Kd.R_alloc | apply Kd.R_drewN | apply Kd.R_drew)); exact HO_5.out) gb1959 (Nat.le_of_eq hg.symm)) hb); have n1_ := Aside0.mk (blk_below (g := gb1957) (by (with_reducible repeat (first | refine blk_drewN ?_ _ | refine blk_drew ?_ | refine blk_alloc ?_ _)); exact BK1957.out) hb); have n2_ := Aside0.mk (below_step (by repeat (first | (with_reducible first | exact HB.out | apply below_alloc | apply pw_below_drewN | apply below_drew1 | refine below_set ?_ GE1957.out) | exact HB.out)) hb); have n3_ := Aside0.mk (hbox); have n4_ := Aside0.mk ((by rw [hg]; exact (below_size (by repeat (first | (with_reducible first | exact HB.out | apply below_alloc | apply pw_below_drewN | apply below_drew1 | refine below_set ?_ GE1957.out) | exact HB.out))) : w.heap.size ≤ gb1959)); have n5_ := Aside0.mk ((by rw [hg]; exact (below_size (by repeat (first | (with_reducible first | exact HB.out | apply below_alloc | apply pw_below_drewN | apply below_drew1 | refine below_set ?_ GE1957.out) | exact HB.out))) : w.heap.size ≤ gb1959)); have n6_ := Aside0.mk ((by rw [hg]; exact Nat.ne_of_lt (blk_lt (g := gb1957) (o := .cells #[.int .i64 a1_0, .slice A1_1 l1_1.length c1_1] 37 (0, 0)) (by (with_reducible repeat (first | refine blk_drewN ?_ _ | refine blk_drew ?_ | refine blk_alloc ?_ _)); exact BK1957.out)) : gb1957 ≠ gb1959)); have n7_ := Aside0.mk ((by rw [hg]; exact Nat.ne_of_gt (blk_lt (g := gb1957) (o := .cells #[.int .i64 a1_0, .slice A1_1 l1_1.length c1_1] 37 (0, 0)) (by (with_reducible repeat (first | refine blk_drewN ?_ _ | refine blk_drew ?_ | refine blk_alloc ?_ _)); exact BK1957.out)) : gb1959 ≠ gb1957)); clear HO_5; clear BK1957; clear HB; have HO_5 := n0_; have BK1957 := n1_; have HB := n2_; have BK1959 := n3_; have GW1959 := n4_; have GE1959 := n5_; have NB1957_1959 := n6_; have NB1959_1957 := n7_; clear n0_ n1_ n2_ n3_ n4_ n5_ n6_ n7_; clear hb hbox hg; have hnb22 := NB1959_1957.out; have hnc22 := NB1957_1959.out; obtain ⟨hcz23_0, hcz23_1, hcz23_2, hcz23_3, hcz23_4⟩ := cells5 BK1959.out; obtain ⟨hfz23_0, hfz23_1, hfz23_2, hfz23_3, hfz23_4⟩ := frozens5 BK1959.out; obtain ⟨hcz24_0, hcz24_1⟩ := cells2 BK1957.out; obtain ⟨hfz24_0, hfz24_1⟩ := frozens2 BK1957.out) | (go_at_call 168; (with_reducible refine (impl_AcctAt.calls k1 _ _ l1_1 ((rd_T186 l0 x11_1).f1) t1960 _ ?side1 ?side2 A7.out).mono ?_); (case side1 => exact Kd.C_below HR1_1.out (by repeat (first | (with_reducible first | exact HB.out | apply below_alloc | apply pw_below_drewN | apply below_drew1 | refine below_set ?_ GE1957.out | refine below_set ?_ GE1959.out) | exact HB.out))); (case side2 => exact HC1_1.out); rintro e w25 ⟨rfl, hb⟩; have n0_ := Aside0.mk (Kd.R_below (by (with_reducible repeat (first | apply Kd.R_alloc | apply Kd.R_drewN | apply Kd.R_drew)); exact (Kd.R_mono (Kd.R_far (p := ⟨gb1959, 4, none⟩) (Kd.R_far (p := ⟨gb1959, 3, none⟩) (Kd.R_far (p := ⟨gb1959, 2, none⟩) (Kd.R_far (p := ⟨gb1959, 1, none⟩) (Kd.R_far (p := ⟨gb1959, 0, none⟩) (Kd.R_mono HO_5.out (fun k_ hk => (⟨hk, hk.2⟩ : _ ∧ k_ ≠ gb1959))) (fun _ hk => hk.2) (.int .i64 ((rd_T186 l0 x11_1).f0))) (fun _ hk => hk.2) (.string ((rd_T186 l0 x11_1).f1))) (fun _ hk => hk.2) (.string ((rd_T186 l0 x11_1).f2))) (fun _ hk => hk.2) (.int .i64 ((rd_T186 l0 x11_1).f3))) (fun _ hk => hk.2) (.int .i64 ((rd_T186 l0 x11_1).f4))) (fun _ h_ => h_.1))) hb); have n1_ := Aside0.mk (blk_below (g := gb1957) (o := .cells #[.int .i64 a1_0, .slice A1_1 l1_1.length c1_1] 37 (0, 0)) (by (with_reducible repeat (first | refine blk_drewN ?_ _ | refine blk_drew ?_ | refine blk_alloc ?_ _)); refine blk_far ?_ NB1957_1959.out _; (with_reducible repeat (first | refine blk_drewN ?_ _ | refine blk_drew ?_ | refine blk_alloc ?_ _)); refine blk_far ?_ NB1957_1959.out _; (with_reducible repeat (first | refine blk_drewN ?_ _ | refine blk_drew ?_ | refine blk_alloc ?_ _)); refine blk_far ?_ NB1957_1959.out _; (with_reducible repeat (first | refine blk_drewN ?_ _ | refine blk_drew ?_ | refine blk_alloc ?_ _)); refine blk_far ?_ NB1957_1959.out _; (with_reducible repeat (first | refine blk_drewN ?_ _ | refine blk_drew ?_ | refine blk_alloc ?_ _)); refine blk_far ?_ NB1957_1959.out _; (with_reducible repeat (first | refine blk_drewN ?_ _ | refine blk_drew ?_ | refine blk_alloc ?_ _)); exact BK1957.out) hb); have n2_ := Aside0.mk (blk_below (g := gb1959) (o := .cells #[.int .i64 ((rd_T186 l0 x11_1).f0), .string ((rd_T186 l0 x11_1).f1), .string ((rd_T186 l0 x11_1).f2), .int .i64 ((rd_T186 l0 x11_1).f3), .int .i64 ((rd_T186 l0 x11_1).f4)] 186 (0, 0)) (by (with_reducible repeat (first | refine blk_drewN ?_ _ | refine blk_drew ?_ | refine blk_alloc ?_ _)); refine blk_put (cs := #[.int .i64 ((rd_T186 l0 x11_1).f0), .string ((rd_T186 l0 x11_1).f1), .string ((rd_T186 l0 x11_1).f2), .int .i64 ((rd_T186 l0 x11_1).f3), .int .i64 0]) ?_ 4 _ rfl; (with_reducible repeat (first | refine blk_drewN ?_ _ | refine blk_drew ?_ | refine blk_alloc ?_ _)); refine blk_put (cs := #[.int .i64 ((rd_T186 l0 x11_1).f0), .string ((rd_T186 l0 x11_1).f1), .string ((rd_T186 l0 x11_1).f2), .int .i64 0, .int .i64 0]) ?_ 3 _ rfl; (with_reducible repeat (first | refine blk_drewN ?_ _ | refine blk_drew ?_ | refine blk_alloc ?_ _)); refine blk_put (cs := #[.int .i64 ((rd_T186 l0 x11_1).f0), .string ((rd_T186 l0 x11_1).f1), .string (⟨#[]⟩ : ByteArray), .int .i64 0, .int .i64 0]) ?_ 2 _ rfl; (with_reducible repeat (first | refine blk_drewN ?_ _ | refine blk_drew ?_ | refine blk_alloc ?_ _)); refine blk_put (cs := #[.int .i64 ((rd_T186 l0 x11_1).f0), .string (⟨#[]⟩ : ByteArray), .string (⟨#[]⟩ : ByteArray), .int .i64 0, .int .i64 0]) ?_ 1 _ rfl; (with_reducible repeat (first | refine blk_drewN ?_ _ | refine blk_drew ?_ | refine blk_alloc ?_ _)); refine blk_put (cs := #[.int .i64 0, .string (⟨#[]⟩ : ByteArray), .string (⟨#[]⟩ : ByteArray), .int .i64 0, .int .i64 0]) ?_ 0 _ rfl; (with_reducible repeat (first | refine blk_drewN ?_ _ | refine blk_drew ?_ | refine blk_alloc ?_ _)); exact BK1959.out) hb); have n3_ := Aside0.mk (below_step (by repeat (first | (with_reducible first | exact HB.out | apply below_alloc | apply pw_below_drewN | apply below_drew1 | refine below_set ?_ GE1957.out | refine below_set ?_ GE1959.out) | exact HB.out)) hb); clear HO_5; clear BK1957; clear BK1959; clear HB; have HO_5 := n0_; have BK1957 := n1_; have BK1959 := n2_; have HB := n3_; clear n0_ n1_ n2_ n3_; (try clear hb); (try clear hb2); (try clear hk); (try clear hi); obtain ⟨hcz26_0, hcz26_1, hcz26_2, hcz26_3, hcz26_4⟩ := cells5 BK1959.out; obtain ⟨hfz26_0, hfz26_1, hfz26_2, hfz26_3, hfz26_4⟩ := frozens5 BK1959.out; obtain ⟨hcz27_0, hcz27_1⟩ := cells2 BK1957.out; obtain ⟨hfz27_0, hfz27_1⟩ := frozens2 BK1957.out; have p1961 : 0 ≤ (t1960 : Int) := of_decide_eq_true (by first | (with_reducible assumption) | assumption); have q1961 : t1960 < (l1_1.length : Int) := of_decide_eq_true (by first | (with_reducible assumption) | assumption); obtain ⟨ad1961, A1961_4, c1961_4, e1961, hx1961_0, hx1961_1, hx1961_2, hx1961_3, hx1961_4, hl1961_4, hi1961_4⟩ := at_T43 HR1_1.out t1960 p1961 q1961; cases e1961; replace hx1961_0 := (HB.out.cell (World.block_lt_of_cell? w _ hx1961_0)).trans hx1961_0; replace hx1961_1 := (HB.out.cell (World.block_lt_of_cell? w _ hx1961_1)).trans hx1961_1; replace hx1961_2 := (HB.out.cell (World.block_lt_of_cell? w _ hx1961_2)).trans hx1961_2; replace hx1961_3 := (HB.out.cell (World.block_lt_of_cell? w _ hx1961_3)).trans hx1961_3; replace hx1961_4 := (HB.out.cell (World.block_lt_of_cell? w _ hx1961_4)).trans hx1961_4; have HR1961_4 := Aside0.mk hi1961_4; have HC1961_4 := Aside0.mk hl1961_4; clear hi1961_4 hl1961_4; replace p1961 := eq_true p1961; replace q1961 := eq_true q1961))
                    repeat (go_quiet (first | ((with_reducible refine gate_dst (N := 7) rfl ?_); refine box_event ?hg (N := 7) ?hd (cs := #[.int .i64 0, .string (⟨#[]⟩ : ByteArray), .string (⟨#[]⟩ : ByteArray), .int .i64 0, .int .i64 0]) (t := 186) ?hr ?_; (case hd => rfl); (case hg => rfl); (case hr => first | (go_simp; done) | (go_simp; rfl)); intro gb1959 hg w21 hbox hb; have n0_ := Aside0.mk (Kd.R_below (Kd.R_elderB (by (with_reducible repeat (first | apply Kd.R_alloc | apply Kd.R_drewN | apply Kd.R_drew)); exact HO_5.out) gb1959 (Nat.le_of_eq hg.symm)) hb); have n1_ := Aside0.mk (blk_below (g := gb1957) (by (with_reducible repeat (first | refine blk_drewN ?_ _ | refine blk_drew ?_ | refine blk_alloc ?_ _)); exact BK1957.out) hb); have n2_ := Aside0.mk (below_step (by repeat (first | (with_reducible first | exact HB.out | apply below_alloc | apply pw_below_drewN | apply below_drew1 | refine below_set ?_ GE1957.out) | exact HB.out)) hb); have n3_ := Aside0.mk (hbox); have n4_ := Aside0.mk ((by rw [hg]; exact (below_size (by repeat (first | (with_reducible first | exact HB.out | apply below_alloc | apply pw_below_drewN | apply below_drew1 | refine below_set ?_ GE1957.out) | exact HB.out))) : w.heap.size ≤ gb1959)); have n5_ := Aside0.mk ((by rw [hg]; exact (below_size (by repeat (first | (with_reducible first | exact HB.out | apply below_alloc | apply pw_below_drewN | apply below_drew1 | refine below_set ?_ GE1957.out) | exact HB.out))) : w.heap.size ≤ gb1959)); have n6_ := Aside0.mk ((by rw [hg]; exact Nat.ne_of_lt (blk_lt (g := gb1957) (o := .cells #[.int .i64 a1_0, .slice A1_1 l1_1.length c1_1] 37 (0, 0)) (by (with_reducible repeat (first | refine blk_drewN ?_ _ | refine blk_drew ?_ | refine blk_alloc ?_ _)); exact BK1957.out)) : gb1957 ≠ gb1959)); have n7_ := Aside0.mk ((by rw [hg]; exact Nat.ne_of_gt (blk_lt (g := gb1957) (o := .cells #[.int .i64 a1_0, .slice A1_1 l1_1.length c1_1] 37 (0, 0)) (by (with_reducible repeat (first | refine blk_drewN ?_ _ | refine blk_drew ?_ | refine blk_alloc ?_ _)); exact BK1957.out)) : gb1959 ≠ gb1957)); clear HO_5; clear BK1957; clear HB; have HO_5 := n0_; have BK1957 := n1_; have HB := n2_; have BK1959 := n3_; have GW1959 := n4_; have GE1959 := n5_; have NB1957_1959 := n6_; have NB1959_1957 := n7_; clear n0_ n1_ n2_ n3_ n4_ n5_ n6_ n7_; clear hb hbox hg; have hnb22 := NB1959_1957.out; have hnc22 := NB1957_1959.out; obtain ⟨hcz23_0, hcz23_1, hcz23_2, hcz23_3, hcz23_4⟩ := cells5 BK1959.out; obtain ⟨hfz23_0, hfz23_1, hfz23_2, hfz23_3, hfz23_4⟩ := frozens5 BK1959.out; obtain ⟨hcz24_0, hcz24_1⟩ := cells2 BK1957.out; obtain ⟨hfz24_0, hfz24_1⟩ := frozens2 BK1957.out) | (go_at_call 168; (with_reducible refine (impl_AcctAt.calls k1 _ _ l1_1 ((rd_T186 l0 x11_1).f1) t1960 _ ?side1 ?side2 A7.out).mono ?_); (case side1 => exact Kd.C_below HR1_1.out (by repeat (first | (with_reducible first | exact HB.out | apply below_alloc | apply pw_below_drewN | apply below_drew1 | refine below_set ?_ GE1957.out | refine below_set ?_ GE1959.out) | exact HB.out))); (case side2 => exact HC1_1.out); rintro e w25 ⟨rfl, hb⟩; have n0_ := Aside0.mk (Kd.R_below (by (with_reducible repeat (first | apply Kd.R_alloc | apply Kd.R_drewN | apply Kd.R_drew)); exact (Kd.R_mono (Kd.R_far (p := ⟨gb1959, 4, none⟩) (Kd.R_far (p := ⟨gb1959, 3, none⟩) (Kd.R_far (p := ⟨gb1959, 2, none⟩) (Kd.R_far (p := ⟨gb1959, 1, none⟩) (Kd.R_far (p := ⟨gb1959, 0, none⟩) (Kd.R_mono HO_5.out (fun k_ hk => (⟨hk, hk.2⟩ : _ ∧ k_ ≠ gb1959))) (fun _ hk => hk.2) (.int .i64 ((rd_T186 l0 x11_1).f0))) (fun _ hk => hk.2) (.string ((rd_T186 l0 x11_1).f1))) (fun _ hk => hk.2) (.string ((rd_T186 l0 x11_1).f2))) (fun _ hk => hk.2) (.int .i64 ((rd_T186 l0 x11_1).f3))) (fun _ hk => hk.2) (.int .i64 ((rd_T186 l0 x11_1).f4))) (fun _ h_ => h_.1))) hb); have n1_ := Aside0.mk (blk_below (g := gb1957) (o := .cells #[.int .i64 a1_0, .slice A1_1 l1_1.length c1_1] 37 (0, 0)) (by (with_reducible repeat (first | refine blk_drewN ?_ _ | refine blk_drew ?_ | refine blk_alloc ?_ _)); refine blk_far ?_ NB1957_1959.out _; (with_reducible repeat (first | refine blk_drewN ?_ _ | refine blk_drew ?_ | refine blk_alloc ?_ _)); refine blk_far ?_ NB1957_1959.out _; (with_reducible repeat (first | refine blk_drewN ?_ _ | refine blk_drew ?_ | refine blk_alloc ?_ _)); refine blk_far ?_ NB1957_1959.out _; (with_reducible repeat (first | refine blk_drewN ?_ _ | refine blk_drew ?_ | refine blk_alloc ?_ _)); refine blk_far ?_ NB1957_1959.out _; (with_reducible repeat (first | refine blk_drewN ?_ _ | refine blk_drew ?_ | refine blk_alloc ?_ _)); refine blk_far ?_ NB1957_1959.out _; (with_reducible repeat (first | refine blk_drewN ?_ _ | refine blk_drew ?_ | refine blk_alloc ?_ _)); exact BK1957.out) hb); have n2_ := Aside0.mk (blk_below (g := gb1959) (o := .cells #[.int .i64 ((rd_T186 l0 x11_1).f0), .string ((rd_T186 l0 x11_1).f1), .string ((rd_T186 l0 x11_1).f2), .int .i64 ((rd_T186 l0 x11_1).f3), .int .i64 ((rd_T186 l0 x11_1).f4)] 186 (0, 0)) (by (with_reducible repeat (first | refine blk_drewN ?_ _ | refine blk_drew ?_ | refine blk_alloc ?_ _)); refine blk_put (cs := #[.int .i64 ((rd_T186 l0 x11_1).f0), .string ((rd_T186 l0 x11_1).f1), .string ((rd_T186 l0 x11_1).f2), .int .i64 ((rd_T186 l0 x11_1).f3), .int .i64 0]) ?_ 4 _ rfl; (with_reducible repeat (first | refine blk_drewN ?_ _ | refine blk_drew ?_ | refine blk_alloc ?_ _)); refine blk_put (cs := #[.int .i64 ((rd_T186 l0 x11_1).f0), .string ((rd_T186 l0 x11_1).f1), .string ((rd_T186 l0 x11_1).f2), .int .i64 0, .int .i64 0]) ?_ 3 _ rfl; (with_reducible repeat (first | refine blk_drewN ?_ _ | refine blk_drew ?_ | refine blk_alloc ?_ _)); refine blk_put (cs := #[.int .i64 ((rd_T186 l0 x11_1).f0), .string ((rd_T186 l0 x11_1).f1), .string (⟨#[]⟩ : ByteArray), .int .i64 0, .int .i64 0]) ?_ 2 _ rfl; (with_reducible repeat (first | refine blk_drewN ?_ _ | refine blk_drew ?_ | refine blk_alloc ?_ _)); refine blk_put (cs := #[.int .i64 ((rd_T186 l0 x11_1).f0), .string (⟨#[]⟩ : ByteArray), .string (⟨#[]⟩ : ByteArray), .int .i64 0, .int .i64 0]) ?_ 1 _ rfl; (with_reducible repeat (first | refine blk_drewN ?_ _ | refine blk_drew ?_ | refine blk_alloc ?_ _)); refine blk_put (cs := #[.int .i64 0, .string (⟨#[]⟩ : ByteArray), .string (⟨#[]⟩ : ByteArray), .int .i64 0, .int .i64 0]) ?_ 0 _ rfl; (with_reducible repeat (first | refine blk_drewN ?_ _ | refine blk_drew ?_ | refine blk_alloc ?_ _)); exact BK1959.out) hb); have n3_ := Aside0.mk (below_step (by repeat (first | (with_reducible first | exact HB.out | apply below_alloc | apply pw_below_drewN | apply below_drew1 | refine below_set ?_ GE1957.out | refine below_set ?_ GE1959.out) | exact HB.out)) hb); clear HO_5; clear BK1957; clear BK1959; clear HB; have HO_5 := n0_; have BK1957 := n1_; have BK1959 := n2_; have HB := n3_; clear n0_ n1_ n2_ n3_; (try clear hb); (try clear hb2); (try clear hk); (try clear hi); obtain ⟨hcz26_0, hcz26_1, hcz26_2, hcz26_3, hcz26_4⟩ := cells5 BK1959.out; obtain ⟨hfz26_0, hfz26_1, hfz26_2, hfz26_3, hfz26_4⟩ := frozens5 BK1959.out; obtain ⟨hcz27_0, hcz27_1⟩ := cells2 BK1957.out; obtain ⟨hfz27_0, hfz27_1⟩ := frozens2 BK1957.out; have p1961 : 0 ≤ (t1960 : Int) := of_decide_eq_true (by first | (with_reducible assumption) | assumption); have q1961 : t1960 < (l1_1.length : Int) := of_decide_eq_true (by first | (with_reducible assumption) | assumption); obtain ⟨ad1961, A1961_4, c1961_4, e1961, hx1961_0, hx1961_1, hx1961_2, hx1961_3, hx1961_4, hl1961_4, hi1961_4⟩ := at_T43 HR1_1.out t1960 p1961 q1961; cases e1961; replace hx1961_0 := (HB.out.cell (World.block_lt_of_cell? w _ hx1961_0)).trans hx1961_0; replace hx1961_1 := (HB.out.cell (World.block_lt_of_cell? w _ hx1961_1)).trans hx1961_1; replace hx1961_2 := (HB.out.cell (World.block_lt_of_cell? w _ hx1961_2)).trans hx1961_2; replace hx1961_3 := (HB.out.cell (World.block_lt_of_cell? w _ hx1961_3)).trans hx1961_3; replace hx1961_4 := (HB.out.cell (World.block_lt_of_cell? w _ hx1961_4)).trans hx1961_4; have HR1961_4 := Aside0.mk hi1961_4; have HC1961_4 := Aside0.mk hl1961_4; clear hi1961_4 hl1961_4; replace p1961 := eq_true p1961; replace q1961 := eq_true q1961)); try go_wp2_with (first | ((with_reducible refine gate_dst (N := 7) rfl ?_); refine box_event ?hg (N := 7) ?hd (cs := #[.int .i64 0, .string (⟨#[]⟩ : ByteArray), .string (⟨#[]⟩ : ByteArray), .int .i64 0, .int .i64 0]) (t := 186) ?hr ?_; (case hd => rfl); (case hg => rfl); (case hr => first | (go_simp; done) | (go_simp; rfl)); intro gb1959 hg w21 hbox hb; have n0_ := Aside0.mk (Kd.R_below (Kd.R_elderB (by (with_reducible repeat (first | apply Kd.R_alloc | apply Kd.R_drewN | apply Kd.R_drew)); exact HO_5.out) gb1959 (Nat.le_of_eq hg.symm)) hb); have n1_ := Aside0.mk (blk_below (g := gb1957) (by (with_reducible repeat (first | refine blk_drewN ?_ _ | refine blk_drew ?_ | refine blk_alloc ?_ _)); exact BK1957.out) hb); have n2_ := Aside0.mk (below_step (by repeat (first | (with_reducible first | exact HB.out | apply below_alloc | apply pw_below_drewN | apply below_drew1 | refine below_set ?_ GE1957.out) | exact HB.out)) hb); have n3_ := Aside0.mk (hbox); have n4_ := Aside0.mk ((by rw [hg]; exact (below_size (by repeat (first | (with_reducible first | exact HB.out | apply below_alloc | apply pw_below_drewN | apply below_drew1 | refine below_set ?_ GE1957.out) | exact HB.out))) : w.heap.size ≤ gb1959)); have n5_ := Aside0.mk ((by rw [hg]; exact (below_size (by repeat (first | (with_reducible first | exact HB.out | apply below_alloc | apply pw_below_drewN | apply below_drew1 | refine below_set ?_ GE1957.out) | exact HB.out))) : w.heap.size ≤ gb1959)); have n6_ := Aside0.mk ((by rw [hg]; exact Nat.ne_of_lt (blk_lt (g := gb1957) (o := .cells #[.int .i64 a1_0, .slice A1_1 l1_1.length c1_1] 37 (0, 0)) (by (with_reducible repeat (first | refine blk_drewN ?_ _ | refine blk_drew ?_ | refine blk_alloc ?_ _)); exact BK1957.out)) : gb1957 ≠ gb1959)); have n7_ := Aside0.mk ((by rw [hg]; exact Nat.ne_of_gt (blk_lt (g := gb1957) (o := .cells #[.int .i64 a1_0, .slice A1_1 l1_1.length c1_1] 37 (0, 0)) (by (with_reducible repeat (first | refine blk_drewN ?_ _ | refine blk_drew ?_ | refine blk_alloc ?_ _)); exact BK1957.out)) : gb1959 ≠ gb1957)); clear HO_5; clear BK1957; clear HB; have HO_5 := n0_; have BK1957 := n1_; have HB := n2_; have BK1959 := n3_; have GW1959 := n4_; have GE1959 := n5_; have NB1957_1959 := n6_; have NB1959_1957 := n7_; clear n0_ n1_ n2_ n3_ n4_ n5_ n6_ n7_; clear hb hbox hg; have hnb22 := NB1959_1957.out; have hnc22 := NB1957_1959.out; obtain ⟨hcz23_0, hcz23_1, hcz23_2, hcz23_3, hcz23_4⟩ := cells5 BK1959.out; obtain ⟨hfz23_0, hfz23_1, hfz23_2, hfz23_3, hfz23_4⟩ := frozens5 BK1959.out; obtain ⟨hcz24_0, hcz24_1⟩ := cells2 BK1957.out; obtain ⟨hfz24_0, hfz24_1⟩ := frozens2 BK1957.out) | (go_at_call 168; (with_reducible refine (impl_AcctAt.calls k1 _ _ l1_1 ((rd_T186 l0 x11_1).f1) t1960 _ ?side1 ?side2 A7.out).mono ?_); (case side1 => exact Kd.C_below HR1_1.out (by repeat (first | (with_reducible first | exact HB.out | apply below_alloc | apply pw_below_drewN | apply below_drew1 | refine below_set ?_ GE1957.out | refine below_set ?_ GE1959.out) | exact HB.out))); (case side2 => exact HC1_1.out); rintro e w25 ⟨rfl, hb⟩; have n0_ := Aside0.mk (Kd.R_below (by (with_reducible repeat (first | apply Kd.R_alloc | apply Kd.R_drewN | apply Kd.R_drew)); exact (Kd.R_mono (Kd.R_far (p := ⟨gb1959, 4, none⟩) (Kd.R_far (p := ⟨gb1959, 3, none⟩) (Kd.R_far (p := ⟨gb1959, 2, none⟩) (Kd.R_far (p := ⟨gb1959, 1, none⟩) (Kd.R_far (p := ⟨gb1959, 0, none⟩) (Kd.R_mono HO_5.out (fun k_ hk => (⟨hk, hk.2⟩ : _ ∧ k_ ≠ gb1959))) (fun _ hk => hk.2) (.int .i64 ((rd_T186 l0 x11_1).f0))) (fun _ hk => hk.2) (.string ((rd_T186 l0 x11_1).f1))) (fun _ hk => hk.2) (.string ((rd_T186 l0 x11_1).f2))) (fun _ hk => hk.2) (.int .i64 ((rd_T186 l0 x11_1).f3))) (fun _ hk => hk.2) (.int .i64 ((rd_T186 l0 x11_1).f4))) (fun _ h_ => h_.1))) hb); have n1_ := Aside0.mk (blk_below (g := gb1957) (o := .cells #[.int .i64 a1_0, .slice A1_1 l1_1.length c1_1] 37 (0, 0)) (by (with_reducible repeat (first | refine blk_drewN ?_ _ | refine blk_drew ?_ | refine blk_alloc ?_ _)); refine blk_far ?_ NB1957_1959.out _; (with_reducible repeat (first | refine blk_drewN ?_ _ | refine blk_drew ?_ | refine blk_alloc ?_ _)); refine blk_far ?_ NB1957_1959.out _; (with_reducible repeat (first | refine blk_drewN ?_ _ | refine blk_drew ?_ | refine blk_alloc ?_ _)); refine blk_far ?_ NB1957_1959.out _; (with_reducible repeat (first | refine blk_drewN ?_ _ | refine blk_drew ?_ | refine blk_alloc ?_ _)); refine blk_far ?_ NB1957_1959.out _; (with_reducible repeat (first | refine blk_drewN ?_ _ | refine blk_drew ?_ | refine blk_alloc ?_ _)); refine blk_far ?_ NB1957_1959.out _; (with_reducible repeat (first | refine blk_drewN ?_ _ | refine blk_drew ?_ | refine blk_alloc ?_ _)); exact BK1957.out) hb); have n2_ := Aside0.mk (blk_below (g := gb1959) (o := .cells #[.int .i64 ((rd_T186 l0 x11_1).f0), .string ((rd_T186 l0 x11_1).f1), .string ((rd_T186 l0 x11_1).f2), .int .i64 ((rd_T186 l0 x11_1).f3), .int .i64 ((rd_T186 l0 x11_1).f4)] 186 (0, 0)) (by (with_reducible repeat (first | refine blk_drewN ?_ _ | refine blk_drew ?_ | refine blk_alloc ?_ _)); refine blk_put (cs := #[.int .i64 ((rd_T186 l0 x11_1).f0), .string ((rd_T186 l0 x11_1).f1), .string ((rd_T186 l0 x11_1).f2), .int .i64 ((rd_T186 l0 x11_1).f3), .int .i64 0]) ?_ 4 _ rfl; (with_reducible repeat (first | refine blk_drewN ?_ _ | refine blk_drew ?_ | refine blk_alloc ?_ _)); refine blk_put (cs := #[.int .i64 ((rd_T186 l0 x11_1).f0), .string ((rd_T186 l0 x11_1).f1), .string ((rd_T186 l0 x11_1).f2), .int .i64 0, .int .i64 0]) ?_ 3 _ rfl; (with_reducible repeat (first | refine blk_drewN ?_ _ | refine blk_drew ?_ | refine blk_alloc ?_ _)); refine blk_put (cs := #[.int .i64 ((rd_T186 l0 x11_1).f0), .string ((rd_T186 l0 x11_1).f1), .string (⟨#[]⟩ : ByteArray), .int .i64 0, .int .i64 0]) ?_ 2 _ rfl; (with_reducible repeat (first | refine blk_drewN ?_ _ | refine blk_drew ?_ | refine blk_alloc ?_ _)); refine blk_put (cs := #[.int .i64 ((rd_T186 l0 x11_1).f0), .string (⟨#[]⟩ : ByteArray), .string (⟨#[]⟩ : ByteArray), .int .i64 0, .int .i64 0]) ?_ 1 _ rfl; (with_reducible repeat (first | refine blk_drewN ?_ _ | refine blk_drew ?_ | refine blk_alloc ?_ _)); refine blk_put (cs := #[.int .i64 0, .string (⟨#[]⟩ : ByteArray), .string (⟨#[]⟩ : ByteArray), .int .i64 0, .int .i64 0]) ?_ 0 _ rfl; (with_reducible repeat (first | refine blk_drewN ?_ _ | refine blk_drew ?_ | refine blk_alloc ?_ _)); exact BK1959.out) hb); have n3_ := Aside0.mk (below_step (by repeat (first | (with_reducible first | exact HB.out | apply below_alloc | apply pw_below_drewN | apply below_drew1 | refine below_set ?_ GE1957.out | refine below_set ?_ GE1959.out) | exact HB.out)) hb); clear HO_5; clear BK1957; clear BK1959; clear HB; have HO_5 := n0_; have BK1957 := n1_; have BK1959 := n2_; have HB := n3_; clear n0_ n1_ n2_ n3_; (try clear hb); (try clear hb2); (try clear hk); (try clear hi); obtain ⟨hcz26_0, hcz26_1, hcz26_2, hcz26_3, hcz26_4⟩ := cells5 BK1959.out; obtain ⟨hfz26_0, hfz26_1, hfz26_2, hfz26_3, hfz26_4⟩ := frozens5 BK1959.out; obtain ⟨hcz27_0, hcz27_1⟩ := cells2 BK1957.out; obtain ⟨hfz27_0, hfz27_1⟩ := frozens2 BK1957.out; have p1961 : 0 ≤ (t1960 : Int) := of_decide_eq_true (by first | (with_reducible assumption) | assumption); have q1961 : t1960 < (l1_1.length : Int) := of_decide_eq_true (by first | (with_reducible assumption) | assumption); obtain ⟨ad1961, A1961_4, c1961_4, e1961, hx1961_0, hx1961_1, hx1961_2, hx1961_3, hx1961_4, hl1961_4, hi1961_4⟩ := at_T43 HR1_1.out t1960 p1961 q1961; cases e1961; replace hx1961_0 := (HB.out.cell (World.block_lt_of_cell? w _ hx1961_0)).trans hx1961_0; replace hx1961_1 := (HB.out.cell (World.block_lt_of_cell? w _ hx1961_1)).trans hx1961_1; replace hx1961_2 := (HB.out.cell (World.block_lt_of_cell? w _ hx1961_2)).trans hx1961_2; replace hx1961_3 := (HB.out.cell (World.block_lt_of_cell? w _ hx1961_3)).trans hx1961_3; replace hx1961_4 := (HB.out.cell (World.block_lt_of_cell? w _ hx1961_4)).trans hx1961_4; have HR1961_4 := Aside0.mk hi1961_4; have HC1961_4 := Aside0.mk hl1961_4; clear hi1961_4 hl1961_4; replace p1961 := eq_true p1961; replace q1961 := eq_true q1961)))
                    go_roundg k1
                    case measure => have := HK1.out; omega
                    case rel => exact ⟨(x5_1), (wrap64 (x11_1 + 1)), (by first | rfl | (simp; done) | (simp [*]; done)), H', ⟨by have := HK1.out; omega⟩, ⟨by (with_reducible repeat (first | apply Kd.R_alloc | apply Kd.R_drewN | apply Kd.R_drew)); exact Kd.R_mono HO_5.out (fun _ hk => trivial)⟩, ⟨by (with_reducible repeat (first | refine blk_drewN ?_ _ | refine blk_drew ?_ | refine blk_alloc ?_ _)); exact BK1957.out⟩, ⟨by repeat (first | (with_reducible first | exact HB.out | apply below_alloc | apply pw_below_drewN | apply below_drew1 | refine below_set ?_ GE1957.out | refine below_set ?_ GE1959.out) | exact HB.out)⟩⟩
                · rw [if_neg c10] at H
                  exact absurd H (by simp)
              · rw [if_neg c9] at H
                exact absurd H (by simp)
            · rw [if_neg c8] at H
              have c8b0 : decide (0 ≤ t1960) = false := decide_eq_false c8
              clear c8
              have H' := Aside0.mk H
              clear H
              have p1958 : 0 ≤ (x11_1 : Int) := of_decide_eq_true (by first | (with_reducible assumption) | assumption)
              have q1958 : x11_1 < (l0.length : Int) := of_decide_eq_true (by first | (with_reducible assumption) | assumption)
              obtain ⟨ad1958, e1958, hx1958_0, hx1958_1, hx1958_2, hx1958_3, hx1958_4⟩ := at_T186 HR0.out x11_1 p1958 q1958
              cases e1958
              replace hx1958_0 := (HB.out.cell (World.block_lt_of_cell? w _ hx1958_0)).trans hx1958_0
              replace hx1958_1 := (HB.out.cell (World.block_lt_of_cell? w _ hx1958_1)).trans hx1958_1
              replace hx1958_2 := (HB.out.cell (World.block_lt_of_cell? w _ hx1958_2)).trans hx1958_2
              replace hx1958_3 := (HB.out.cell (World.block_lt_of_cell? w _ hx1958_3)).trans hx1958_3
              replace hx1958_4 := (HB.out.cell (World.block_lt_of_cell? w _ hx1958_4)).trans hx1958_4
              replace p1958 := eq_true p1958
              replace q1958 := eq_true q1958
              go_wp2_with (first | ((with_reducible refine gate_dst (N := 7) rfl ?_); refine box_event ?hg (N := 7) ?hd (cs := #[.int .i64 0, .string (⟨#[]⟩ : ByteArray), .string (⟨#[]⟩ : ByteArray), .int .i64 0, .int .i64 0]) (t := 186) ?hr ?_; (case hd => rfl); (case hg => rfl); (case hr => first | (go_simp; done) | (go_simp; rfl)); intro gb1959 hg w28 hbox hb; have n0_ := Aside0.mk (Kd.R_below (Kd.R_elderB (by (with_reducible repeat (first | apply Kd.R_alloc | apply Kd.R_drewN | apply Kd.R_drew)); exact HO_5.out) gb1959 (Nat.le_of_eq hg.symm)) hb); have n1_ := Aside0.mk (blk_below (g := gb1957) (by (with_reducible repeat (first | refine blk_drewN ?_ _ | refine blk_drew ?_ | refine blk_alloc ?_ _)); exact BK1957.out) hb); have n2_ := Aside0.mk (below_step (by repeat (first | (with_reducible first | exact HB.out | apply below_alloc | apply pw_below_drewN | apply below_drew1 | refine below_set ?_ GE1957.out) | exact HB.out)) hb); have n3_ := Aside0.mk (hbox); have n4_ := Aside0.mk ((by rw [hg]; exact (below_size (by repeat (first | (with_reducible first | exact HB.out | apply below_alloc | apply pw_below_drewN | apply below_drew1 | refine below_set ?_ GE1957.out) | exact HB.out))) : w.heap.size ≤ gb1959)); have n5_ := Aside0.mk ((by rw [hg]; exact (below_size (by repeat (first | (with_reducible first | exact HB.out | apply below_alloc | apply pw_below_drewN | apply below_drew1 | refine below_set ?_ GE1957.out) | exact HB.out))) : w.heap.size ≤ gb1959)); have n6_ := Aside0.mk ((by rw [hg]; exact Nat.ne_of_lt (blk_lt (g := gb1957) (o := .cells #[.int .i64 a1_0, .slice A1_1 l1_1.length c1_1] 37 (0, 0)) (by (with_reducible repeat (first | refine blk_drewN ?_ _ | refine blk_drew ?_ | refine blk_alloc ?_ _)); exact BK1957.out)) : gb1957 ≠ gb1959)); have n7_ := Aside0.mk ((by rw [hg]; exact Nat.ne_of_gt (blk_lt (g := gb1957) (o := .cells #[.int .i64 a1_0, .slice A1_1 l1_1.length c1_1] 37 (0, 0)) (by (with_reducible repeat (first | refine blk_drewN ?_ _ | refine blk_drew ?_ | refine blk_alloc ?_ _)); exact BK1957.out)) : gb1959 ≠ gb1957)); clear HO_5; clear BK1957; clear HB; have HO_5 := n0_; have BK1957 := n1_; have HB := n2_; have BK1959 := n3_; have GW1959 := n4_; have GE1959 := n5_; have NB1957_1959 := n6_; have NB1959_1957 := n7_; clear n0_ n1_ n2_ n3_ n4_ n5_ n6_ n7_; clear hb hbox hg; have hnb29 := NB1959_1957.out; have hnc29 := NB1957_1959.out; obtain ⟨hcz30_0, hcz30_1, hcz30_2, hcz30_3, hcz30_4⟩ := cells5 BK1959.out; obtain ⟨hfz30_0, hfz30_1, hfz30_2, hfz30_3, hfz30_4⟩ := frozens5 BK1959.out; obtain ⟨hcz31_0, hcz31_1⟩ := cells2 BK1957.out; obtain ⟨hfz31_0, hfz31_1⟩ := frozens2 BK1957.out) | (go_at_call 168; (with_reducible refine (impl_AcctAt.calls k1 _ _ l1_1 ((rd_T186 l0 x11_1).f1) t1960 _ ?side1 ?side2 A7.out).mono ?_); (case side1 => exact Kd.C_below HR1_1.out (by repeat (first | (with_reducible first | exact HB.out | apply below_alloc | apply pw_below_drewN | apply below_drew1 | refine below_set ?_ GE1957.out | refine below_set ?_ GE1959.out) | exact HB.out))); (case side2 => exact HC1_1.out); rintro e w32 ⟨rfl, hb⟩; have n0_ := Aside0.mk (Kd.R_below (by (with_reducible repeat (first | apply Kd.R_alloc | apply Kd.R_drewN | apply Kd.R_drew)); exact (Kd.R_mono (Kd.R_far (p := ⟨gb1959, 4, none⟩) (Kd.R_far (p := ⟨gb1959, 3, none⟩) (Kd.R_far (p := ⟨gb1959, 2, none⟩) (Kd.R_far (p := ⟨gb1959, 1, none⟩) (Kd.R_far (p := ⟨gb1959, 0, none⟩) (Kd.R_mono HO_5.out (fun k_ hk => (⟨hk, hk.2⟩ : _ ∧ k_ ≠ gb1959))) (fun _ hk => hk.2) (.int .i64 ((rd_T186 l0 x11_1).f0))) (fun _ hk => hk.2) (.string ((rd_T186 l0 x11_1).f1))) (fun _ hk => hk.2) (.string ((rd_T186 l0 x11_1).f2))) (fun _ hk => hk.2) (.int .i64 ((rd_T186 l0 x11_1).f3))) (fun _ hk => hk.2) (.int .i64 ((rd_T186 l0 x11_1).f4))) (fun _ h_ => h_.1))) hb); have n1_ := Aside0.mk (blk_below (g := gb1957) (o := .cells #[.int .i64 a1_0, .slice A1_1 l1_1.length c1_1] 37 (0, 0)) (by (with_reducible repeat (first | refine blk_drewN ?_ _ | refine blk_drew ?_ | refine blk_alloc ?_ _)); refine blk_far ?_ NB1957_1959.out _; (with_reducible repeat (first | refine blk_drewN ?_ _ | refine blk_drew ?_ | refine blk_alloc ?_ _)); refine blk_far ?_ NB1957_1959.out _; (with_reducible repeat (first | refine blk_drewN ?_ _ | refine blk_drew ?_ | refine blk_alloc ?_ _)); refine blk_far ?_ NB1957_1959.out _; (with_reducible repeat (first | refine blk_drewN ?_ _ | refine blk_drew ?_ | refine blk_alloc ?_ _)); refine blk_far ?_ NB1957_1959.out _; (with_reducible repeat (first | refine blk_drewN ?_ _ | refine blk_drew ?_ | refine blk_alloc ?_ _)); refine blk_far ?_ NB1957_1959.out _; (with_reducible repeat (first | refine blk_drewN ?_ _ | refine blk_drew ?_ | refine blk_alloc ?_ _)); exact BK1957.out) hb); have n2_ := Aside0.mk (blk_below (g := gb1959) (o := .cells #[.int .i64 ((rd_T186 l0 x11_1).f0), .string ((rd_T186 l0 x11_1).f1), .string ((rd_T186 l0 x11_1).f2), .int .i64 ((rd_T186 l0 x11_1).f3), .int .i64 ((rd_T186 l0 x11_1).f4)] 186 (0, 0)) (by (with_reducible repeat (first | refine blk_drewN ?_ _ | refine blk_drew ?_ | refine blk_alloc ?_ _)); refine blk_put (cs := #[.int .i64 ((rd_T186 l0 x11_1).f0), .string ((rd_T186 l0 x11_1).f1), .string ((rd_T186 l0 x11_1).f2), .int .i64 ((rd_T186 l0 x11_1).f3), .int .i64 0]) ?_ 4 _ rfl; (with_reducible repeat (first | refine blk_drewN ?_ _ | refine blk_drew ?_ | refine blk_alloc ?_ _)); refine blk_put (cs := #[.int .i64 ((rd_T186 l0 x11_1).f0), .string ((rd_T186 l0 x11_1).f1), .string ((rd_T186 l0 x11_1).f2), .int .i64 0, .int .i64 0]) ?_ 3 _ rfl; (with_reducible repeat (first | refine blk_drewN ?_ _ | refine blk_drew ?_ | refine blk_alloc ?_ _)); refine blk_put (cs := #[.int .i64 ((rd_T186 l0 x11_1).f0), .string ((rd_T186 l0 x11_1).f1), .string (⟨#[]⟩ : ByteArray), .int .i64 0, .int .i64 0]) ?_ 2 _ rfl; (with_reducible repeat (first | refine blk_drewN ?_ _ | refine blk_drew ?_ | refine blk_alloc ?_ _)); refine blk_put (cs := #[.int .i64 ((rd_T186 l0 x11_1).f0), .string (⟨#[]⟩ : ByteArray), .string (⟨#[]⟩ : ByteArray), .int .i64 0, .int .i64 0]) ?_ 1 _ rfl; (with_reducible repeat (first | refine blk_drewN ?_ _ | refine blk_drew ?_ | refine blk_alloc ?_ _)); refine blk_put (cs := #[.int .i64 0, .string (⟨#[]⟩ : ByteArray), .string (⟨#[]⟩ : ByteArray), .int .i64 0, .int .i64 0]) ?_ 0 _ rfl; (with_reducible repeat (first | refine blk_drewN ?_ _ | refine blk_drew ?_ | refine blk_alloc ?_ _)); exact BK1959.out) hb); have n3_ := Aside0.mk (below_step (by repeat (first | (with_reducible first | exact HB.out | apply below_alloc | apply pw_below_drewN | apply below_drew1 | refine below_set ?_ GE1957.out | refine below_set ?_ GE1959.out) | exact HB.out)) hb); clear HO_5; clear BK1957; clear BK1959; clear HB; have HO_5 := n0_; have BK1957 := n1_; have BK1959 := n2_; have HB := n3_; clear n0_ n1_ n2_ n3_; (try clear hb); (try clear hb2); (try clear hk); (try clear hi)))
              repeat (go_quiet (first | ((with_reducible refine gate_dst (N := 7) rfl ?_); refine box_event ?hg (N := 7) ?hd (cs := #[.int .i64 0, .string (⟨#[]⟩ : ByteArray), .string (⟨#[]⟩ : ByteArray), .int .i64 0, .int .i64 0]) (t := 186) ?hr ?_; (case hd => rfl); (case hg => rfl); (case hr => first | (go_simp; done) | (go_simp; rfl)); intro gb1959 hg w28 hbox hb; have n0_ := Aside0.mk (Kd.R_below (Kd.R_elderB (by (with_reducible repeat (first | apply Kd.R_alloc | apply Kd.R_drewN | apply Kd.R_drew)); exact HO_5.out) gb1959 (Nat.le_of_eq hg.symm)) hb); have n1_ := Aside0.mk (blk_below (g := gb1957) (by (with_reducible repeat (first | refine blk_drewN ?_ _ | refine blk_drew ?_ | refine blk_alloc ?_ _)); exact BK1957.out) hb); have n2_ := Aside0.mk (below_step (by repeat (first | (with_reducible first | exact HB.out | apply below_alloc | apply pw_below_drewN | apply below_drew1 | refine below_set ?_ GE1957.out) | exact HB.out)) hb); have n3_ := Aside0.mk (hbox); have n4_ := Aside0.mk ((by rw [hg]; exact (below_size (by repeat (first | (with_reducible first | exact HB.out | apply below_alloc | apply pw_below_drewN | apply below_drew1 | refine below_set ?_ GE1957.out) | exact HB.out))) : w.heap.size ≤ gb1959)); have n5_ := Aside0.mk ((by rw [hg]; exact (below_size (by repeat (first | (with_reducible first | exact HB.out | apply below_alloc | apply pw_below_drewN | apply below_drew1 | refine below_set ?_ GE1957.out) | exact HB.out))) : w.heap.size ≤ gb1959)); have n6_ := Aside0.mk ((by rw [hg]; exact Nat.ne_of_lt (blk_lt (g := gb1957) (o := .cells #[.int .i64 a1_0, .slice A1_1 l1_1.length c1_1] 37 (0, 0)) (by (with_reducible repeat (first | refine blk_drewN ?_ _ | refine blk_drew ?_ | refine blk_alloc ?_ _)); exact BK1957.out)) : gb1957 ≠ gb1959)); have n7_ := Aside0.mk ((by rw [hg]; exact Nat.ne_of_gt (blk_lt (g := gb1957) (o := .cells #[.int .i64 a1_0, .slice A1_1 l1_1.length c1_1] 37 (0, 0)) (by (with_reducible repeat (first | refine blk_drewN ?_ _ | refine blk_drew ?_ | refine blk_alloc ?_ _)); exact BK1957.out)) : gb1959 ≠ gb1957)); clear HO_5; clear BK1957; clear HB; have HO_5 := n0_; have BK1957 := n1_; have HB := n2_; have BK1959 := n3_; have GW1959 := n4_; have GE1959 := n5_; have NB1957_1959 := n6_; have NB1959_1957 := n7_; clear n0_ n1_ n2_ n3_ n4_ n5_ n6_ n7_; clear hb hbox hg; have hnb29 := NB1959_1957.out; have hnc29 := NB1957_1959.out; obtain ⟨hcz30_0, hcz30_1, hcz30_2, hcz30_3, hcz30_4⟩ := cells5 BK1959.out; obtain ⟨hfz30_0, hfz30_1, hfz30_2, hfz30_3, hfz30_4⟩ := frozens5 BK1959.out; obtain ⟨hcz31_0, hcz31_1⟩ := cells2 BK1957.out; obtain ⟨hfz31_0, hfz31_1⟩ := frozens2 BK1957.out) | (go_at_call 168; (with_reducible refine (impl_AcctAt.calls k1 _ _ l1_1 ((rd_T186 l0 x11_1).f1) t1960 _ ?side1 ?side2 A7.out).mono ?_); (case side1 => exact Kd.C_below HR1_1.out (by repeat (first | (with_reducible first | exact HB.out | apply below_alloc | apply pw_below_drewN | apply below_drew1 | refine below_set ?_ GE1957.out | refine below_set ?_ GE1959.out) | exact HB.out))); (case side2 => exact HC1_1.out); rintro e w32 ⟨rfl, hb⟩; have n0_ := Aside0.mk (Kd.R_below (by (with_reducible repeat (first | apply Kd.R_alloc | apply Kd.R_drewN | apply Kd.R_drew)); exact (Kd.R_mono (Kd.R_far (p := ⟨gb1959, 4, none⟩) (Kd.R_far (p := ⟨gb1959, 3, none⟩) (Kd.R_far (p := ⟨gb1959, 2, none⟩) (Kd.R_far (p := ⟨gb1959, 1, none⟩) (Kd.R_far (p := ⟨gb1959, 0, none⟩) (Kd.R_mono HO_5.out (fun k_ hk => (⟨hk, hk.2⟩ : _ ∧ k_ ≠ gb1959))) (fun _ hk => hk.2) (.int .i64 ((rd_T186 l0 x11_1).f0))) (fun _ hk => hk.2) (.string ((rd_T186 l0 x11_1).f1))) (fun _ hk => hk.2) (.string ((rd_T186 l0 x11_1).f2))) (fun _ hk => hk.2) (.int .i64 ((rd_T186 l0 x11_1).f3))) (fun _ hk => hk.2) (.int .i64 ((rd_T186 l0 x11_1).f4))) (fun _ h_ => h_.1))) hb); have n1_ := Aside0.mk (blk_below (g := gb1957) (o := .cells #[.int .i64 a1_0, .slice A1_1 l1_1.length c1_1] 37 (0, 0)) (by (with_reducible repeat (first | refine blk_drewN ?_ _ | refine blk_drew ?_ | refine blk_alloc ?_ _)); refine blk_far ?_ NB1957_1959.out _; (with_reducible repeat (first | refine blk_drewN ?_ _ | refine blk_drew ?_ | refine blk_alloc ?_ _)); refine blk_far ?_ NB1957_1959.out _; (with_reducible repeat (first | refine blk_drewN ?_ _ | refine blk_drew ?_ | refine blk_alloc ?_ _)); refine blk_far ?_ NB1957_1959.out _; (with_reducible repeat (first | refine blk_drewN ?_ _ | refine blk_drew ?_ | refine blk_alloc ?_ _)); refine blk_far ?_ NB1957_1959.out _; (with_reducible repeat (first | refine blk_drewN ?_ _ | refine blk_drew ?_ | refine blk_alloc ?_ _)); refine blk_far ?_ NB1957_1959.out _; (with_reducible repeat (first | refine blk_drewN ?_ _ | refine blk_drew ?_ | refine blk_alloc ?_ _)); exact BK1957.out) hb); have n2_ := Aside0.mk (blk_below (g := gb1959) (o := .cells #[.int .i64 ((rd_T186 l0 x11_1).f0), .string ((rd_T186 l0 x11_1).f1), .string ((rd_T186 l0 x11_1).f2), .int .i64 ((rd_T186 l0 x11_1).f3), .int .i64 ((rd_T186 l0 x11_1).f4)] 186 (0, 0)) (by (with_reducible repeat (first | refine blk_drewN ?_ _ | refine blk_drew ?_ | refine blk_alloc ?_ _)); refine blk_put (cs := #[.int .i64 ((rd_T186 l0 x11_1).f0), .string ((rd_T186 l0 x11_1).f1), .string ((rd_T186 l0 x11_1).f2), .int .i64 ((rd_T186 l0 x11_1).f3), .int .i64 0]) ?_ 4 _ rfl; (with_reducible repeat (first | refine blk_drewN ?_ _ | refine blk_drew ?_ | refine blk_alloc ?_ _)); refine blk_put (cs := #[.int .i64 ((rd_T186 l0 x11_1).f0), .string ((rd_T186 l0 x11_1).f1), .string ((rd_T186 l0 x11_1).f2), .int .i64 0, .int .i64 0]) ?_ 3 _ rfl; (with_reducible repeat (first | refine blk_drewN ?_ _ | refine blk_drew ?_ | refine blk_alloc ?_ _)); refine blk_put (cs := #[.int .i64 ((rd_T186 l0 x11_1).f0), .string ((rd_T186 l0 x11_1).f1), .string (⟨#[]⟩ : ByteArray), .int .i64 0, .int .i64 0]) ?_ 2 _ rfl; (with_reducible repeat (first | refine blk_drewN ?_ _ | refine blk_drew ?_ | refine blk_alloc ?_ _)); refine blk_put (cs := #[.int .i64 ((rd_T186 l0 x11_1).f0), .string (⟨#[]⟩ : ByteArray), .string (⟨#[]⟩ : ByteArray), .int .i64 0, .int .i64 0]) ?_ 1 _ rfl; (with_reducible repeat (first | refine blk_drewN ?_ _ | refine blk_drew ?_ | refine blk_alloc ?_ _)); refine blk_put (cs := #[.int .i64 0, .string (⟨#[]⟩ : ByteArray), .string (⟨#[]⟩ : ByteArray), .int .i64 0, .int .i64 0]) ?_ 0 _ rfl; (with_reducible repeat (first | refine blk_drewN ?_ _ | refine blk_drew ?_ | refine blk_alloc ?_ _)); exact BK1959.out) hb); have n3_ := Aside0.mk (below_step (by repeat (first | (with_reducible first | exact HB.out | apply below_alloc | apply pw_below_drewN | apply below_drew1 | refine below_set ?_ GE1957.out | refine below_set ?_ GE1959.out) | exact HB.out)) hb); clear HO_5; clear BK1957; clear BK1959; clear HB; have HO_5 := n0_; have BK1957 := n1_; have BK1959 := n2_; have HB := n3_; clear n0_ n1_ n2_ n3_; (try clear hb); (try clear hb2); (try clear hk); (try clear hi))); try go_wp2_with (first | ((with_reducible refine gate_dst (N := 7) rfl ?_); refine box_event ?hg (N := 7) ?hd (cs := #[.int .i64 0, .string (⟨#[]⟩ : ByteArray), .string (⟨#[]⟩ : ByteArray), .int .i64 0, .int .i64 0]) (t := 186) ?hr ?_; (case hd => rfl); (case hg => rfl); (case hr => first | (go_simp; done) | (go_simp; rfl)); intro gb1959 hg w28 hbox hb; have n0_ := Aside0.mk (Kd.R_below (Kd.R_elderB (by (with_reducible repeat (first | apply Kd.R_alloc | apply Kd.R_drewN | apply Kd.R_drew)); exact HO_5.out) gb1959 (Nat.le_of_eq hg.symm)) hb); have n1_ := Aside0.mk (blk_below (g := gb1957) (by (with_reducible repeat (first | refine blk_drewN ?_ _ | refine blk_drew ?_ | refine blk_alloc ?_ _)); exact BK1957.out) hb); have n2_ := Aside0.mk (below_step (by repeat (first | (with_reducible first | exact HB.out | apply below_alloc | apply pw_below_drewN | apply below_drew1 | refine below_set ?_ GE1957.out) | exact HB.out)) hb); have n3_ := Aside0.mk (hbox); have n4_ := Aside0.mk ((by rw [hg]; exact (below_size (by repeat (first | (with_reducible first | exact HB.out | apply below_alloc | apply pw_below_drewN | apply below_drew1 | refine below_set ?_ GE1957.out) | exact HB.out))) : w.heap.size ≤ gb1959)); have n5_ := Aside0.mk ((by rw [hg]; exact (below_size (by repeat (first | (with_reducible first | exact HB.out | apply below_alloc | apply pw_below_drewN | apply below_drew1 | refine below_set ?_ GE1957.out) | exact HB.out))) : w.heap.size ≤ gb1959)); have n6_ := Aside0.mk ((by rw [hg]; exact Nat.ne_of_lt (blk_lt (g := gb1957) (o := .cells #[.int .i64 a1_0, .slice A1_1 l1_1.length c1_1] 37 (0, 0)) (by (with_reducible repeat (first | refine blk_drewN ?_ _ | refine blk_drew ?_ | refine blk_alloc ?_ _)); exact BK1957.out)) : gb1957 ≠ gb1959)); have n7_ := Aside0.mk ((by rw [hg]; exact Nat.ne_of_gt (blk_lt (g := gb1957) (o := .cells #[.int .i64 a1_0, .slice A1_1 l1_1.length c1_1] 37 (0, 0)) (by (with_reducible repeat (first | refine blk_drewN ?_ _ | refine blk_drew ?_ | refine blk_alloc ?_ _)); exact BK1957.out)) : gb1959 ≠ gb1957)); clear HO_5; clear BK1957; clear HB; have HO_5 := n0_; have BK1957 := n1_; have HB := n2_; have BK1959 := n3_; have GW1959 := n4_; have GE1959 := n5_; have NB1957_1959 := n6_; have NB1959_1957 := n7_; clear n0_ n1_ n2_ n3_ n4_ n5_ n6_ n7_; clear hb hbox hg; have hnb29 := NB1959_1957.out; have hnc29 := NB1957_1959.out; obtain ⟨hcz30_0, hcz30_1, hcz30_2, hcz30_3, hcz30_4⟩ := cells5 BK1959.out; obtain ⟨hfz30_0, hfz30_1, hfz30_2, hfz30_3, hfz30_4⟩ := frozens5 BK1959.out; obtain ⟨hcz31_0, hcz31_1⟩ := cells2 BK1957.out; obtain ⟨hfz31_0, hfz31_1⟩ := frozens2 BK1957.out) | (go_at_call 168; (with_reducible refine (impl_AcctAt.calls k1 _ _ l1_1 ((rd_T186 l0 x11_1).f1) t1960 _ ?side1 ?side2 A7.out).mono ?_); (case side1 => exact Kd.C_below HR1_1.out (by repeat (first | (with_reducible first | exact HB.out | apply below_alloc | apply pw_below_drewN | apply below_drew1 | refine below_set ?_ GE1957.out | refine below_set ?_ GE1959.out) | exact HB.out))); (case side2 => exact HC1_1.out); rintro e w32 ⟨rfl, hb⟩; have n0_ := Aside0.mk (Kd.R_below (by (with_reducible repeat (first | apply Kd.R_alloc | apply Kd.R_drewN | apply Kd.R_drew)); exact (Kd.R_mono (Kd.R_far (p := ⟨gb1959, 4, none⟩) (Kd.R_far (p := ⟨gb1959, 3, none⟩) (Kd.R_far (p := ⟨gb1959, 2, none⟩) (Kd.R_far (p := ⟨gb1959, 1, none⟩) (Kd.R_far (p := ⟨gb1959, 0, none⟩) (Kd.R_mono HO_5.out (fun k_ hk => (⟨hk, hk.2⟩ : _ ∧ k_ ≠ gb1959))) (fun _ hk => hk.2) (.int .i64 ((rd_T186 l0 x11_1).f0))) (fun _ hk => hk.2) (.string ((rd_T186 l0 x11_1).f1))) (fun _ hk => hk.2) (.string ((rd_T186 l0 x11_1).f2))) (fun _ hk => hk.2) (.int .i64 ((rd_T186 l0 x11_1).f3))) (fun _ hk => hk.2) (.int .i64 ((rd_T186 l0 x11_1).f4))) (fun _ h_ => h_.1))) hb); have n1_ := Aside0.mk (blk_below (g := gb1957) (o := .cells #[.int .i64 a1_0, .slice A1_1 l1_1.length c1_1] 37 (0, 0)) (by (with_reducible repeat (first | refine blk_drewN ?_ _ | refine blk_drew ?_ | refine blk_alloc ?_ _)); refine blk_far ?_ NB1957_1959.out _; (with_reducible repeat (first | refine blk_drewN ?_ _ | refine blk_drew ?_ | refine blk_alloc ?_ _)); refine blk_far ?_ NB1957_1959.out _; (with_reducible repeat (first | refine blk_drewN ?_ _ | refine blk_drew ?_ | refine blk_alloc ?_ _)); refine blk_far ?_ NB1957_1959.out _; (with_reducible repeat (first | refine blk_drewN ?_ _ | refine blk_drew ?_ | refine blk_alloc ?_ _)); refine blk_far ?_ NB1957_1959.out _; (with_reducible repeat (first | refine blk_drewN ?_ _ | refine blk_drew ?_ | refine blk_alloc ?_ _)); refine blk_far ?_ NB1957_1959.out _; (with_reducible repeat (first | refine blk_drewN ?_ _ | refine blk_drew ?_ | refine blk_alloc ?_ _)); exact BK1957.out) hb); have n2_ := Aside0.mk (blk_below (g := gb1959) (o := .cells #[.int .i64 ((rd_T186 l0 x11_1).f0), .string ((rd_T186 l0 x11_1).f1), .string ((rd_T186 l0 x11_1).f2), .int .i64 ((rd_T186 l0 x11_1).f3), .int .i64 ((rd_T186 l0 x11_1).f4)] 186 (0, 0)) (by (with_reducible repeat (first | refine blk_drewN ?_ _ | refine blk_drew ?_ | refine blk_alloc ?_ _)); refine blk_put (cs := #[.int .i64 ((rd_T186 l0 x11_1).f0), .string ((rd_T186 l0 x11_1).f1), .string ((rd_T186 l0 x11_1).f2), .int .i64 ((rd_T186 l0 x11_1).f3), .int .i64 0]) ?_ 4 _ rfl; (with_reducible repeat (first | refine blk_drewN ?_ _ | refine blk_drew ?_ | refine blk_alloc ?_ _)); refine blk_put (cs := #[.int .i64 ((rd_T186 l0 x11_1).f0), .string ((rd_T186 l0 x11_1).f1), .string ((rd_T186 l0 x11_1).f2), .int .i64 0, .int .i64 0]) ?_ 3 _ rfl; (with_reducible repeat (first | refine blk_drewN ?_ _ | refine blk_drew ?_ | refine blk_alloc ?_ _)); refine blk_put (cs := #[.int .i64 ((rd_T186 l0 x11_1).f0), .string ((rd_T186 l0 x11_1).f1), .string (⟨#[]⟩ : ByteArray), .int .i64 0, .int .i64 0]) ?_ 2 _ rfl; (with_reducible repeat (first | refine blk_drewN ?_ _ | refine blk_drew ?_ | refine blk_alloc ?_ _)); refine blk_put (cs := #[.int .i64 ((rd_T186 l0 x11_1).f0), .string (⟨#[]⟩ : ByteArray), .string (⟨#[]⟩ : ByteArray), .int .i64 0, .int .i64 0]) ?_ 1 _ rfl; (with_reducible repeat (first | refine blk_drewN ?_ _ | refine blk_drew ?_ | refine blk_alloc ?_ _)); refine blk_put (cs := #[.int .i64 0, .string (⟨#[]⟩ : ByteArray), .string (⟨#[]⟩ : ByteArray), .int .i64 0, .int .i64 0]) ?_ 0 _ rfl; (with_reducible repeat (first | refine blk_drewN ?_ _ | refine blk_drew ?_ | refine blk_alloc ?_ _)); exact BK1959.out) hb); have n3_ := Aside0.mk (below_step (by repeat (first | (with_reducible first | exact HB.out | apply below_alloc | apply pw_below_drewN | apply below_drew1 | refine below_set ?_ GE1957.out | refine below_set ?_ GE1959.out) | exact HB.out)) hb); clear HO_5; clear BK1957; clear BK1959; clear HB; have HO_5 := n0_; have BK1957 := n1_; have BK1959 := n2_; have HB := n3_; clear n0_ n1_ n2_ n3_; (try clear hb); (try clear hb2); (try clear hk); (try clear hi))))
              go_roundg k1
              case measure => have := HK1.out; omega
              case rel => exact ⟨(x5_1), (wrap64 (x11_1 + 1)), (by first | rfl | (simp; done) | (simp [*]; done)), H', ⟨by have := HK1.out; omega⟩, ⟨by (with_reducible repeat (first | apply Kd.R_alloc | apply Kd.R_drewN | apply Kd.R_drew)); exact Kd.R_mono HO_5.out (fun _ hk => trivial)⟩, ⟨by (with_reducible repeat (first | refine blk_drewN ?_ _ | refine blk_drew ?_ | refine blk_alloc ?_ _)); exact BK1957.out⟩, ⟨by repeat (first | (with_reducible first | exact HB.out | apply below_alloc | apply pw_below_drewN | apply below_drew1 | refine below_set ?_ GE1957.out | refine below_set ?_ GE1959.out) | exact HB.out)⟩⟩
          · rw [if_neg c6] at H
            exact absurd H (by simp)
        · rw [if_neg c5] at H
          exact absurd H (by simp)
      · rw [if_neg c4] at H
        have c4b0 : decide (x11_1 < (l0.length : Int)) = false := decide_eq_false c4
        clear c4
        obtain rfl := Option.some.inj H
        go_wp2
        repeat (go_quiet (fail); try go_wp2)
        go_ret
        exact ⟨_, by first | rfl | (simp [errW_none, errW_some] <;> rfl) | (simp [*, errW_none, errW_some] <;> rfl), by (with_reducible repeat (first | apply Kd.R_alloc | apply Kd.R_drewN | apply Kd.R_drew)); exact HO_5.out, by repeat (first | (with_reducible first | exact HB.out | apply below_alloc | apply pw_below_drewN | apply below_drew1 | refine below_set ?_ GE1957.out) | exact HB.out)⟩

theorem impl_PoolDrop.is {l : List S186} {e : Int} {ac : List S43} (hl : l.length ≤ 1048576) (ha : ac.length ≤ 1048576) : Ev (fun k => impl_PoolDrop.f k l e ac) (poolDrop l ac) := by
  have hm : maxLen = 9223372036854775807 := rfl
  unfold impl_PoolDrop.f
  have key : ∀ (ys pre : List S186), l = pre ++ ys → Ev (fun k => impl_PoolDrop.l0 k (poolDrop pre ac) l (l.length : Int) (pre.length : Int) e ac) (poolDrop l ac) := by
    intro ys
    induction ys with
    | nil =>
      intro pre hx
      obtain rfl : l = pre := by rw [hx, List.append_nil]
      refine Ev.up ?_
      simp only [impl_PoolDrop.l0]
      exact Ev.no (by omega) (Ev.now _)
    | cons y ys ih =>
      intro pre hx
      have hp := len_app hx
      have hrd : rd_T186 l pre.length = y := by rw [hx]; exact at_app pre y ys _
      have hn := ih (pre ++ [y]) (by rw [hx]; simp)
      have hlen := poolDrop_le pre ac
      have h1 := acctIdx_hi ac y.f1
      rw [poolDrop_next, List.length_append, List.length_singleton] at hn
      refine Ev.up ?_
      simp only [impl_PoolDrop.l0, hrd]
      rw [unw (x := (pre.length : Int) + 1) (by omega) (by omega)]
      refine Ev.yes (by omega) (Ev.yes (by omega) (Ev.yes (by omega) (Ev.bind (impl_AcctAt.is (by omega)) ?_)))
      have hk : keptTx ac y = (decide (acctIdx ac y.f1 ≥ 0) && decide (y.f4 ≥ (rd_T43 ac (acctIdx ac y.f1)).f2)) := rfl
      refine Ev.cond (fun hc => Ev.yes (by omega) (Ev.yes (by omega) (Ev.cond (fun hq => Ev.yes (by omega) ?_) (fun hq => ?_)))) (fun hc => ?_)
      · rw [if_pos (by rw [hk, decide_eq_true hc, decide_eq_true hq]; rfl)] at hn
        exact hn
      · rw [if_neg (by rw [hk, decide_eq_false hq, Bool.and_false]; decide)] at hn
        exact hn
      · rw [if_neg (by rw [hk, decide_eq_false hc, Bool.false_and]; decide)] at hn
        exact hn
  exact key l [] rfl

/-! ### laws_FnExactPoolDrop: walked in this session -/
theorem laws_markTxS.held {l : List S186} {n : Int} (hl : l.length ≤ 1048576) (h0 : 0 ≤ n) (h1 : n ≤ 1000000000) : ∃ l', Ev (fun k => laws_markTxS.f k l n) (n + 5 * (l.length : Int), l') ∧ l'.length = l.length ∧ Ev (fun k => laws_heldTxS.f k l' n) (n + 5 * (l.length : Int)) := by
  have mk : ∃ l', Ev (fun k => laws_markTxS.f k l n) (n + 5 * (l.length : Int), l') ∧ l'.length = l.length ∧ ∀ j : Nat, j < l.length → (l'.getD j z186).f0 = n + 5 * (j : Int) ∧ Ev (fun k => laws_markText.f k (n + 5 * (j : Int) + 1)) (l'.getD j z186).f1 ∧ Ev (fun k => laws_markText.f k (n + 5 * (j : Int) + 1 + 1)) (l'.getD j z186).f2 ∧ (l'.getD j z186).f3 = n + 5 * (j : Int) + 1 + 1 + 1 ∧ (l'.getD j z186).f4 = n + 5 * (j : Int) + 1 + 1 + 1 + 1 := by
    unfold laws_markTxS.f
    have key : ∀ (m i : Nat) (x : List S186), i + m = l.length → x.length = l.length → (∀ j : Nat, j < i → (x.getD j z186).f0 = n + 5 * (j : Int) ∧ Ev (fun k => laws_markText.f k (n + 5 * (j : Int) + 1)) (x.getD j z186).f1 ∧ Ev (fun k => laws_markText.f k (n + 5 * (j : Int) + 1 + 1)) (x.getD j z186).f2 ∧ (x.getD j z186).f3 = n + 5 * (j : Int) + 1 + 1 + 1 ∧ (x.getD j z186).f4 = n + 5 * (j : Int) + 1 + 1 + 1 + 1) → ∃ l', Ev (fun k => laws_markTxS.l0 k x (n + 5 * (i : Int)) (i : Int)) (n + 5 * (l.length : Int), l') ∧ l'.length = l.length ∧ ∀ j : Nat, j < l.length → (l'.getD j z186).f0 = n + 5 * (j : Int) ∧ Ev (fun k => laws_markText.f k (n + 5 * (j : Int) + 1)) (l'.getD j z186).f1 ∧ Ev (fun k => laws_markText.f k (n + 5 * (j : Int) + 1 + 1)) (l'.getD j z186).f2 ∧ (l'.getD j z186).f3 = n + 5 * (j : Int) + 1 + 1 + 1 ∧ (l'.getD j z186).f4 = n + 5 * (j : Int) + 1 + 1 + 1 + 1 := by
      intro m
      induction m with
      | zero =>
        intro i x hi hx hj
        obtain rfl : i = l.length := by omega
        refine ⟨x, Ev.up ?_, hx, hj⟩
        simp only [laws_markTxS.l0]
        exact Ev.no (by omega) (Ev.now _)
      | succ m ih =>
        intro i x hi hx hj
        obtain ⟨t1, ht1⟩ := laws_markText.ex (n := n + 5 * (i : Int) + 1) (by omega)
        obtain ⟨t2, ht2⟩ := laws_markText.ex (n := n + 5 * (i : Int) + 1 + 1) (by omega)
        have hix : i < x.length := by omega
        have hset : ∀ v, rd_T186 (x.set i v) (i : Int) = v := fun v => by
          show (x.set i v).getD i z186 = v
          rw [List.getD_eq_getElem?_getD, List.getElem?_set_self hix]
          rfl
        obtain ⟨l', e, r1, r2⟩ := ih (i + 1) (x.set i ⟨n + 5 * (i : Int), t1, t2, n + 5 * (i : Int) + 1 + 1 + 1, n + 5 * (i : Int) + 1 + 1 + 1 + 1⟩) (by omega) (by rw [List.length_set, hx]) (fun j hj' => by
          by_cases he : j = i
          · subst he
            rw [List.getD_eq_getElem?_getD, List.getElem?_set_self hix]
            exact ⟨rfl, ht1, ht2, rfl, rfl⟩
          · rw [List.getD_eq_getElem?_getD, List.getElem?_set_ne (by omega), ← List.getD_eq_getElem?_getD]
            exact hj j (by omega))
        refine ⟨l', Ev.up ?_, r1, r2⟩
        simp only [laws_markTxS.l0, Option.bind_some, Int.toNat_natCast, hset, List.set_set]
        rw [unw (x := (i : Int) + 1) (by omega) (by omega), unw (x := n + 5 * (i : Int) + 1) (by omega) (by omega), unw (x := n + 5 * (i : Int) + 1 + 1) (by omega) (by omega), unw (x := n + 5 * (i : Int) + 1 + 1 + 1) (by omega) (by omega), unw (x := n + 5 * (i : Int) + 1 + 1 + 1 + 1) (by omega) (by omega), unw (x := n + 5 * (i : Int) + 1 + 1 + 1 + 1 + 1) (by omega) (by omega)]
        refine Ev.yes (by omega) (Ev.yes (by omega) (Ev.bind ht1 (Ev.bind ht2 ?_)))
        rw [show n + 5 * (i : Int) + 1 + 1 + 1 + 1 + 1 = n + 5 * ((i + 1 : Nat) : Int) by omega]
        exact e
    have := key l.length 0 l (by omega) rfl (fun j hj => absurd hj (by omega))
    simpa using this
  obtain ⟨l', e, hlen, hf⟩ := mk
  refine ⟨l', e, hlen, ?_⟩
  unfold laws_heldTxS.f
  have key : ∀ (m i : Nat), i + m = l.length → Ev (fun k => laws_heldTxS.l0 k l' (n + 5 * (i : Int)) (i : Int)) (n + 5 * (l.length : Int)) := by
    intro m
    induction m with
    | zero =>
      intro i hi
      obtain rfl : i = l.length := by omega
      refine Ev.up ?_
      simp only [laws_heldTxS.l0]
      exact Ev.no (by omega) (Ev.now _)
    | succ m ih =>
      intro i hi
      have e := ih (i + 1) (by omega)
      have hv := hf i (by omega)
      have hrd : rd_T186 l' (i : Int) = l'.getD i z186 := rfl
      refine Ev.up ?_
      simp only [laws_heldTxS.l0, hrd]
      rw [unw (x := (i : Int) + 1) (by omega) (by omega), unw (x := n + 5 * (i : Int) + 1) (by omega) (by omega), unw (x := n + 5 * (i : Int) + 1 + 1) (by omega) (by omega), unw (x := n + 5 * (i : Int) + 1 + 1 + 1) (by omega) (by omega), unw (x := n + 5 * (i : Int) + 1 + 1 + 1 + 1) (by omega) (by omega), unw (x := n + 5 * (i : Int) + 1 + 1 + 1 + 1 + 1) (by omega) (by omega)]
      refine Ev.yes (by omega) (Ev.yes (by omega) (Ev.yes hv.1 (Ev.bind hv.2.1 (Ev.yes rfl (Ev.bind hv.2.2.1 (Ev.yes rfl (Ev.yes hv.2.2.2.1 (Ev.yes hv.2.2.2.2 ?_))))))))
      rw [show n + 5 * (i : Int) + 1 + 1 + 1 + 1 + 1 = n + 5 * ((i + 1 : Nat) : Int) by omega]
      exact e
  have := key l.length 0 (by omega)
  simpa using this
set_option maxHeartbeats 4000000 in
set_option maxRecDepth 100000 in
theorem laws_FnExactPoolDrop.does {w : World} (x0 : List S191) (hw : (fun l : List S191 => l.length ≤ maxLen ∧ ∀ x ∈ l, w191 x) x0) {B : Option Addr} {c : Nat} (hr : Kd.C k191 w B x0.length x0) (hc : x0.length ≤ c) (x1 : S69) (hw1 : w69 x1) {cs : List Value} (hK : k69.K w x1 cs) :
    Calls Try.prog 14 #[.slice B x0.length c, .agg cs.toArray] w fun e w' => e = .returned (.bool true) ∧ Below w.heap.size w w' := by
  have hm : maxLen = 9223372036854775807 := rfl
  have hK' := hK
  obtain ⟨A1, c1, rfl, l1, g1⟩ := k69_open hK
  have hk0 := sums_nn hold191.nn x0
  have hk1 := hold69.nn x1
  obtain ⟨left, hleft⟩ : ∃ l : Int, l = szR ((x0.length : Int) + sums hold191 x0) 1048576 := ⟨_, rfl⟩
  have D0 := Aside0.mk (fun e : On (w.alloc (.cells #[.int .i64 x1.f0, .slice A1 x1.f1.length c1] 69)) => laws_szTxS.does hw (left := 1048576) (by decide) (by decide) (On.row hr e.boxed) hc)
  have N0 := On.inBox (w := w) (cs := #[.int .i64 x1.f0, .slice A1 x1.f1.length c1]) (t := 69) (i := 0) (v := .int .i64 x1.f0) rfl
  have N1 := On.inBox (w := w) (cs := #[.int .i64 x1.f0, .slice A1 x1.f1.length c1]) (t := 69) (i := 1) (v := .slice A1 x1.f1.length c1) rfl
  simp only [On.boxed_now, ← hleft] at D0
  by_cases hd : left < 0
  · have hd' : decide (left < 0) = true := decide_eq_true hd
    clear hd hw hw1 hr hK' g1 l1 hleft hk0 hk1
    go_enter Try.func14, Try.ntmps14
    go_wp2_with fail
    refine BW.call (e := On.hereOf N0) (D0.out _) (fun e1 => ?_)
    go_wp2
    go_ret
    exact ⟨rfl, e1.boxed.ok⟩
  · have hd' : decide (left < 0) = false := decide_eq_false hd
    have hl0 : ((x0.length : Int) + sums hold191 x0) ≤ 1048576 := by have := mt (szR_lt (h := (x0.length : Int) + sums hold191 x0) (left := 1048576) (by omega)).2 (by rw [← hleft]; exact hd); omega
    have hl1 : left ≤ 1048576 := by rw [hleft]; exact szR_up (by omega) (by omega)
    have D1 := Aside0.mk (fun e : On (w.alloc (.cells #[.int .i64 x1.f0, .slice A1 x1.f1.length c1] 69)) => laws_szLedger.does hw1 (left := left) (by omega) hl1 (On.val hK' e.boxed))
    obtain ⟨more, hmore⟩ : ∃ l : Int, l = szR (hold69 x1) left := ⟨_, rfl⟩
    simp only [On.boxed_now, ← hmore] at D1
    by_cases hn : more < 0
    · have hn' : decide (more < 0) = true := decide_eq_true hn
      clear hd hn hw hw1 hr hK' g1 l1 hleft hmore hk0 hk1 hl0 hl1
      go_enter Try.func14, Try.ntmps14
      go_wp2_with fail
      refine BW.call (e := On.hereOf N0) (D0.out _) (fun e1 => ?_)
      go_wp2_with fail
      refine BW.call (D1.out _) (fun e2 => ?_)
      go_wp2
      go_ret
      exact ⟨rfl, e2.boxed.ok⟩
    · have hn' : decide (more < 0) = false := decide_eq_false hn
      have hs : s69 x1 := small69 (by have := mt (szR_lt (h := hold69 x1) (left := left) (by omega)).2 (by rw [← hmore]; exact hn); omega)
      have hlong := long69 hs
      have hs0 : x0.length ≤ 1048576 := by omega
      have hz1 : (x0.map c191).length ≤ 1048576 := by rw [List.length_map]; exact hs0
      have hz2 : (c69 x1).f1.length ≤ 1048576 := by show (x1.f1.map c208).length ≤ _; rw [List.length_map]; exact hs.1
      have hy2 : ∀ y ∈ (c69 x1).f1, y.f4.length ≤ 1048576 := fun y hy => by
        obtain ⟨z, hz, rfl⟩ := List.mem_map.1 hy
        show (z.f4.map c241).length ≤ _
        rw [List.length_map]
        exact hs.2 z hz
      obtain ⟨kt, ht⟩ := (laws_toLedger.is hs).rounds
      have T0 := Aside0.mk (fun e : On (w.alloc (.cells #[.int .i64 x1.f0, .slice A1 x1.f1.length c1] 69)) => laws_toLedger.calls kt x1.f0 A1 c1 x1.f1 (c69 x1).f0 (c69 x1).f1 e.now (On.row g1 e.boxed) l1 ht)
      have T1 := Aside0.mk (fun e : On (w.alloc (.cells #[.int .i64 x1.f0, .slice A1 x1.f1.length c1] 69)) => laws_toLedger.does hs (On.val hK' e.boxed))
      obtain ⟨kx, hx⟩ := (laws_toTxS.is hs0).rounds
      have X0 := Aside0.mk (fun e : On (w.alloc (.cells #[.int .i64 x1.f0, .slice A1 x1.f1.length c1] 69)) => laws_toTxS.calls kx B c x0 (x0.map c191) e.now (On.row hr e.boxed) hc hx)
      obtain ⟨ks, hsp⟩ := (spec_PoolDrop.is (l := x0.map c191) (e := (c69 x1).f0) hz1 hz2).rounds
      have SP := Aside0.mk (fun (W : World) A d A' d' (h1 : (x0.map c191).length ≤ d) (hr : Kd.C k186 W A (x0.map c191).length (x0.map c191)) (h2 : (c69 x1).f1.length ≤ d') (hr2 : Kd.C k43 W A' (c69 x1).f1.length (c69 x1).f1) => spec_PoolDrop.calls ks A d _ (c69 x1).f0 A' d' _ _ W hr h1 hr2 h2 hsp)
      obtain ⟨ki, him⟩ := (impl_PoolDrop.is (l := x0.map c191) (e := (c69 x1).f0) hz1 hz2).rounds
      have IM := Aside0.mk (fun (W : World) A d A' d' (h1 : (x0.map c191).length ≤ d) (hr : Kd.C k186 W A (x0.map c191).length (x0.map c191)) (h2 : (c69 x1).f1.length ≤ d') (hr2 : Kd.C k43 W A' (c69 x1).f1.length (c69 x1).f1) => impl_PoolDrop.calls ki A d _ (c69 x1).f0 A' d' _ _ W hr h1 hr2 h2 him)
      have hV := poolDrop_le (x0.map c191) (c69 x1).f1
      have EL := Aside0.mk (fun (W : World) ds ds' (hK : k37.K W (c69 x1) ds) (hL : k37.K W (c69 x1) ds') => laws_eqLedger.same hlong hK hL)
      have MK := Aside0.mk (fun (a W : World) ok v (hR : k43.R 43 W a.heap.size ok v (c69 x1).f1) (hb : Below a.heap.size a W) => laws_markLedger.keeps (n0 := (c69 x1).f0) hR hb hz2 hy2 (x := 1 + 5 * ((x0.map c191).length : Int)) (by omega) (by omega))
      have KM := Aside0.mk (fun (W : World) A d (h1 : (c69 x1).f1.length ≤ d) (hr : Kd.C k43 W A (c69 x1).f1.length (c69 x1).f1) => k37_mk W (c69 x1) h1 hr)
      clear hd hn hw hw1 hr hK' g1 l1 hleft hmore hk0 hk1 hs hlong hy2 ht hx hsp him hl0 hl1 hs0 hz2
      generalize hMY : 1 + 5 * ((x0.map c191).length : Int) = MY at *
      generalize poolDrop (x0.map c191) (c69 x1).f1 = V at *
      generalize x0.map c191 = Y at *
      generalize c69 x1 = X at *
      obtain ⟨Y', hmy, hY', _⟩ := laws_markTxS.held (l := Y) (n := 1) hz1 (by decide) (by decide)
      obtain ⟨V', hmv, hV', hhv⟩ := laws_markTxS.held (l := V) (n := 1) (by omega) (by decide) (by decide)
      obtain ⟨ky, hmy⟩ := hmy.rounds
      obtain ⟨km, hmv⟩ := hmv.rounds
      obtain ⟨kh, hhv⟩ := hhv.rounds
      rw [hMY] at hmy
      have EQ := Aside0.mk (fun (W : World) A d A' d' (h1 : V.length ≤ d) (h2 : V.length ≤ d') (hr : Kd.C k186 W A V.length V) (hr' : Kd.C k186 W A' V.length V) => laws_eqTxS.same (show V.length ≤ 9223372036854775807 by omega) hr h1 hr' h2)
      have EY := Aside0.mk (fun (W : World) A d A' d' (h1 : Y.length ≤ d) (h2 : Y.length ≤ d') (hr : Kd.C k186 W A Y.length Y) (hr' : Kd.C k186 W A' Y.length Y) => laws_eqTxS.same (show Y.length ≤ 9223372036854775807 by omega) hr h1 hr' h2)
      have MY0 := Aside0.mk (fun (P : Nat → Prop) (v : Value) (W0 W : World) (hB : Below W0.heap.size W0 W) (ho : Kd.R k186 186 W W0.heap.size P v Y) => laws_markTxS.calls ky P v _ 1 _ Y' W0 W hB ho hmy)
      have MV := Aside0.mk (fun (P : Nat → Prop) (v : Value) (W0 W : World) (hB : Below W0.heap.size W0 W) (ho : Kd.R k186 186 W W0.heap.size P v V) => laws_markTxS.calls km P v _ 1 _ V' W0 W hB ho hmv)
      have HV := Aside0.mk (fun (W : World) A d (h1 : V'.length ≤ d) (hr : Kd.C k186 W A V'.length V') => laws_heldTxS.calls kh A d V' 1 _ W hr h1 hhv)
      clear hmy hmv hhv hY' hMY
      generalize hM : 1 + 5 * (V.length : Int) = M at *
      have hM0 : decide (M < 0) = false := decide_eq_false (by omega)
      clear hM hV hz1 hm
      go_enter Try.func14, Try.ntmps14
      go_wp2_with fail
      refine BW.call (e := On.hereOf N0) (D0.out _) (fun e1 => ?_)
      go_wp2_with fail
      refine BW.call (D1.out _) (fun e2 => ?_)
      go_wp2_with fail
      have HV1 : BW.Lasts (VL [IsV (.slice B x0.length c), RowV k186 Y, IsV (.agg #[.int .i64 x1.f0, .slice A1 x1.f1.length c1]), AggV k37 X, RowV k186 V, RowV k186 V]) := lasts_cons (last_is _) (lasts_cons (last_row _ _) (lasts_cons (last_is _) (lasts_cons (last_agg _ _) (lasts_cons (last_row _ _) (lasts_cons (last_row _ _) lasts_nil)))))
      refine BW.loose (n := 6) (by kernel_rfl) rfl (VL [IsV (.slice B x0.length c), RowV k186 Y, IsV (.agg #[.int .i64 x1.f0, .slice A1 x1.f1.length c1]), AggV k37 X, RowV k186 V, RowV k186 V]) HV1 [(0, 24), (1, 25), (2, 26), (3, 27), (4, 28), (5, 6)] (by kernel_rfl) (by kernel_rfl) (by kernel_rfl) (by rfl) ?_ ?_
      · show ∀ i ∈ [0, 1, 2, 3, 4, 5], _
        refine steps_cons ?_ (steps_cons ?_ (steps_cons ?_ (steps_cons ?_ (steps_cons ?_ (steps_cons ?_ steps_nil)))))
        · refine BW.loose_run HV1 (k := 0) rfl rfl rfl rfl rfl (fun b e vs hdep hv => ⟨_, rfl, ?_⟩)
          exact eval_off (by kernel_rfl)
        · refine BW.loose_call HV1 (k := 1) rfl rfl rfl rfl rfl rfl rfl rfl rfl (fun b e vs hdep hv => ?_)
          have h0 : vs 0 = _ := hv 0 (hdep 0 (by kernel_rfl))
          simp only [List.map_toArray, List.map_cons, List.map_nil]
          rw [eval_on (k := 0) (j := 0) rfl (by kernel_rfl) (hdep 0 (by kernel_rfl)) (by kernel_rfl), h0]
          exact (X0.out (e2.thens e)).mono fun r W ⟨v, hr, hR, hb⟩ => ⟨v, hr, Kd.R_reads hR, hb⟩
        · exact BW.loose_row HV1 (k := 2) rfl rfl rfl rfl rfl 69 rfl (by kernel_rfl) rfl e2.blk rfl rfl rfl (fun e => rfl)
        · refine BW.loose_call HV1 (k := 3) rfl rfl rfl rfl rfl rfl rfl rfl rfl (fun b e vs hdep hv => ?_)
          have h0 : vs 2 = _ := hv 2 (hdep 2 (by kernel_rfl))
          simp only [List.map_toArray, List.map_cons, List.map_nil]
          rw [eval_on (k := 2) (j := 2) rfl (by kernel_rfl) (hdep 2 (by kernel_rfl)) (by kernel_rfl), h0]
          exact (T1.out (e2.thens e)).mono fun r W ⟨ds, hr, hR, hb⟩ => ⟨_, hr, ⟨ds, rfl, hR⟩, hb⟩
        · refine BW.loose_call HV1 (k := 4) rfl rfl rfl rfl rfl rfl rfl rfl rfl (fun b e vs hdep hv => ?_)
          obtain ⟨A8, c8, h1, l8, g8⟩ : RowV _ _ _ _ := hv 1 (hdep 1 (by kernel_rfl))
          obtain ⟨ds, h3, hk3⟩ : AggV _ _ _ _ := hv 3 (hdep 3 (by kernel_rfl))
          obtain ⟨A9, c9, rfl, l9, g9⟩ := k37_open hk3
          simp only [List.map_toArray, List.map_cons, List.map_nil]
          rw [eval_on (k := 1) (j := 1) rfl (by kernel_rfl) (hdep 1 (by kernel_rfl)) (by kernel_rfl), h1, eval_on (k := 3) (j := 3) rfl (by kernel_rfl) (hdep 3 (by kernel_rfl)) (by kernel_rfl), h3]
          exact (SP.out _ _ _ _ _ l8 g8 l9 g9).mono fun r W ⟨v, hr, hR, hb⟩ => ⟨v, hr, Kd.R_reads hR, hb⟩
        · refine BW.loose_run HV1 (k := 5) rfl rfl rfl rfl rfl (fun b e vs hdep hv => ⟨_, rfl, ?_⟩)
          show RowV k186 V _ _
          rw [eval_on (k := 4) (j := 4) rfl (by kernel_rfl) (hdep 4 (by kernel_rfl)) (by kernel_rfl)]
          exact hv 4 (hdep 4 (by kernel_rfl))
      · intro e vs hv
        have h0 : vs 0 = _ := hv 0 (by decide)
        have h2 : vs 2 = _ := hv 2 (by decide)
        obtain ⟨A2, c2, h5, l2, g2⟩ : RowV _ _ _ _ := hv 5 (by decide)
        simp only [fillL, List.map_cons, List.map_nil, putSel, if_true, Act.put, List.setIfInBounds_toArray, List.set_cons_zero, List.set_cons_succ]
        rw [h0, h2, h5]
        obtain ⟨eb, heb⟩ : ∃ eb : On (w.alloc (.cells #[.int .i64 x1.f0, .slice A1 x1.f1.length c1] 69)), e.now = eb.now := ⟨e2.thens e, rfl⟩
        rw [heb] at g2 ⊢
        generalize vs 1 = va
        generalize vs 3 = vb
        generalize vs 4 = vd
        clear heb hv h0 h2 h5 e vs HV1 e1 e2 SP
        have B0 : ∀ e : On eb.now, e.now.cell? ⟨w.heap.size, 0, none⟩ = some (.int .i64 x1.f0) := fun e => N0 (eb.thens e)
        have B1 : ∀ e : On eb.now, e.now.cell? ⟨w.heap.size, 1, none⟩ = some (.slice A1 x1.f1.length c1) := fun e => N1 (eb.thens e)
        clear N0 N1
        go_wp2_with fail
        refine (X0.out eb).mono ?_
        rintro _ Wc ⟨v3, rfl, hR3, hb3⟩
        obtain ⟨A3, c3, rfl, l3, g3⟩ := Kd.R_reads hR3
        have HR3 := Aside0.mk (Kd.R_mono (Kd.R_bound hR3) (fun k hk => (⟨hk.2.1, hk.2.2.1⟩ : eb.now.heap.size ≤ k ∧ k < Wc.heap.size)))
        obtain ⟨ec, rfl⟩ := (On.here eb.now).next hb3
        clear hR3 hb3
        go_wp2_with fail
        refine (T0.out (eb.thens ec)).mono ?_
        rintro _ Wd ⟨v5, rfl, hS5, hb5⟩
        obtain ⟨A5, c5, rfl, l5, g5⟩ := Kd.S_reads hS5
        have HR5 := Aside0.mk (Kd.R_mono (Kd.R_bound (Kd.S_R hS5)) (fun k hk => (⟨hk.2.1, hk.2.2.1⟩ : ec.now.heap.size ≤ k ∧ k < Wd.heap.size)))
        have HB5 := Aside0.mk hb5
        obtain ⟨ed, rfl⟩ := ec.next hb5
        clear hS5 hb5
        go_wp2_with fail
        have Q0 := On.inBox (w := ed.now) (cs := #[.int .i64 X.f0, .slice A5 X.f1.length c5]) (t := 37) (i := 0) (v := .int .i64 X.f0) rfl
        have Q1 := On.inBox (w := ed.now) (cs := #[.int .i64 X.f0, .slice A5 X.f1.length c5]) (t := 37) (i := 1) (v := .slice A5 X.f1.length c5) rfl
        refine (IM.out (ed.now.alloc (.cells #[.int .i64 X.f0, .slice A5 X.f1.length c5] 37)) _ _ _ _ l3 (Kd.C_alloc (Kd.C_below g3 HB5.out) _) l5 (Kd.C_alloc g5 _)).mono ?_
        rintro _ We ⟨v4, rfl, hR4, hb4⟩
        obtain ⟨A4, c4, rfl, l4, g4⟩ := Kd.R_reads hR4
        obtain ⟨e4, rfl⟩ := (On.here (ed.now.alloc (.cells #[.int .i64 X.f0, .slice A5 X.f1.length c5] 37))).next hb4
        have HR4 := Aside0.mk (Kd.R_mono (Kd.R_bound hR4) (fun k hk => (hk.2.1 : (ed.now.alloc (.cells #[.int .i64 X.f0, .slice A5 X.f1.length c5] 37)).heap.size ≤ k)))
        clear hb4 hR4
        have hsz2 : (ed.now.alloc (.cells #[.int .i64 X.f0, .slice A5 X.f1.length c5] 37)).heap.size = ed.now.heap.size + 1 := Array.size_push ..
        have hsz1 : ec.now.heap.size ≤ ed.now.heap.size := HB5.out.size
        have hsz0 : eb.now.heap.size ≤ ec.now.heap.size := ec.ok.size
        have UP := Aside0.mk (fun e : On (ed.now.alloc (.cells #[.int .i64 X.f0, .slice A5 X.f1.length c5] 37)) => (ed.up e).ok)
        have C0 : ∀ e : On e4.now, e.now.cell? ⟨ed.now.heap.size, 0, none⟩ = some (.int .i64 X.f0) := fun e => Q0 (e4.thens e)
        have C1 : ∀ e : On e4.now, e.now.cell? ⟨ed.now.heap.size, 1, none⟩ = some (.slice A5 X.f1.length c5) := fun e => Q1 (e4.thens e)
        have E0 : ∀ e : On e4.now, e.now.cell? ⟨w.heap.size, 0, none⟩ = some (.int .i64 x1.f0) := fun e => B0 (ed.up (e4.thens e))
        have E1 : ∀ e : On e4.now, e.now.cell? ⟨w.heap.size, 1, none⟩ = some (.slice A1 x1.f1.length c1) := fun e => B1 (ed.up (e4.thens e))
        clear Q0 Q1
        go_wp2_with fail
        refine BW.call (e := On.here e4.now) (EQ.out _ _ _ _ _ l4 l2 g4 (Kd.C_below g2 (UP.out e4))) (fun e5 => ?_)
        clear g4
        go_wp2_with fail
        refine (X0.out (eb.thens (ed.up (e4.thens e5)))).mono ?_
        rintro _ W6 ⟨v6, rfl, hR6, hb6⟩
        obtain ⟨A6, c6, rfl, l6, g6⟩ := Kd.R_reads hR6
        obtain ⟨e6, rfl⟩ := e5.next hb6
        clear hR6 hb6
        go_wp2_with fail
        refine BW.call (e := e6) (EY.out _ _ _ _ _ l3 l6 (Kd.C_below (Kd.C_below g3 HB5.out) (show Below ed.now.heap.size ed.now e6.now from below_then (below_alloc (Below.refl _ _) _) (by omega) (e4.thens e6).ok)) g6) (fun e7 => ?_)
        clear g6 EY
        go_wp2_with fail
        have HV2 : BW.Lasts (VL [IsV (.agg #[.int .i64 X.f0, .slice A5 X.f1.length c5]), IsV (.agg #[.int .i64 x1.f0, .slice A1 x1.f1.length c1]), AggV k37 X, IsV (.bool true), IsV (.bool false)]) := lasts_cons (last_is _) (lasts_cons (last_is _) (lasts_cons (last_agg _ _) (lasts_cons (last_is _) (lasts_cons (last_is _) lasts_nil))))
        refine BW.loose (n := 5) (by kernel_rfl) rfl (VL [IsV (.agg #[.int .i64 X.f0, .slice A5 X.f1.length c5]), IsV (.agg #[.int .i64 x1.f0, .slice A1 x1.f1.length c1]), AggV k37 X, IsV (.bool true), IsV (.bool false)]) HV2 [(0, 45), (1, 46), (2, 47), (3, 48), (4, 49)] (by kernel_rfl) (by kernel_rfl) (by kernel_rfl) (by rfl) ?_ ?_
        · show ∀ i ∈ [0, 1, 2, 3, 4], _
          refine steps_cons ?_ (steps_cons ?_ (steps_cons ?_ (steps_cons ?_ (steps_cons ?_ steps_nil))))
          · exact BW.loose_row HV2 (k := 0) rfl rfl rfl rfl rfl 37 rfl (by kernel_rfl) rfl (e4.thens e7).blk rfl rfl rfl (fun e => rfl)
          · exact BW.loose_row HV2 (k := 1) rfl rfl rfl rfl rfl 69 rfl (by kernel_rfl) rfl (eb.thens (ed.up (e4.thens e7))).blk rfl rfl rfl (fun e => rfl)
          · refine BW.loose_call HV2 (k := 2) rfl rfl rfl rfl rfl rfl rfl rfl rfl (fun b e vs hdep hv => ?_)
            have h0 : vs 1 = _ := hv 1 (hdep 1 (by kernel_rfl))
            simp only [List.map_toArray, List.map_cons, List.map_nil]
            rw [eval_on (k := 1) (j := 1) rfl (by kernel_rfl) (hdep 1 (by kernel_rfl)) (by kernel_rfl), h0]
            exact (T1.out (eb.thens (ed.up (e4.thens (e7.thens e))))).mono fun r W ⟨ds, hr, hR, hb⟩ => ⟨_, hr, ⟨ds, rfl, hR⟩, hb⟩
          · refine BW.loose_call HV2 (k := 3) rfl rfl rfl rfl rfl rfl rfl rfl rfl (fun b e vs hdep hv => ?_)
            have h0 : vs 0 = _ := hv 0 (hdep 0 (by kernel_rfl))
            obtain ⟨ds, h2, hk2⟩ : AggV _ _ _ _ := hv 2 (hdep 2 (by kernel_rfl))
            simp only [List.map_toArray, List.map_cons, List.map_nil]
            rw [eval_on (k := 0) (j := 0) rfl (by kernel_rfl) (hdep 0 (by kernel_rfl)) (by kernel_rfl), h0, eval_on (k := 2) (j := 2) rfl (by kernel_rfl) (hdep 2 (by kernel_rfl)) (by kernel_rfl), h2]
            exact (EL.out _ _ _ (KM.out _ _ _ l5 (On.row (Kd.C_alloc g5 _) (e4.thens (e7.thens e)))) hk2).mono fun r W ⟨hr, hb⟩ => ⟨_, hr, rfl, hb⟩
          · exact BW.loose_not HV2 (k := 4) rfl rfl rfl rfl rfl rfl (m := 3) (j := 3) rfl (by kernel_rfl) (by kernel_rfl) (by kernel_rfl) (c := true) (fun W v h => h) (fun W => rfl)
        · intro e vs hv
          have h0 : vs 0 = _ := hv 0 (by decide)
          have h1 : vs 1 = _ := hv 1 (by decide)
          have h3 : vs 3 = _ := hv 3 (by decide)
          have h4 : vs 4 = _ := hv 4 (by decide)
          simp only [fillL, List.map_cons, List.map_nil, putSel, if_true, Act.put, List.setIfInBounds_toArray, List.set_cons_zero, List.set_cons_succ]
          rw [h0, h1, h3, h4]
          generalize vs 2 = ve
          clear hv h0 h1 h3 h4 EL KM HV2
          obtain ⟨e8, he8⟩ : ∃ e8 : On e4.now, e.now = e8.now := ⟨e7.thens e, rfl⟩
          rw [he8]
          clear he8 e e7 vs
          go_wp2_with fail
          refine (MY0.out (fun k => eb.now.heap.size ≤ k ∧ k < ec.now.heap.size) (.slice A3 Y.length c3) eb.now e8.now (UP.out (e4.thens e8)) (Kd.R_below HR3.out (below_then (below_alloc HB5.out _) (by omega) (e4.thens e8).ok))).mono ?_
          rintro _ Wf ⟨rfl, _, hbf, hkf⟩
          have R5 := Aside0.mk (Kd.R_kept (Kd.R_below (Kd.R_alloc HR5.out _) (e4.thens e8).ok) hkf (fun k hk hS => by have h5 : k < ec.now.heap.size := hS.2; have h6 : ec.now.heap.size ≤ k := hk.1; omega))
          have R4 := Aside0.mk (Kd.R_kept (Kd.R_below HR4.out e8.ok) hkf (fun k hk hS => by have h5 : k < ec.now.heap.size := hS.2; have h6 : (ed.now.alloc (.cells #[.int .i64 X.f0, .slice A5 X.f1.length c5] 37)).heap.size ≤ k := hk; omega))
          have hbx := blk_kept (e4.thens e8).blk hkf (fun hS => by have h5 : ed.now.heap.size < ec.now.heap.size := hS.2; omega)
          obtain ⟨ef, rfl⟩ := eb.next hbf
          have G0 : ∀ e : On ef.now, e.now.cell? ⟨ed.now.heap.size, 0, none⟩ = some (.int .i64 X.f0) := On.cell ((blk_cell hbx 0).trans rfl)
          have G1 : ∀ e : On ef.now, e.now.cell? ⟨ed.now.heap.size, 1, none⟩ = some (.slice A5 X.f1.length c5) := On.cell ((blk_cell hbx 1).trans rfl)
          have G00 := G0 (On.here ef.now)
          have G11 := G1 (On.here ef.now)
          simp only [On.here_now] at G00 G11
          have HBF := Aside0.mk hbf
          clear hkf hbx HR3 HR5 HR4 MY0 C0 C1 E0 E1 hbf G0 G1
          go_wp2_with fail
          refine (MK.out eb.now ef.now (fun k => ec.now.heap.size ≤ k ∧ k < ed.now.heap.size) (.slice A5 X.f1.length c5) (Kd.R_lower R5.out hsz0) HBF.out).mono ?_
          rintro _ Wg ⟨m, rfl, hm0, hbg, hkg⟩
          have hm1 : decide (m < 0) = false := decide_eq_false (by omega)
          replace R4 := Aside0.mk (Kd.R_kept R4.out hkg (fun k hk hS => by have h5 : k < ed.now.heap.size := hS.2; have h6 : (ed.now.alloc (.cells #[.int .i64 X.f0, .slice A5 X.f1.length c5] 37)).heap.size ≤ k := hk; omega))
          obtain ⟨eg, rfl⟩ := eb.next hbg
          have HBG := Aside0.mk hbg
          clear hbg hkg MK R5 hm0 G00 G11 HBF
          go_wp2_with fail
          refine BW.call (e := On.here eg.now) (EQ.out _ _ _ _ _ l4 l2 (Kd.R_reads' R4.out).2.2 (Kd.C_below g2 HBG.out)) (fun e9 => ?_)
          go_wp2_with fail
          refine (MV.out (fun k => ed.now.heap.size + 1 ≤ k) (.slice A4 V.length c4) eb.now e9.now (below_then HBG.out HBG.out.size e9.ok) (Kd.R_mono (Kd.R_lower (Kd.R_below R4.out e9.ok) (by omega)) (fun k hk => by have h6 : (ed.now.alloc (.cells #[.int .i64 X.f0, .slice A5 X.f1.length c5] 37)).heap.size ≤ k := hk; omega))).mono ?_
          rintro _ Wj ⟨rfl, hR4j, hbj, hkj⟩
          obtain ⟨ej, rfl⟩ := eb.next hbj
          have g2j := Kd.C_below g2 hbj
          have hR4' := Kd.R_reads' hR4j
          have HV4 := Aside0.mk (fun e : On ej.now => HV.out e.now A4 c4 (by rw [hV']; exact l4) (On.row hR4'.2.2 e))
          rw [hV'] at HV4
          have F0 : ∀ e : On ej.now, e.now.cell? ⟨w.heap.size, 0, none⟩ = some (.int .i64 x1.f0) := fun e => by
            obtain ⟨e', h'⟩ : ∃ e' : On eb.now, e.now = e'.now := ⟨⟨e.now, below_then hbj hbj.size e.ok⟩, rfl⟩
            rw [h']
            exact B0 e'
          have F1 : ∀ e : On ej.now, e.now.cell? ⟨w.heap.size, 1, none⟩ = some (.slice A1 x1.f1.length c1) := fun e => by
            obtain ⟨e', h'⟩ : ∃ e' : On eb.now, e.now = e'.now := ⟨⟨e.now, below_then hbj hbj.size e.ok⟩, rfl⟩
            rw [h']
            exact B1 e'
          clear hR4j hbj hkj R4 MV HV hR4' B0 B1
          have hMM : (M != M) = false := by simp
          go_wp2_with fail
          refine BW.call (e := On.here ej.now) (HV4.out _) (fun e10 => ?_)
          go_wp2_with fail
          have HV1 : BW.Lasts (VL [IsV (.slice B x0.length c), RowV k186 Y, IsV (.agg #[.int .i64 x1.f0, .slice A1 x1.f1.length c1]), AggV k37 X, RowV k186 V, RowV k186 V]) := lasts_cons (last_is _) (lasts_cons (last_row _ _) (lasts_cons (last_is _) (lasts_cons (last_agg _ _) (lasts_cons (last_row _ _) (lasts_cons (last_row _ _) lasts_nil)))))
          refine BW.loose (n := 6) (by kernel_rfl) rfl (VL [IsV (.slice B x0.length c), RowV k186 Y, IsV (.agg #[.int .i64 x1.f0, .slice A1 x1.f1.length c1]), AggV k37 X, RowV k186 V, RowV k186 V]) HV1 [(0, 75), (1, 76), (2, 77), (3, 78), (4, 79), (5, 13)] (by kernel_rfl) (by kernel_rfl) (by kernel_rfl) (by rfl) ?_ ?_
          · show ∀ i ∈ [0, 1, 2, 3, 4, 5], _
            refine steps_cons ?_ (steps_cons ?_ (steps_cons ?_ (steps_cons ?_ (steps_cons ?_ (steps_cons ?_ steps_nil)))))
            · refine BW.loose_run HV1 (k := 0) rfl rfl rfl rfl rfl (fun b e vs hdep hv => ⟨_, rfl, ?_⟩)
              exact eval_off (by kernel_rfl)
            · refine BW.loose_call HV1 (k := 1) rfl rfl rfl rfl rfl rfl rfl rfl rfl (fun b e vs hdep hv => ?_)
              have h0 : vs 0 = _ := hv 0 (hdep 0 (by kernel_rfl))
              simp only [List.map_toArray, List.map_cons, List.map_nil]
              rw [eval_on (k := 0) (j := 0) rfl (by kernel_rfl) (hdep 0 (by kernel_rfl)) (by kernel_rfl), h0]
              exact (X0.out (ej.thens (e10.thens e))).mono fun r W ⟨v, hr, hR, hb⟩ => ⟨v, hr, Kd.R_reads hR, hb⟩
            · exact BW.loose_row HV1 (k := 2) rfl rfl rfl rfl rfl 69 rfl (by kernel_rfl) rfl (ej.thens e10).blk rfl rfl rfl (fun e => rfl)
            · refine BW.loose_call HV1 (k := 3) rfl rfl rfl rfl rfl rfl rfl rfl rfl (fun b e vs hdep hv => ?_)
              have h0 : vs 2 = _ := hv 2 (hdep 2 (by kernel_rfl))
              simp only [List.map_toArray, List.map_cons, List.map_nil]
              rw [eval_on (k := 2) (j := 2) rfl (by kernel_rfl) (hdep 2 (by kernel_rfl)) (by kernel_rfl), h0]
              exact (T1.out (ej.thens (e10.thens e))).mono fun r W ⟨ds, hr, hR, hb⟩ => ⟨_, hr, ⟨ds, rfl, hR⟩, hb⟩
            · refine BW.loose_call HV1 (k := 4) rfl rfl rfl rfl rfl rfl rfl rfl rfl (fun b e vs hdep hv => ?_)
              obtain ⟨A8, c8, h1, l8, g8⟩ : RowV _ _ _ _ := hv 1 (hdep 1 (by kernel_rfl))
              obtain ⟨ds, h3, hk3⟩ : AggV _ _ _ _ := hv 3 (hdep 3 (by kernel_rfl))
              obtain ⟨A9, c9, rfl, l9, g9⟩ := k37_open hk3
              simp only [List.map_toArray, List.map_cons, List.map_nil]
              rw [eval_on (k := 1) (j := 1) rfl (by kernel_rfl) (hdep 1 (by kernel_rfl)) (by kernel_rfl), h1, eval_on (k := 3) (j := 3) rfl (by kernel_rfl) (hdep 3 (by kernel_rfl)) (by kernel_rfl), h3]
              exact (IM.out _ _ _ _ _ l8 g8 l9 g9).mono fun r W ⟨v, hr, hR, hb⟩ => ⟨v, hr, Kd.R_reads hR, hb⟩
            · refine BW.loose_run HV1 (k := 5) rfl rfl rfl rfl rfl (fun b e vs hdep hv => ⟨_, rfl, ?_⟩)
              show RowV k186 V _ _
              rw [eval_on (k := 4) (j := 4) rfl (by kernel_rfl) (hdep 4 (by kernel_rfl)) (by kernel_rfl)]
              exact hv 4 (hdep 4 (by kernel_rfl))
          · intro e vs hv
            have h0 : vs 0 = _ := hv 0 (by decide)
            have h2 : vs 2 = _ := hv 2 (by decide)
            obtain ⟨A7, c7, h5, l7, g7⟩ : RowV _ _ _ _ := hv 5 (by decide)
            simp only [fillL, List.map_cons, List.map_nil, putSel, if_true, Act.put, List.setIfInBounds_toArray, List.set_cons_zero, List.set_cons_succ]
            rw [h0, h2, h5]
            obtain ⟨e11, he11⟩ : ∃ e11 : On ej.now, e.now = e11.now := ⟨e10.thens e, rfl⟩
            rw [he11] at g7 ⊢
            generalize vs 1 = vf
            generalize vs 3 = vg
            generalize vs 4 = vh
            clear he11 hv h0 h2 h5 e vs HV1
            go_wp2_with fail
            refine BW.call (e := e11) (EQ.out _ _ _ _ _ l7 l2 g7 (On.row g2j e11)) (fun e12 => ?_)
            go_wp2_with fail
            refine BW.call (e := e12) (HV4.out _) (fun e13 => ?_)
            go_wp2
            go_ret
            exact ⟨rfl, (ej.thens e13).boxed.ok⟩

end Go.Proofs.Ytadkhkpchankjaa.F
