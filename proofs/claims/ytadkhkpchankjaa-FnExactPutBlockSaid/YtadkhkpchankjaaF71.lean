/-
Functions of the program, what they come to, and that Go comes to just that: impl_putNames, impl_putTx, impl_putBlock.
Conditions: those that each theorem names.
-/
import Derived.Test.YtadkhkpchankjaaFAbs
import Derived.Test.YtadkhkpchankjaaF70
import Derived.Test.YtadkhkpchankjaaWApart
import Derived.Test.YtadkhkpchankjaaWFoot
import Derived.Test.YtadkhkpchankjaaWKept
import Derived.Test.YtadkhkpchankjaaWMore
set_option linter.unusedVariables false
set_option linter.unusedSimpArgs false
namespace Go.Proofs.Ytadkhkpchankjaa.F
open Go.RowKit Go.Proofs.YtadkhkpchankjaaW.PrintWords Go.Proofs.YtadkhkpchankjaaW.PrintLast Go.Proofs.Ytadkhkpchankjaa.Base Go.Proofs.Ytadkhkpchankjaa.BW
open Go.Proofs.YtadkhkpchankjaaW.PrintMore
attribute [local go_sem] max2_int min2_int max_two min_two max_three min_three max_four min_four   -- for this text's walks alone

/-! ### impl_putNames: function 204 -/
def impl_putNames.l0 : Nat → List Int → List ByteArray → Int → Int → Option (List Int)
  | 0, _, _, _, _ => none
  | k + 1, x0, x11, x12, x13 => if x13 < x12 then (if 0 ≤ x13 then (if x13 < (x11.length : Int) then ((impl_putText.f k x0 (rdOf ByteArray.empty x11 x13)).bind fun t1645 => (impl_putNames.l0 k t1645 x11 x12 (wrap64 (x13 + 1)))) else (none)) else (none)) else (some x0)
def impl_putNames.f (k : Nat) (l0 : List Int) (l1 : List ByteArray) : Option (List Int) := (impl_putNum.f k l0 (l1.length : Int)).bind fun t1641 => (impl_putNames.l0 k t1641 l1 (l1.length : Int) 0)
theorem impl_putNames.mono_l : ∀ k, (∀ y0 y1 y2 y3, LeO (impl_putNames.l0 k y0 y1 y2 y3) (impl_putNames.l0 (k + 1) y0 y1 y2 y3))
  | 0 => fun _ _ _ _ r h => by simp [impl_putNames.l0] at h
  | k + 1 => by
    have ih0 := impl_putNames.mono_l k
    · intro y0 y1 y2 y3
      unfold impl_putNames.l0
      repeat' first
      | (with_reducible exact ih0 _ _ _ _)
      | (with_reducible exact impl_putNum.mono _ _ _)
      | (with_reducible exact impl_putText.mono _ _ _)
      | (with_reducible exact LeO.refl _)
      | (with_reducible exact LeO.none _)
      | (with_reducible refine LeO.ite ?_ ?_)
      | (with_reducible refine LeO.bind ?_ (fun _ => ?_))
      | exact ih0 _ _ _ _
      | exact impl_putNum.mono _ _ _
      | exact impl_putText.mono _ _ _
      | exact LeO.none _
      | refine LeO.ite ?_ ?_
      | refine LeO.bind ?_ (fun _ => ?_)
theorem impl_putNames.mono : ∀ a0 a1 k, LeO (impl_putNames.f k a0 a1) (impl_putNames.f (k + 1) a0 a1) := by
  intro a0 a1 k
  have ih0 := impl_putNames.mono_l k
  unfold impl_putNames.f
  repeat' first
      | (with_reducible exact ih0 _ _ _ _)
      | (with_reducible exact impl_putNum.mono _ _ _)
      | (with_reducible exact impl_putText.mono _ _ _)
      | (with_reducible exact LeO.refl _)
      | (with_reducible exact LeO.none _)
      | (with_reducible refine LeO.ite ?_ ?_)
      | (with_reducible refine LeO.bind ?_ (fun _ => ?_))
      | exact ih0 _ _ _ _
      | exact impl_putNum.mono _ _ _
      | exact impl_putText.mono _ _ _
      | exact LeO.none _
      | refine LeO.ite ?_ ?_
      | refine LeO.bind ?_ (fun _ => ?_)
set_option maxHeartbeats 8000000 in
set_option maxRecDepth 100000 in
theorem impl_putNames.calls (k : Nat) (P0_ : Nat → Prop) (u9000_ : Value) (l0 : List Int) (A1 : Option Addr) (c1 : Nat) (l1 : List ByteArray) (r : List Int) (w0 w : World) (hB : Below w0.heap.size w0 w) (ho0 : Kd.R (Kd.int .u8) 5 w w0.heap.size P0_ u9000_ l0) (hr1 : ∀ W_, Kept w W_ (fun k_ => P0_ k_) → Kd.C Kd.string W_ A1 l1.length l1) (hc1 : l1.length ≤ c1) (h : impl_putNames.f k l0 l1 = some r) :
    Calls Try.prog 204 #[u9000_, .slice A1 l1.length c1] w fun e w' => ∃ v0_ : Value, e = .returned (v0_) ∧ Kd.R (Kd.int .u8) 5 w' w0.heap.size (fun k_ => (P0_ k_ ∨ w.heap.size ≤ k_)) v0_ r ∧ Below w0.heap.size w0 w' ∧ Kept w w' (fun k_ => P0_ k_) := by
  have HO0 := Aside0.mk (show Kd.R (Kd.int .u8) 5 w w0.heap.size (fun k_ => (P0_ k_ ∨ w.heap.size ≤ k_)) u9000_ l0 from Kd.R_mono ho0 (fun k_ hk => (.inl hk)))
  have HR1 := Aside0.mk hr1
  have HC1 := Aside0.mk hc1
  clear hr1 hc1
  have HK := Aside0.mk (Kept.refl w (fun k_ => P0_ k_))
  have HW0 := Aside0.mk hB.size
  have HB := Aside0.mk hB
  clear hB
  have H : ((impl_putNum.f k l0 (l1.length : Int)).bind fun t1641 => (impl_putNames.l0 k t1641 l1 (l1.length : Int) 0)) = some r := h
  clear h
  replace H := Option.bind_eq_some_iff.mp H
  obtain ⟨t1641, A30, H⟩ := H
  replace H : (impl_putNames.l0 k t1641 l1 (l1.length : Int) 0) = some r := H
  have A3 := Aside0.mk A30
  clear A30
  have H' := Aside0.mk H
  clear H
  obtain ⟨Ao4, co4, eo4⟩ := Kd.R_slice HO0.out
  subst eo4
  go_enter Try.func204, Try.ntmps204
  go_wp2_with (first | ((with_reducible refine gate_callee (f := 202) rfl ?_); refine goesL_ (some 10) rfl rfl Try.func202 (by kernel_rfl) rfl #[.slice Ao4 l0.length co4, .int .i64 (l1.length : Int)] rfl (by (try simp only [List.map_toArray, List.map_cons, List.map_nil]); first | done | rfl | (simp only [List.length_drop, List.length_take]; rfl)) ?_; (with_reducible refine (impl_putNum.calls k (fun k_ => some k_ = (.slice Ao4 l0.length co4 : Value).ownBlock) (.slice Ao4 l0.length co4) l0 (l1.length : Int) t1641 w0 _ ?side1 ?side2 A3.out).mono ?_); (case side1 => repeat (first | (with_reducible first | exact HB.out | apply below_alloc | apply pw_below_drewN | apply below_drew1) | exact HB.out)); (case side2 => exact Kd.R_tight rfl HO0.out); rintro e w5 ⟨v1642, rfl, ho0, hb, hkp⟩; refine ⟨_, rfl, ?_⟩; have n0_ := Aside0.mk (Kd.R_mono (ok' := fun k_ => (P0_ k_ ∨ w.heap.size ≤ k_)) ho0 (fun k_ hk_ => Or.elim hk_ (fun hs_ => (HO0.out.1 k_ (hs_).symm)) (fun hn_ => (.inr (Nat.le_trans (by first | exact HK.out.1 | exact (show Kept w _ (fun k_ => P0_ k_) from by repeat (first | (with_reducible first | exact HK.out | apply Kept.alloc | apply Kept.drewN | apply Kept.drew) | exact HK.out)).1) hn_))))); have n1_ := Aside0.mk (Kept.then_ (S := (fun k_ => P0_ k_)) (by repeat (first | (with_reducible first | exact HK.out | apply Kept.alloc | apply Kept.drewN | apply Kept.drew) | exact HK.out)) hkp (fun k_ hs_ => (fun e_ => (HO0.out.1 k_ e_.symm)) hs_)); have n2_ := Aside0.mk (hb); clear HK; clear HB; clear HO0; have HO1643 := n0_; have HK := n1_; have HB := n2_; clear n0_ n1_ n2_; (try clear hb); (try clear hkp); (try clear ho0)))
  go_loopg [0, 13] k (fun kq v0 v13 w' => ∃ (x0_1 : List Int) (x13_1 : Int), v13 = .int .i64 x13_1 ∧ Aside0 (impl_putNames.l0 kq x0_1 l1 (l1.length : Int) x13_1 = some r) ∧ Aside0 (kq ≤ k) ∧ Aside0 (Kd.R (Kd.int .u8) 5 w' w0.heap.size (fun k_ => (P0_ k_ ∨ w.heap.size ≤ k_)) v0 x0_1) ∧ Aside0 (Kept w w' (fun k_ => P0_ k_)) ∧ Aside0 (Below w0.heap.size w0 w'))
  case atStart => exact ⟨(t1641), (0), (by first | rfl | (simp; done) | (simp [*]; done)), H', ⟨Nat.le_refl _⟩, ⟨by (with_reducible repeat (first | apply Kd.R_alloc | apply Kd.R_drewN | apply Kd.R_drew)); exact HO1643.out⟩, ⟨by repeat (first | (with_reducible first | exact HK.out | apply Kept.alloc | apply Kept.drewN | apply Kept.drew) | exact HK.out)⟩, ⟨by repeat (first | (with_reducible first | exact HB.out | apply below_alloc | apply pw_below_drewN | apply below_drew1) | exact HB.out)⟩⟩
  case round =>
    clear H'
    try clear c1
    try clear c2
    try clear p2
    obtain ⟨x0_1, x13_1, rfl, HA, HK1, HO_0, HK, HB⟩ := hrel
    cases gk with
    | zero => exact absurd HA.out (by simp [impl_putNames.l0])
    | succ k1 =>
      have H := HA.out
      clear HA
      simp only [impl_putNames.l0] at H
      by_cases c6 : x13_1 < (l1.length : Int)
      · rw [if_pos c6] at H
        have c6b0 : decide (x13_1 < (l1.length : Int)) = true := decide_eq_true c6
        clear c6
        by_cases c7 : 0 ≤ x13_1
        · rw [if_pos c7] at H
          have c7b0 : decide (0 ≤ x13_1) = true := decide_eq_true c7
          clear c7
          by_cases c8 : x13_1 < (l1.length : Int)
          · rw [if_pos c8] at H
            have c8b0 : decide (x13_1 < (l1.length : Int)) = true := decide_eq_true c8
            clear c8
            replace H := Option.bind_eq_some_iff.mp H
            obtain ⟨t1645, A90, H⟩ := H
            replace H : (impl_putNames.l0 k1 t1645 l1 (l1.length : Int) (wrap64 (x13_1 + 1))) = some r := H
            have A9 := Aside0.mk A90
            clear A90
            have H' := Aside0.mk H
            clear H
            have p1644 : 0 ≤ (x13_1 : Int) := of_decide_eq_true (by first | (with_reducible assumption) | assumption)
            have q1644 : x13_1 < (l1.length : Int) := of_decide_eq_true (by first | (with_reducible assumption) | assumption)
            obtain ⟨ad1644, e1644, hx1644_0⟩ := Kd.at_string (Kd.C_kept_now HR1.out HK.out) x13_1 p1644 q1644
            cases e1644
            replace p1644 := eq_true p1644
            replace q1644 := eq_true q1644
            obtain ⟨Ao10, co10, eo10⟩ := Kd.R_slice HO_0.out
            subst eo10
            go_wp2_with (first | ((with_reducible refine gate_callee (f := 203) rfl ?_); refine goesL_ (some 19) rfl rfl Try.func203 (by kernel_rfl) rfl #[.slice Ao10 x0_1.length co10, .string (rdOf ByteArray.empty l1 x13_1)] rfl (by (try simp only [List.map_toArray, List.map_cons, List.map_nil]); first | done | rfl | (simp only [List.length_drop, List.length_take]; rfl)) ?_; (with_reducible refine (impl_putText.calls k1 (fun k_ => some k_ = (.slice Ao10 x0_1.length co10 : Value).ownBlock) (.slice Ao10 x0_1.length co10) x0_1 (rdOf ByteArray.empty l1 x13_1) t1645 w0 _ ?side1 ?side2 A9.out).mono ?_); (case side1 => repeat (first | (with_reducible first | exact HB.out | apply below_alloc | apply pw_below_drewN | apply below_drew1) | exact HB.out)); (case side2 => exact Kd.R_tight rfl HO_0.out); rintro e w11 ⟨v1646, rfl, ho0, hb, hkp⟩; refine ⟨_, rfl, ?_⟩; have n0_ := Aside0.mk (Kd.R_mono (ok' := fun k_ => (P0_ k_ ∨ w.heap.size ≤ k_)) ho0 (fun k_ hk_ => Or.elim hk_ (fun hs_ => (HO_0.out.1 k_ (hs_).symm)) (fun hn_ => (.inr (Nat.le_trans (by first | exact HK.out.1 | exact (show Kept w _ (fun k_ => P0_ k_) from by repeat (first | (with_reducible first | exact HK.out | apply Kept.alloc | apply Kept.drewN | apply Kept.drew) | exact HK.out)).1) hn_))))); have n1_ := Aside0.mk (Kept.then_ (S := (fun k_ => P0_ k_)) (by repeat (first | (with_reducible first | exact HK.out | apply Kept.alloc | apply Kept.drewN | apply Kept.drew) | exact HK.out)) hkp (fun k_ hs_ => (fun e_ => (HO_0.out.1 k_ e_.symm)) hs_)); have n2_ := Aside0.mk (hb); clear HK; clear HB; clear HO_0; have HO1647 := n0_; have HK := n1_; have HB := n2_; clear n0_ n1_ n2_; (try clear hb); (try clear hkp); (try clear ho0)))
            go_roundg k1
            case measure => have := HK1.out; omega
            case rel => exact ⟨(t1645), (wrap64 (x13_1 + 1)), (by first | rfl | (simp; done) | (simp [*]; done)), H', ⟨by have := HK1.out; omega⟩, ⟨by (with_reducible repeat (first | apply Kd.R_alloc | apply Kd.R_drewN | apply Kd.R_drew)); exact HO1647.out⟩, ⟨by repeat (first | (with_reducible first | exact HK.out | apply Kept.alloc | apply Kept.drewN | apply Kept.drew) | exact HK.out)⟩, ⟨by repeat (first | (with_reducible first | exact HB.out | apply below_alloc | apply pw_below_drewN | apply below_drew1) | exact HB.out)⟩⟩
          · rw [if_neg c8] at H
            exact absurd H (by simp)
        · rw [if_neg c7] at H
          exact absurd H (by simp)
      · rw [if_neg c6] at H
        have c6b0 : decide (x13_1 < (l1.length : Int)) = false := decide_eq_false c6
        clear c6
        obtain rfl := Option.some.inj H
        go_wp2
        go_ret
        exact ⟨_, by first | rfl | (simp [errW_none, errW_some] <;> rfl) | (simp [*, errW_none, errW_some] <;> rfl), by (with_reducible repeat (first | apply Kd.R_alloc | apply Kd.R_drewN | apply Kd.R_drew)); exact HO_0.out, by repeat (first | (with_reducible first | exact HB.out | apply below_alloc | apply pw_below_drewN | apply below_drew1) | exact HB.out), by repeat (first | (with_reducible first | exact HK.out | apply Kept.alloc | apply Kept.drewN | apply Kept.drew) | exact HK.out)⟩

theorem impl_putNames.is {out : List Int} {l : List ByteArray} (hl : out.length + (pNames l).length ≤ 70000000) (hn : l.length ≤ 1048576) : Ev (fun k => impl_putNames.f k out l) (out ++ pNames l) := by
  unfold pNames at hl
  rw [List.length_append] at hl
  have hp : ∀ s : ByteArray, s.size ≤ (pText s).length := fun s => by unfold pText; rw [List.length_append, bytesOf_length]; omega
  unfold impl_putNames.f pNames
  refine Ev.bind (impl_putNum.is (l.length : Int) (by omega)) ?_
  rw [← List.append_assoc]
  generalize hq : out ++ pNum (l.length : Int) = o at *
  have ho : o.length + (l.flatMap pText).length ≤ 70000000 := by rw [← hq, List.length_append]; omega
  refine ev_app (xs := l) pText (fun k x i => impl_putNames.l0 k x l (l.length : Int) i) (o ++ l.flatMap pText) o ?_ (fun pre y ys x hx he ih => ?_)
  · simp only [impl_putNames.l0]
    exact Ev.no (by omega) (Ev.now _)
  · have hlen := len_app hx
    have hrd : rdOf ByteArray.empty l (pre.length : Int) = y := by rw [hx]; exact at_app pre y ys _
    have hx2 : x.length + ((pText y).length + (ys.flatMap pText).length) = o.length + (l.flatMap pText).length := by
      have := congrArg List.length he
      simp only [List.length_append] at this
      omega
    have hy := hp y
    simp only [impl_putNames.l0, hrd]
    refine Ev.yes (by omega) (Ev.yes (by omega) <| Ev.yes (by omega) <| (Ev.bind (impl_putText.is y (by omega)) ?_))
    rw [unw (x := (pre.length : Int) + 1) (by omega) (by omega)]
    exact ih

/-! ### impl_putTx: function 205 -/
def impl_putTx.f (k : Nat) (l0 : List Int) (a1_0 : Int) (a1_1 : ByteArray) (a1_2 : ByteArray) (a1_3 : Int) (a1_4 : Int) : Option (List Int) := (impl_putNum.f k l0 a1_0).bind fun t1649 => ((impl_putText.f k t1649 a1_1).bind fun t1652 => ((impl_putText.f k t1652 a1_2).bind fun t1655 => ((impl_putNum.f k t1655 a1_3).bind fun t1658 => ((impl_putNum.f k t1658 a1_4).bind fun t1661 => (some t1661)))))
theorem impl_putTx.mono : ∀ a0 a1 a2 a3 a4 a5 k, LeO (impl_putTx.f k a0 a1 a2 a3 a4 a5) (impl_putTx.f (k + 1) a0 a1 a2 a3 a4 a5) := by
  intro a0 a1 a2 a3 a4 a5 k
  unfold impl_putTx.f
  repeat' first
      | (with_reducible exact impl_putNum.mono _ _ _)
      | (with_reducible exact impl_putText.mono _ _ _)
      | (with_reducible exact LeO.refl _)
      | (with_reducible exact LeO.none _)
      | (with_reducible refine LeO.ite ?_ ?_)
      | (with_reducible refine LeO.bind ?_ (fun _ => ?_))
      | exact impl_putNum.mono _ _ _
      | exact impl_putText.mono _ _ _
      | exact LeO.none _
      | refine LeO.ite ?_ ?_
      | refine LeO.bind ?_ (fun _ => ?_)
def impl_putTx.T1 : Bool × List (List Nat × List Nat) := (true, [([], []), ([], []), ([1], [1]), ([0, 2], [0, 2]), ([], []), ([4], [4]), ([3, 5, 3], [3, 5]), ([], []), ([7], [7]), ([6, 8, 6], [6, 8]), ([9, 9, 0, 1, 2, 3, 4, 5, 6, 7, 8, 9], [0, 9])])
def impl_putTx.B1 : List Nat := [0, 0, 2, 7, 0, 16, 63, 0, 128, 511, 1023]
theorem impl_putTx.tab1 : rtab .any (opsOf Try.f205 1) = impl_putTx.T1 := by kernel_rfl
theorem impl_putTx.bits1 : waitsOk impl_putTx.T1.2 impl_putTx.B1 = true := by kernel_rfl
def impl_putTx.T2 : Bool × List (List Nat × List Nat) := (true, [([], []), ([], []), ([1], [1]), ([0, 2], [0, 2]), ([], []), ([4], [4]), ([3, 5, 3], [3, 5]), ([6, 6, 0, 1, 2, 3, 4, 5, 6], [6])])
def impl_putTx.B2 : List Nat := [0, 0, 2, 7, 0, 16, 63, 127]
theorem impl_putTx.tab2 : rtab .any (opsOf Try.f205 2) = impl_putTx.T2 := by kernel_rfl
theorem impl_putTx.bits2 : waitsOk impl_putTx.T2.2 impl_putTx.B2 = true := by kernel_rfl
set_option maxHeartbeats 8000000 in
set_option maxRecDepth 100000 in
theorem impl_putTx.calls (k : Nat) (P0_ : Nat → Prop) (u9000_ : Value) (l0 : List Int) (a1_0 : Int) (a1_1 : ByteArray) (a1_2 : ByteArray) (a1_3 : Int) (a1_4 : Int) (r : List Int) (w0 w : World) (hB : Below w0.heap.size w0 w) (ho0 : Kd.R (Kd.int .u8) 5 w w0.heap.size P0_ u9000_ l0) (h : impl_putTx.f k l0 a1_0 a1_1 a1_2 a1_3 a1_4 = some r) :
    Calls Try.prog 205 #[u9000_, .agg #[.int .i64 a1_0, .string a1_1, .string a1_2, .int .i64 a1_3, .int .i64 a1_4]] w fun e w' => ∃ v0_ : Value, e = .returned (v0_) ∧ Kd.R (Kd.int .u8) 5 w' w0.heap.size (fun k_ => (P0_ k_ ∨ w.heap.size ≤ k_)) v0_ r ∧ Below w0.heap.size w0 w' ∧ Kept w w' (fun k_ => P0_ k_) := by
  have hu186 := Try.underlying186
  have HO0 := Aside0.mk (show Kd.R (Kd.int .u8) 5 w w0.heap.size (fun k_ => (P0_ k_ ∨ w.heap.size ≤ k_)) u9000_ l0 from Kd.R_mono ho0 (fun k_ hk => (.inl hk)))
  have HK := Aside0.mk (Kept.refl w (fun k_ => P0_ k_))
  have HW0 := Aside0.mk hB.size
  have HB := Aside0.mk hB
  clear hB
  have H : ((impl_putNum.f k l0 a1_0).bind fun t1649 => ((impl_putText.f k t1649 a1_1).bind fun t1652 => ((impl_putText.f k t1652 a1_2).bind fun t1655 => ((impl_putNum.f k t1655 a1_3).bind fun t1658 => ((impl_putNum.f k t1658 a1_4).bind fun t1661 => (some t1661)))))) = some r := h
  clear h
  replace H := Option.bind_eq_some_iff.mp H
  obtain ⟨t1649, A30, H⟩ := H
  replace H : ((impl_putText.f k t1649 a1_1).bind fun t1652 => ((impl_putText.f k t1652 a1_2).bind fun t1655 => ((impl_putNum.f k t1655 a1_3).bind fun t1658 => ((impl_putNum.f k t1658 a1_4).bind fun t1661 => (some t1661))))) = some r := H
  have A3 := Aside0.mk A30
  clear A30
  replace H := Option.bind_eq_some_iff.mp H
  obtain ⟨t1652, A40, H⟩ := H
  replace H : ((impl_putText.f k t1652 a1_2).bind fun t1655 => ((impl_putNum.f k t1655 a1_3).bind fun t1658 => ((impl_putNum.f k t1658 a1_4).bind fun t1661 => (some t1661)))) = some r := H
  have A4 := Aside0.mk A40
  clear A40
  replace H := Option.bind_eq_some_iff.mp H
  obtain ⟨t1655, A50, H⟩ := H
  replace H : ((impl_putNum.f k t1655 a1_3).bind fun t1658 => ((impl_putNum.f k t1658 a1_4).bind fun t1661 => (some t1661))) = some r := H
  have A5 := Aside0.mk A50
  clear A50
  replace H := Option.bind_eq_some_iff.mp H
  obtain ⟨t1658, A60, H⟩ := H
  replace H : ((impl_putNum.f k t1658 a1_4).bind fun t1661 => (some t1661)) = some r := H
  have A6 := Aside0.mk A60
  clear A60
  replace H := Option.bind_eq_some_iff.mp H
  obtain ⟨t1661, A70, H⟩ := H
  replace H : (some t1661) = some r := H
  have A7 := Aside0.mk A70
  clear A70
  obtain rfl := Option.some.inj H
  go_enter Try.func205, Try.ntmps205
  try go_wp2_with (first | ((with_reducible refine gate_dst (N := 3) rfl ?_); refine box_event ?hg (N := 3) ?hd (cs := #[.int .i64 a1_0, .string a1_1, .string a1_2, .int .i64 a1_3, .int .i64 a1_4]) (t := 186) ?hr ?_; (case hd => rfl); (case hg => rfl); (case hr => first | (go_simp; done) | (go_simp; rfl)); intro gb1648 hg w8 hbox hb; have n0_ := Aside0.mk (Kd.R_below (by (with_reducible repeat (first | apply Kd.R_alloc | apply Kd.R_drewN | apply Kd.R_drew)); exact HO0.out) hb); have n1_ := Aside0.mk (Kept.below (S := (fun k_ => P0_ k_)) (by repeat (first | (with_reducible first | exact HK.out | apply Kept.alloc | apply Kept.drewN | apply Kept.drew) | exact HK.out)) hb); have n2_ := Aside0.mk (below_step (by repeat (first | (with_reducible first | exact HB.out | apply below_alloc | apply pw_below_drewN | apply below_drew1) | exact HB.out)) hb); have n3_ := Aside0.mk (hbox); have n4_ := Aside0.mk ((by rw [hg]; exact (by first | exact HK.out.1 | exact (show Kept w _ (fun k_ => P0_ k_) from by repeat (first | (with_reducible first | exact HK.out | apply Kept.alloc | apply Kept.drewN | apply Kept.drew) | exact HK.out)).1) : w.heap.size ≤ gb1648)); have n5_ := Aside0.mk ((by rw [hg]; exact (below_size (by repeat (first | (with_reducible first | exact HB.out | apply below_alloc | apply pw_below_drewN | apply below_drew1) | exact HB.out))) : w0.heap.size ≤ gb1648)); clear HO0; clear HK; clear HB; have HO0 := n0_; have HK := n1_; have HB := n2_; have BK1648 := n3_; have GW1648 := n4_; have GE1648 := n5_; clear n0_ n1_ n2_ n3_ n4_ n5_; clear hb hbox hg))
  have n0_ := Aside0.mk (Kd.R_drew HO0.out)
  have n1_ := Aside0.mk (blk_drew BK1648.out)
  have n2_ := Aside0.mk (Kept.drew HK.out)
  have n3_ := Aside0.mk (below_drew1 HB.out)
  clear HO0
  clear BK1648
  clear HK
  clear HB
  have HO0 := n0_
  have BK1648 := n1_
  have HK := n2_
  have HB := n3_
  clear n0_ n1_ n2_ n3_
  obtain ⟨Ao10, co10, eo10⟩ := Kd.R_slice HO0.out
  (first | subst eo10 | (injection eo10 with f1_ f2_ f3_; have f4_ := f1_.symm; have f5_ := f3_.symm; clear f1_ f2_ f3_; subst f4_; subst f5_))
  refine start_ (n := 11) (S := fun w' => w'.cell? ⟨gb1648, 0, none⟩ = some (.int .i64 a1_0) ∧ w'.cell? ⟨gb1648, 1, none⟩ = some (.string a1_1) ∧ w'.cell? ⟨gb1648, 2, none⟩ = some (.string a1_2) ∧ w'.cell? ⟨gb1648, 3, none⟩ = some (.int .i64 a1_3) ∧ w'.cell? ⟨gb1648, 4, none⟩ = some (.int .i64 a1_4)) (ds := []) #[false, false, false, false, false, false, false, false, false, false, false] (by kernel_rfl) rfl rfl ⟨(blk_cell BK1648.out 0).trans rfl, (blk_cell BK1648.out 1).trans rfl, (blk_cell BK1648.out 2).trans rfl, (blk_cell BK1648.out 3).trans rfl, (blk_cell BK1648.out 4).trans rfl⟩ (fun hHeld => ?_); refine with_tabW impl_putTx.tab1 impl_putTx.bits1 (fun HT_ HW_ => ?_)
  generalize w8.drew = w9 at HO0 BK1648 HK HB hHeld ⊢
  refine pure_ (i := 0) (N := some 5) (v := ?_) (a' := ?_) #[true, false, false, false, false, false, false, false, false, false, false] rfl rfl (any_of HT_.out (by kernel_rfl)) (fun _ _ _ h => h) (Or.inl ⟨by rfl, ?_⟩) ?_ ?_
  rotate_left
  · intro w'
    go_simp
    with_reducible rfl
  rotate_left
  · simp only [Act.put, List.setIfInBounds_toArray, List.set_cons_zero, List.set_cons_succ, i64_w, i32_w]
    rfl
  refine pure_ (i := 1) (N := some 6) (v := ?_) (a' := ?_) #[true, true, false, false, false, false, false, false, false, false, false] rfl rfl (any_of HT_.out (by kernel_rfl)) (fun _ _ _ h => h) (Or.inl ⟨by rfl, ?_⟩) ?_ ?_
  rotate_left
  · intro w'
    go_simp
    with_reducible rfl
  rotate_left
  · simp only [Act.put, List.setIfInBounds_toArray, List.set_cons_zero, List.set_cons_succ, i64_w, i32_w]
    rfl
  refine pure_ (i := 4) (N := some 9) (v := ?_) (a' := ?_) #[true, true, false, false, true, false, false, false, false, false, false] rfl rfl (any_of HT_.out (by kernel_rfl)) (fun _ _ _ h => h) (Or.inl ⟨by rfl, ?_⟩) ?_ ?_
  rotate_left
  · intro w'
    go_simp
    with_reducible rfl
  rotate_left
  · simp only [Act.put, List.setIfInBounds_toArray, List.set_cons_zero, List.set_cons_succ, i64_w, i32_w]
    rfl
  refine pure_ (i := 7) (N := some 12) (v := ?_) (a' := ?_) #[true, true, false, false, true, false, false, true, false, false, false] rfl rfl (any_of HT_.out (by kernel_rfl)) (fun _ _ _ h => h) (Or.inl ⟨by rfl, ?_⟩) ?_ ?_
  rotate_left
  · intro w'
    go_simp
    with_reducible rfl
  rotate_left
  · simp only [Act.put, List.setIfInBounds_toArray, List.set_cons_zero, List.set_cons_succ, i64_w, i32_w]
    rfl
  refine take_ (i := 2) (N := some 7) (v := ?_) (a' := ?_) #[true, true, true, false, true, false, false, true, false, false, false] rfl rfl (take_ofW HT_.out HW_.out (by kernel_rfl)) (fun _ _ _ h => h) (Or.inl ⟨by rfl, ?_⟩) hHeld ?_ ?_
  rotate_left
  · rintro w' ⟨s0, s1, s2, s3, s4⟩
    go_simp
    with_reducible rfl
  rotate_left
  · simp only [Act.put, List.setIfInBounds_toArray, List.set_cons_zero, List.set_cons_succ, i64_w, i32_w]
    rfl
  refine take_ (i := 5) (N := some 10) (v := ?_) (a' := ?_) #[true, true, true, false, true, true, false, true, false, false, false] rfl rfl (take_ofW HT_.out HW_.out (by kernel_rfl)) (fun _ _ _ h => h) (Or.inl ⟨by rfl, ?_⟩) hHeld ?_ ?_
  rotate_left
  · rintro w' ⟨s0, s1, s2, s3, s4⟩
    go_simp
    with_reducible rfl
  rotate_left
  · simp only [Act.put, List.setIfInBounds_toArray, List.set_cons_zero, List.set_cons_succ, i64_w, i32_w]
    rfl
  refine take_ (i := 8) (N := some 13) (v := ?_) (a' := ?_) #[true, true, true, false, true, true, false, true, true, false, false] rfl rfl (take_ofW HT_.out HW_.out (by kernel_rfl)) (fun _ _ _ h => h) (Or.inl ⟨by rfl, ?_⟩) hHeld ?_ ?_
  rotate_left
  · rintro w' ⟨s0, s1, s2, s3, s4⟩
    go_simp
    with_reducible rfl
  rotate_left
  · simp only [Act.put, List.setIfInBounds_toArray, List.set_cons_zero, List.set_cons_succ, i64_w, i32_w]
    rfl
  refine one_ (i := 3) (N := some 8) #[true, true, true, true, true, true, false, true, true, false, false] rfl rfl (one_of HT_.out (by kernel_rfl)) (by decide) (fun K hK => ?_)
  refine goes_ Try.func202 (by kernel_rfl) rfl #[.slice Ao10 l0.length co10, .int .i64 a1_0] (by rfl) rfl rfl (by (try simp only [List.map_toArray, List.map_cons, List.map_nil]); first | done | rfl | (simp only [List.length_drop, List.length_take]; rfl)) ?_
  with_reducible refine (impl_putNum.calls k (fun k_ => some k_ = (.slice Ao10 l0.length co10 : Value).ownBlock) (.slice Ao10 l0.length co10) l0 a1_0 t1649 w0 _ ?side1 ?side2 A3.out).mono ?_
  (case side1 => repeat (first | (with_reducible first | exact HB.out | apply below_alloc | apply pw_below_drewN | apply below_drew1 | refine below_set ?_ GE1648.out) | exact HB.out))
  (case side2 => exact Kd.R_tight rfl HO0.out)
  rintro e w11 ⟨v1650, rfl, ho0, hb, hkp⟩
  refine ⟨_, rfl, ?_⟩
  have n0_ := Aside0.mk (blk_kept (by (with_reducible repeat (first | refine blk_drewN ?_ _ | refine blk_drew ?_ | refine blk_alloc ?_ _)); exact BK1648.out) hkp (fun hs_ => (fun e_ => (Kd.R_ne HO0.out BK1648.out (by decide)) e_) hs_))
  have n1_ := Aside0.mk (Kd.R_mono (ok' := fun k_ => (P0_ k_ ∨ w.heap.size ≤ k_)) ho0 (fun k_ hk_ => Or.elim hk_ (fun hs_ => (HO0.out.1 k_ (hs_).symm)) (fun hn_ => (.inr (Nat.le_trans (by first | exact HK.out.1 | exact (show Kept w _ (fun k_ => P0_ k_) from by repeat (first | (with_reducible first | exact HK.out | apply Kept.alloc | apply Kept.drewN | apply Kept.drew | refine Kept.setCell ?_ (.inr GW1648.out) _) | exact HK.out)).1) hn_)))))
  have n2_ := Aside0.mk (Kept.then_ (S := (fun k_ => P0_ k_)) (by repeat (first | (with_reducible first | exact HK.out | apply Kept.alloc | apply Kept.drewN | apply Kept.drew | refine Kept.setCell ?_ (.inr GW1648.out) _) | exact HK.out)) hkp (fun k_ hs_ => (fun e_ => (HO0.out.1 k_ e_.symm)) hs_))
  have n3_ := Aside0.mk (hb)
  clear BK1648
  clear HK
  clear HB
  clear HO0
  have BK1648 := n0_
  have HO1651 := n1_
  have HK := n2_
  have HB := n3_
  clear n0_ n1_ n2_ n3_
  (try clear hb)
  (try clear hkp)
  (try clear ho0)
  obtain ⟨Ao12, co12, eo12⟩ := Kd.R_slice HO1651.out
  (first | subst eo12 | (injection eo12 with f1_ f2_ f3_; have f4_ := f1_.symm; have f5_ := f3_.symm; clear f1_ f2_ f3_; subst f4_; subst f5_))
  refine hK.out _ _ ⟨(blk_cell BK1648.out 0).trans rfl, (blk_cell BK1648.out 1).trans rfl, (blk_cell BK1648.out 2).trans rfl, (blk_cell BK1648.out 3).trans rfl, (blk_cell BK1648.out 4).trans rfl⟩ (fun hHeld => ?_)
  clear hK K
  refine norm_ (a' := ?_) ?_ ?_
  rotate_left
  · show Act.put _ (some 8) _ = _
    simp only [Act.put, List.setIfInBounds_toArray, List.set_cons_zero, List.set_cons_succ, i64_w, i32_w]
    rfl
  refine one_ (i := 6) (N := some 11) #[true, true, true, true, true, true, true, true, true, false, false] rfl rfl (one_of HT_.out (by kernel_rfl)) (by decide) (fun K hK => ?_)
  refine goes_ Try.func203 (by kernel_rfl) rfl #[.slice Ao12 t1649.length co12, .string a1_1] (by rfl) rfl rfl (by (try simp only [List.map_toArray, List.map_cons, List.map_nil]); first | done | rfl | (simp only [List.length_drop, List.length_take]; rfl)) ?_
  with_reducible refine (impl_putText.calls k (fun k_ => some k_ = (.slice Ao12 t1649.length co12 : Value).ownBlock) (.slice Ao12 t1649.length co12) t1649 a1_1 t1652 w0 _ ?side1 ?side2 A4.out).mono ?_
  (case side1 => repeat (first | (with_reducible first | exact HB.out | apply below_alloc | apply pw_below_drewN | apply below_drew1 | refine below_set ?_ GE1648.out) | exact HB.out))
  (case side2 => exact Kd.R_tight rfl HO1651.out)
  rintro e w13 ⟨v1653, rfl, ho0, hb, hkp⟩
  refine ⟨_, rfl, ?_⟩
  have n0_ := Aside0.mk (blk_kept (by (with_reducible repeat (first | refine blk_drewN ?_ _ | refine blk_drew ?_ | refine blk_alloc ?_ _)); exact BK1648.out) hkp (fun hs_ => (fun e_ => (Kd.R_ne HO1651.out BK1648.out (by decide)) e_) hs_))
  have n1_ := Aside0.mk (Kd.R_mono (ok' := fun k_ => (P0_ k_ ∨ w.heap.size ≤ k_)) ho0 (fun k_ hk_ => Or.elim hk_ (fun hs_ => (HO1651.out.1 k_ (hs_).symm)) (fun hn_ => (.inr (Nat.le_trans (by first | exact HK.out.1 | exact (show Kept w _ (fun k_ => P0_ k_) from by repeat (first | (with_reducible first | exact HK.out | apply Kept.alloc | apply Kept.drewN | apply Kept.drew | refine Kept.setCell ?_ (.inr GW1648.out) _) | exact HK.out)).1) hn_)))))
  have n2_ := Aside0.mk (Kept.then_ (S := (fun k_ => P0_ k_)) (by repeat (first | (with_reducible first | exact HK.out | apply Kept.alloc | apply Kept.drewN | apply Kept.drew | refine Kept.setCell ?_ (.inr GW1648.out) _) | exact HK.out)) hkp (fun k_ hs_ => (fun e_ => (HO1651.out.1 k_ e_.symm)) hs_))
  have n3_ := Aside0.mk (hb)
  clear BK1648
  clear HK
  clear HB
  clear HO1651
  have BK1648 := n0_
  have HO1654 := n1_
  have HK := n2_
  have HB := n3_
  clear n0_ n1_ n2_ n3_
  (try clear hb)
  (try clear hkp)
  (try clear ho0)
  obtain ⟨Ao14, co14, eo14⟩ := Kd.R_slice HO1654.out
  (first | subst eo14 | (injection eo14 with f1_ f2_ f3_; have f4_ := f1_.symm; have f5_ := f3_.symm; clear f1_ f2_ f3_; subst f4_; subst f5_))
  refine hK.out _ _ ⟨(blk_cell BK1648.out 0).trans rfl, (blk_cell BK1648.out 1).trans rfl, (blk_cell BK1648.out 2).trans rfl, (blk_cell BK1648.out 3).trans rfl, (blk_cell BK1648.out 4).trans rfl⟩ (fun hHeld => ?_)
  clear hK K
  refine norm_ (a' := ?_) ?_ ?_
  rotate_left
  · show Act.put _ (some 11) _ = _
    simp only [Act.put, List.setIfInBounds_toArray, List.set_cons_zero, List.set_cons_succ, i64_w, i32_w]
    rfl
  refine one_ (i := 9) (N := some 14) #[true, true, true, true, true, true, true, true, true, true, false] rfl rfl (one_of HT_.out (by kernel_rfl)) (by decide) (fun K hK => ?_)
  refine goes_ Try.func203 (by kernel_rfl) rfl #[.slice Ao14 t1652.length co14, .string a1_2] (by rfl) rfl rfl (by (try simp only [List.map_toArray, List.map_cons, List.map_nil]); first | done | rfl | (simp only [List.length_drop, List.length_take]; rfl)) ?_
  with_reducible refine (impl_putText.calls k (fun k_ => some k_ = (.slice Ao14 t1652.length co14 : Value).ownBlock) (.slice Ao14 t1652.length co14) t1652 a1_2 t1655 w0 _ ?side1 ?side2 A5.out).mono ?_
  (case side1 => repeat (first | (with_reducible first | exact HB.out | apply below_alloc | apply pw_below_drewN | apply below_drew1 | refine below_set ?_ GE1648.out) | exact HB.out))
  (case side2 => exact Kd.R_tight rfl HO1654.out)
  rintro e w15 ⟨v1656, rfl, ho0, hb, hkp⟩
  refine ⟨_, rfl, ?_⟩
  have n0_ := Aside0.mk (blk_kept (by (with_reducible repeat (first | refine blk_drewN ?_ _ | refine blk_drew ?_ | refine blk_alloc ?_ _)); exact BK1648.out) hkp (fun hs_ => (fun e_ => (Kd.R_ne HO1654.out BK1648.out (by decide)) e_) hs_))
  have n1_ := Aside0.mk (Kd.R_mono (ok' := fun k_ => (P0_ k_ ∨ w.heap.size ≤ k_)) ho0 (fun k_ hk_ => Or.elim hk_ (fun hs_ => (HO1654.out.1 k_ (hs_).symm)) (fun hn_ => (.inr (Nat.le_trans (by first | exact HK.out.1 | exact (show Kept w _ (fun k_ => P0_ k_) from by repeat (first | (with_reducible first | exact HK.out | apply Kept.alloc | apply Kept.drewN | apply Kept.drew | refine Kept.setCell ?_ (.inr GW1648.out) _) | exact HK.out)).1) hn_)))))
  have n2_ := Aside0.mk (Kept.then_ (S := (fun k_ => P0_ k_)) (by repeat (first | (with_reducible first | exact HK.out | apply Kept.alloc | apply Kept.drewN | apply Kept.drew | refine Kept.setCell ?_ (.inr GW1648.out) _) | exact HK.out)) hkp (fun k_ hs_ => (fun e_ => (HO1654.out.1 k_ e_.symm)) hs_))
  have n3_ := Aside0.mk (hb)
  clear BK1648
  clear HK
  clear HB
  clear HO1654
  have BK1648 := n0_
  have HO1657 := n1_
  have HK := n2_
  have HB := n3_
  clear n0_ n1_ n2_ n3_
  (try clear hb)
  (try clear hkp)
  (try clear ho0)
  refine hK.out _ _ ⟨(blk_cell BK1648.out 0).trans rfl, (blk_cell BK1648.out 1).trans rfl, (blk_cell BK1648.out 2).trans rfl, (blk_cell BK1648.out 3).trans rfl, (blk_cell BK1648.out 4).trans rfl⟩ (fun hHeld => ?_)
  clear hK K
  refine norm_ (a' := ?_) ?_ ?_
  rotate_left
  · show Act.put _ (some 14) _ = _
    simp only [Act.put, List.setIfInBounds_toArray, List.set_cons_zero, List.set_cons_succ, i64_w, i32_w]
    rfl
  refine pure_ (i := 10) (N := some 0) (v := ?_) (a' := ?_) #[true, true, true, true, true, true, true, true, true, true, true] rfl rfl (any_of HT_.out (by kernel_rfl)) (fun _ _ _ h => h) (Or.inl ⟨by rfl, ?_⟩) ?_ ?_
  rotate_left
  · intro w'
    go_simp
    with_reducible rfl
  rotate_left
  · simp only [Act.put, List.setIfInBounds_toArray, List.set_cons_zero, List.set_cons_succ, i64_w, i32_w]
    rfl
  refine done_ (done_of HT_.out (by kernel_rfl)) ?_
  try go_wp2
  have n0_ := Aside0.mk (Kd.R_drew HO1657.out)
  have n1_ := Aside0.mk (blk_drew BK1648.out)
  have n2_ := Aside0.mk (Kept.drew HK.out)
  have n3_ := Aside0.mk (below_drew1 HB.out)
  clear HO1657
  clear BK1648
  clear HK
  clear HB
  have HO1657 := n0_
  have BK1648 := n1_
  have HK := n2_
  have HB := n3_
  clear n0_ n1_ n2_ n3_
  obtain ⟨Ao17, co17, eo17⟩ := Kd.R_slice HO1657.out
  (first | subst eo17 | (injection eo17 with f1_ f2_ f3_; have f4_ := f1_.symm; have f5_ := f3_.symm; clear f1_ f2_ f3_; subst f4_; subst f5_))
  refine start_ (n := 8) (S := fun w' => w'.cell? ⟨gb1648, 0, none⟩ = some (.int .i64 a1_0) ∧ w'.cell? ⟨gb1648, 1, none⟩ = some (.string a1_1) ∧ w'.cell? ⟨gb1648, 2, none⟩ = some (.string a1_2) ∧ w'.cell? ⟨gb1648, 3, none⟩ = some (.int .i64 a1_3) ∧ w'.cell? ⟨gb1648, 4, none⟩ = some (.int .i64 a1_4)) (ds := []) #[false, false, false, false, false, false, false, false] (by kernel_rfl) rfl rfl ⟨(blk_cell BK1648.out 0).trans rfl, (blk_cell BK1648.out 1).trans rfl, (blk_cell BK1648.out 2).trans rfl, (blk_cell BK1648.out 3).trans rfl, (blk_cell BK1648.out 4).trans rfl⟩ (fun hHeld => ?_); refine with_tabW impl_putTx.tab2 impl_putTx.bits2 (fun HT_ HW_ => ?_)
  generalize w15.drew = w16 at HO1657 BK1648 HK HB hHeld ⊢
  refine pure_ (i := 0) (N := some 15) (v := ?_) (a' := ?_) #[true, false, false, false, false, false, false, false] rfl rfl (any_of HT_.out (by kernel_rfl)) (fun _ _ _ h => h) (Or.inl ⟨by rfl, ?_⟩) ?_ ?_
  rotate_left
  · intro w'
    go_simp
    with_reducible rfl
  rotate_left
  · simp only [Act.put, List.setIfInBounds_toArray, List.set_cons_zero, List.set_cons_succ, i64_w, i32_w]
    rfl
  refine pure_ (i := 1) (N := some 16) (v := ?_) (a' := ?_) #[true, true, false, false, false, false, false, false] rfl rfl (any_of HT_.out (by kernel_rfl)) (fun _ _ _ h => h) (Or.inl ⟨by rfl, ?_⟩) ?_ ?_
  rotate_left
  · intro w'
    go_simp
    with_reducible rfl
  rotate_left
  · simp only [Act.put, List.setIfInBounds_toArray, List.set_cons_zero, List.set_cons_succ, i64_w, i32_w]
    rfl
  refine pure_ (i := 4) (N := some 19) (v := ?_) (a' := ?_) #[true, true, false, false, true, false, false, false] rfl rfl (any_of HT_.out (by kernel_rfl)) (fun _ _ _ h => h) (Or.inl ⟨by rfl, ?_⟩) ?_ ?_
  rotate_left
  · intro w'
    go_simp
    with_reducible rfl
  rotate_left
  · simp only [Act.put, List.setIfInBounds_toArray, List.set_cons_zero, List.set_cons_succ, i64_w, i32_w]
    rfl
  refine take_ (i := 2) (N := some 17) (v := ?_) (a' := ?_) #[true, true, true, false, true, false, false, false] rfl rfl (take_ofW HT_.out HW_.out (by kernel_rfl)) (fun _ _ _ h => h) (Or.inl ⟨by rfl, ?_⟩) hHeld ?_ ?_
  rotate_left
  · rintro w' ⟨s0, s1, s2, s3, s4⟩
    go_simp
    with_reducible rfl
  rotate_left
  · simp only [Act.put, List.setIfInBounds_toArray, List.set_cons_zero, List.set_cons_succ, i64_w, i32_w]
    rfl
  refine take_ (i := 5) (N := some 20) (v := ?_) (a' := ?_) #[true, true, true, false, true, true, false, false] rfl rfl (take_ofW HT_.out HW_.out (by kernel_rfl)) (fun _ _ _ h => h) (Or.inl ⟨by rfl, ?_⟩) hHeld ?_ ?_
  rotate_left
  · rintro w' ⟨s0, s1, s2, s3, s4⟩
    go_simp
    with_reducible rfl
  rotate_left
  · simp only [Act.put, List.setIfInBounds_toArray, List.set_cons_zero, List.set_cons_succ, i64_w, i32_w]
    rfl
  refine one_ (i := 3) (N := some 18) #[true, true, true, true, true, true, false, false] rfl rfl (one_of HT_.out (by kernel_rfl)) (by decide) (fun K hK => ?_)
  refine goes_ Try.func202 (by kernel_rfl) rfl #[.slice Ao17 t1655.length co17, .int .i64 a1_3] (by rfl) rfl rfl (by (try simp only [List.map_toArray, List.map_cons, List.map_nil]); first | done | rfl | (simp only [List.length_drop, List.length_take]; rfl)) ?_
  with_reducible refine (impl_putNum.calls k (fun k_ => some k_ = (.slice Ao17 t1655.length co17 : Value).ownBlock) (.slice Ao17 t1655.length co17) t1655 a1_3 t1658 w0 _ ?side1 ?side2 A6.out).mono ?_
  (case side1 => repeat (first | (with_reducible first | exact HB.out | apply below_alloc | apply pw_below_drewN | apply below_drew1 | refine below_set ?_ GE1648.out) | exact HB.out))
  (case side2 => exact Kd.R_tight rfl HO1657.out)
  rintro e w18 ⟨v1659, rfl, ho0, hb, hkp⟩
  refine ⟨_, rfl, ?_⟩
  have n0_ := Aside0.mk (blk_kept (by (with_reducible repeat (first | refine blk_drewN ?_ _ | refine blk_drew ?_ | refine blk_alloc ?_ _)); exact BK1648.out) hkp (fun hs_ => (fun e_ => (Kd.R_ne HO1657.out BK1648.out (by decide)) e_) hs_))
  have n1_ := Aside0.mk (Kd.R_mono (ok' := fun k_ => (P0_ k_ ∨ w.heap.size ≤ k_)) ho0 (fun k_ hk_ => Or.elim hk_ (fun hs_ => (HO1657.out.1 k_ (hs_).symm)) (fun hn_ => (.inr (Nat.le_trans (by first | exact HK.out.1 | exact (show Kept w _ (fun k_ => P0_ k_) from by repeat (first | (with_reducible first | exact HK.out | apply Kept.alloc | apply Kept.drewN | apply Kept.drew | refine Kept.setCell ?_ (.inr GW1648.out) _) | exact HK.out)).1) hn_)))))
  have n2_ := Aside0.mk (Kept.then_ (S := (fun k_ => P0_ k_)) (by repeat (first | (with_reducible first | exact HK.out | apply Kept.alloc | apply Kept.drewN | apply Kept.drew | refine Kept.setCell ?_ (.inr GW1648.out) _) | exact HK.out)) hkp (fun k_ hs_ => (fun e_ => (HO1657.out.1 k_ e_.symm)) hs_))
  have n3_ := Aside0.mk (hb)
  clear BK1648
  clear HK
  clear HB
  clear HO1657
  have BK1648 := n0_
  have HO1660 := n1_
  have HK := n2_
  have HB := n3_
  clear n0_ n1_ n2_ n3_
  (try clear hb)
  (try clear hkp)
  (try clear ho0)
  obtain ⟨Ao19, co19, eo19⟩ := Kd.R_slice HO1660.out
  (first | subst eo19 | (injection eo19 with f1_ f2_ f3_; have f4_ := f1_.symm; have f5_ := f3_.symm; clear f1_ f2_ f3_; subst f4_; subst f5_))
  refine hK.out _ _ ⟨(blk_cell BK1648.out 0).trans rfl, (blk_cell BK1648.out 1).trans rfl, (blk_cell BK1648.out 2).trans rfl, (blk_cell BK1648.out 3).trans rfl, (blk_cell BK1648.out 4).trans rfl⟩ (fun hHeld => ?_)
  clear hK K
  refine norm_ (a' := ?_) ?_ ?_
  rotate_left
  · show Act.put _ (some 18) _ = _
    simp only [Act.put, List.setIfInBounds_toArray, List.set_cons_zero, List.set_cons_succ, i64_w, i32_w]
    rfl
  refine one_ (i := 6) (N := some 21) #[true, true, true, true, true, true, true, false] rfl rfl (one_of HT_.out (by kernel_rfl)) (by decide) (fun K hK => ?_)
  refine goes_ Try.func202 (by kernel_rfl) rfl #[.slice Ao19 t1658.length co19, .int .i64 a1_4] (by rfl) rfl rfl (by (try simp only [List.map_toArray, List.map_cons, List.map_nil]); first | done | rfl | (simp only [List.length_drop, List.length_take]; rfl)) ?_
  with_reducible refine (impl_putNum.calls k (fun k_ => some k_ = (.slice Ao19 t1658.length co19 : Value).ownBlock) (.slice Ao19 t1658.length co19) t1658 a1_4 t1661 w0 _ ?side1 ?side2 A7.out).mono ?_
  (case side1 => repeat (first | (with_reducible first | exact HB.out | apply below_alloc | apply pw_below_drewN | apply below_drew1 | refine below_set ?_ GE1648.out) | exact HB.out))
  (case side2 => exact Kd.R_tight rfl HO1660.out)
  rintro e w20 ⟨v1662, rfl, ho0, hb, hkp⟩
  refine ⟨_, rfl, ?_⟩
  have n0_ := Aside0.mk (blk_kept (by (with_reducible repeat (first | refine blk_drewN ?_ _ | refine blk_drew ?_ | refine blk_alloc ?_ _)); exact BK1648.out) hkp (fun hs_ => (fun e_ => (Kd.R_ne HO1660.out BK1648.out (by decide)) e_) hs_))
  have n1_ := Aside0.mk (Kd.R_mono (ok' := fun k_ => (P0_ k_ ∨ w.heap.size ≤ k_)) ho0 (fun k_ hk_ => Or.elim hk_ (fun hs_ => (HO1660.out.1 k_ (hs_).symm)) (fun hn_ => (.inr (Nat.le_trans (by first | exact HK.out.1 | exact (show Kept w _ (fun k_ => P0_ k_) from by repeat (first | (with_reducible first | exact HK.out | apply Kept.alloc | apply Kept.drewN | apply Kept.drew | refine Kept.setCell ?_ (.inr GW1648.out) _) | exact HK.out)).1) hn_)))))
  have n2_ := Aside0.mk (Kept.then_ (S := (fun k_ => P0_ k_)) (by repeat (first | (with_reducible first | exact HK.out | apply Kept.alloc | apply Kept.drewN | apply Kept.drew | refine Kept.setCell ?_ (.inr GW1648.out) _) | exact HK.out)) hkp (fun k_ hs_ => (fun e_ => (HO1660.out.1 k_ e_.symm)) hs_))
  have n3_ := Aside0.mk (hb)
  clear BK1648
  clear HK
  clear HB
  clear HO1660
  have BK1648 := n0_
  have HO1663 := n1_
  have HK := n2_
  have HB := n3_
  clear n0_ n1_ n2_ n3_
  (try clear hb)
  (try clear hkp)
  (try clear ho0)
  refine hK.out _ _ ⟨(blk_cell BK1648.out 0).trans rfl, (blk_cell BK1648.out 1).trans rfl, (blk_cell BK1648.out 2).trans rfl, (blk_cell BK1648.out 3).trans rfl, (blk_cell BK1648.out 4).trans rfl⟩ (fun hHeld => ?_)
  clear hK K
  refine norm_ (a' := ?_) ?_ ?_
  rotate_left
  · show Act.put _ (some 21) _ = _
    simp only [Act.put, List.setIfInBounds_toArray, List.set_cons_zero, List.set_cons_succ, i64_w, i32_w]
    rfl
  refine pure_ (i := 7) (N := some 4) (v := ?_) (a' := ?_) #[true, true, true, true, true, true, true, true] rfl rfl (any_of HT_.out (by kernel_rfl)) (fun _ _ _ h => h) (Or.inl ⟨by rfl, ?_⟩) ?_ ?_
  rotate_left
  · intro w'
    go_simp
    with_reducible rfl
  rotate_left
  · simp only [Act.put, List.setIfInBounds_toArray, List.set_cons_zero, List.set_cons_succ, i64_w, i32_w]
    rfl
  refine done_ (done_of HT_.out (by kernel_rfl)) ?_
  try go_wp2
  go_ret
  exact ⟨_, by first | rfl | (simp [errW_none, errW_some] <;> rfl) | (simp [*, errW_none, errW_some] <;> rfl), by (with_reducible repeat (first | apply Kd.R_alloc | apply Kd.R_drewN | apply Kd.R_drew)); exact HO1663.out, by repeat (first | (with_reducible first | exact HB.out | apply below_alloc | apply pw_below_drewN | apply below_drew1 | refine below_set ?_ GE1648.out) | exact HB.out), by repeat (first | (with_reducible first | exact HK.out | apply Kept.alloc | apply Kept.drewN | apply Kept.drew | refine Kept.setCell ?_ (.inr GW1648.out) _) | exact HK.out)⟩

theorem impl_putTx.is {out : List Int} (t : S186) (hl : out.length + (pTx t).length ≤ 60000000) : Ev (fun k => impl_putTx.f k out t.f0 t.f1 t.f2 t.f3 t.f4) (out ++ pTx t) := by
  have hp : ∀ s : ByteArray, s.size ≤ (pText s).length := fun s => by unfold pText; rw [List.length_append, bytesOf_length]; omega
  have a := hp t.f1
  have b := hp t.f2
  unfold pTx at hl
  simp only [List.length_append] at hl
  unfold impl_putTx.f pTx
  refine Ev.bind (impl_putNum.is t.f0 (by omega)) (Ev.bind (impl_putText.is t.f1 (by simp only [List.length_append]; omega)) (Ev.bind (impl_putText.is t.f2 (by simp only [List.length_append]; omega)) (Ev.bind (impl_putNum.is t.f3 (by simp only [List.length_append]; omega)) (Ev.bind (impl_putNum.is t.f4 (by simp only [List.length_append]; omega)) ?_))))
  exact Ev.is (by simp only [List.append_assoc])

/-! ### impl_putBlock: function 160 -/
mutual
def impl_putBlock.l0 : Nat → List Int → List Int → Int → Int → Int → Int → Int → ByteArray → Int → Int → List ByteArray → Int → List ByteArray → List Int → List (S186) → Bool → List (S138) → ByteArray → Option (List Int)
  | 0, _, _, _, _, _, _, _, _, _, _, _, _, _, _, _, _, _, _ => none
  | k + 1, x3, x47, x48, x49, x1665000, x1665001, x1665002, x1665003, x1665004, x1665005, x1665006, x1665007, x1665008, x1665009, x1665010, x1665011, x1665012, x1665013 => if x49 < x48 then (if 0 ≤ x49 then (if x49 < (x47.length : Int) then ((impl_putNum.f k x3 (rd x47 x49)).bind fun t1693 => (impl_putBlock.l0 k t1693 x47 x48 (wrap64 (x49 + 1)) x1665000 x1665001 x1665002 x1665003 x1665004 x1665005 x1665006 x1665007 x1665008 x1665009 x1665010 x1665011 x1665012 x1665013)) else (none)) else (none)) else ((impl_putNum.f k x3 (x1665010.length : Int)).bind fun t1696 => (impl_putBlock.l1 k t1696 x1665010 (x1665010.length : Int) 0 x1665000 x1665001 x1665002 x1665003 x1665004 x1665005 x1665006 x1665007 x1665008 x1665009 x1665010 x1665011 x1665012 x1665013))
def impl_putBlock.l1 : Nat → List Int → List (S186) → Int → Int → Int → Int → Int → ByteArray → Int → Int → List ByteArray → Int → List ByteArray → List Int → List (S186) → Bool → List (S138) → ByteArray → Option (List Int)
  | 0, _, _, _, _, _, _, _, _, _, _, _, _, _, _, _, _, _, _ => none
  | k + 1, x3, x63, x64, x65, x1665000, x1665001, x1665002, x1665003, x1665004, x1665005, x1665006, x1665007, x1665008, x1665009, x1665010, x1665011, x1665012, x1665013 => if x65 < x64 then (if 0 ≤ x65 then (if x65 < (x63.length : Int) then ((impl_putTx.f k x3 ((rd_T186 x63 x65).f0) ((rd_T186 x63 x65).f1) ((rd_T186 x63 x65).f2) ((rd_T186 x63 x65).f3) ((rd_T186 x63 x65).f4)).bind fun t1701 => (impl_putBlock.l1 k t1701 x63 x64 (wrap64 (x65 + 1)) x1665000 x1665001 x1665002 x1665003 x1665004 x1665005 x1665006 x1665007 x1665008 x1665009 x1665010 x1665011 x1665012 x1665013)) else (none)) else (none)) else (if x1665011 = true then (impl_putBlock.j2 k x3 1 x1665000 x1665001 x1665002 x1665003 x1665004 x1665005 x1665006 x1665007 x1665008 x1665009 x1665010 x1665011 x1665012 x1665013) else (impl_putBlock.j2 k x3 0 x1665000 x1665001 x1665002 x1665003 x1665004 x1665005 x1665006 x1665007 x1665008 x1665009 x1665010 x1665011 x1665012 x1665013))
def impl_putBlock.j2 : Nat → List Int → Int → Int → Int → Int → ByteArray → Int → Int → List ByteArray → Int → List ByteArray → List Int → List (S186) → Bool → List (S138) → ByteArray → Option (List Int)
  | 0, _, _, _, _, _, _, _, _, _, _, _, _, _, _, _, _ => none
  | k + 1, x3, x8, x1665000, x1665001, x1665002, x1665003, x1665004, x1665005, x1665006, x1665007, x1665008, x1665009, x1665010, x1665011, x1665012, x1665013 => (impl_putNum.f k x3 x8).bind fun t1704 => ((impl_putNum.f k t1704 (x1665012.length : Int)).bind fun t1707 => (impl_putBlock.l2 k t1707 x1665012 (x1665012.length : Int) 0 x1665000 x1665001 x1665002 x1665003 x1665004 x1665005 x1665006 x1665007 x1665008 x1665009 x1665010 x1665011 x1665012 x1665013))
def impl_putBlock.l2 : Nat → List Int → List (S138) → Int → Int → Int → Int → Int → ByteArray → Int → Int → List ByteArray → Int → List ByteArray → List Int → List (S186) → Bool → List (S138) → ByteArray → Option (List Int)
  | 0, _, _, _, _, _, _, _, _, _, _, _, _, _, _, _, _, _, _ => none
  | k + 1, x3, x83, x84, x85, x1665000, x1665001, x1665002, x1665003, x1665004, x1665005, x1665006, x1665007, x1665008, x1665009, x1665010, x1665011, x1665012, x1665013 => if x85 < x84 then (if 0 ≤ x85 then (if x85 < (x83.length : Int) then ((impl_putText.f k x3 ((rd_T138 x83 x85).f0)).bind fun t1712 => ((impl_putNum.f k t1712 ((rd_T138 x83 x85).f1)).bind fun t1715 => (impl_putBlock.l2 k t1715 x83 x84 (wrap64 (x85 + 1)) x1665000 x1665001 x1665002 x1665003 x1665004 x1665005 x1665006 x1665007 x1665008 x1665009 x1665010 x1665011 x1665012 x1665013))) else (none)) else (none)) else ((impl_putText.f k x3 x1665013).bind fun t1718 => (some t1718))
end
def impl_putBlock.f (k : Nat) (a0_0 : Int) (a0_1 : Int) (a0_2 : Int) (a0_3 : ByteArray) (a0_4 : Int) (a0_5 : Int) (l0_6 : List ByteArray) (a0_7 : Int) (l0_8 : List ByteArray) (l0_9 : List Int) (l0_10 : List (S186)) (a0_11 : Bool) (l0_12 : List (S138)) (a0_13 : ByteArray) : Option (List Int) := (impl_putNum.f k ([] : List Int) a0_0).bind fun t1665 => ((impl_putNum.f k t1665 a0_1).bind fun t1668 => ((impl_putNum.f k t1668 a0_2).bind fun t1671 => ((impl_putText.f k t1671 a0_3).bind fun t1674 => ((impl_putNum.f k t1674 a0_4).bind fun t1677 => ((impl_putNum.f k t1677 a0_5).bind fun t1680 => ((impl_putNames.f k t1680 l0_6).bind fun t1683 => ((impl_putNum.f k t1683 a0_7).bind fun t1686 => ((impl_putNames.f k t1686 l0_8).bind fun t1689 => (impl_putBlock.l0 k t1689 l0_9 (l0_9.length : Int) 0 a0_0 a0_1 a0_2 a0_3 a0_4 a0_5 l0_6 a0_7 l0_8 l0_9 l0_10 a0_11 l0_12 a0_13)))))))))
theorem impl_putBlock.mono_l : ∀ k, (∀ y0 y1 y2 y3 y4 y5 y6 y7 y8 y9 y10 y11 y12 y13 y14 y15 y16 y17, LeO (impl_putBlock.l0 k y0 y1 y2 y3 y4 y5 y6 y7 y8 y9 y10 y11 y12 y13 y14 y15 y16 y17) (impl_putBlock.l0 (k + 1) y0 y1 y2 y3 y4 y5 y6 y7 y8 y9 y10 y11 y12 y13 y14 y15 y16 y17)) ∧ (∀ y0 y1 y2 y3 y4 y5 y6 y7 y8 y9 y10 y11 y12 y13 y14 y15 y16 y17, LeO (impl_putBlock.l1 k y0 y1 y2 y3 y4 y5 y6 y7 y8 y9 y10 y11 y12 y13 y14 y15 y16 y17) (impl_putBlock.l1 (k + 1) y0 y1 y2 y3 y4 y5 y6 y7 y8 y9 y10 y11 y12 y13 y14 y15 y16 y17)) ∧ (∀ y0 y1 y2 y3 y4 y5 y6 y7 y8 y9 y10 y11 y12 y13 y14 y15, LeO (impl_putBlock.j2 k y0 y1 y2 y3 y4 y5 y6 y7 y8 y9 y10 y11 y12 y13 y14 y15) (impl_putBlock.j2 (k + 1) y0 y1 y2 y3 y4 y5 y6 y7 y8 y9 y10 y11 y12 y13 y14 y15)) ∧ (∀ y0 y1 y2 y3 y4 y5 y6 y7 y8 y9 y10 y11 y12 y13 y14 y15 y16 y17, LeO (impl_putBlock.l2 k y0 y1 y2 y3 y4 y5 y6 y7 y8 y9 y10 y11 y12 y13 y14 y15 y16 y17) (impl_putBlock.l2 (k + 1) y0 y1 y2 y3 y4 y5 y6 y7 y8 y9 y10 y11 y12 y13 y14 y15 y16 y17))
  | 0 => ⟨fun _ _ _ _ _ _ _ _ _ _ _ _ _ _ _ _ _ _ r h => by simp [impl_putBlock.l0] at h, fun _ _ _ _ _ _ _ _ _ _ _ _ _ _ _ _ _ _ r h => by simp [impl_putBlock.l1] at h, fun _ _ _ _ _ _ _ _ _ _ _ _ _ _ _ _ r h => by simp [impl_putBlock.j2] at h, fun _ _ _ _ _ _ _ _ _ _ _ _ _ _ _ _ _ _ r h => by simp [impl_putBlock.l2] at h⟩
  | k + 1 => by
    obtain ⟨ih0, ih1, ih2, ih3⟩ := impl_putBlock.mono_l k
    refine ⟨?_, ?_, ?_, ?_⟩
    · intro y0 y1 y2 y3 y4 y5 y6 y7 y8 y9 y10 y11 y12 y13 y14 y15 y16 y17
      unfold impl_putBlock.l0
      repeat' first
      | (with_reducible exact ih0 _ _ _ _ _ _ _ _ _ _ _ _ _ _ _ _ _ _)
      | (with_reducible exact ih1 _ _ _ _ _ _ _ _ _ _ _ _ _ _ _ _ _ _)
      | (with_reducible exact ih2 _ _ _ _ _ _ _ _ _ _ _ _ _ _ _ _)
      | (with_reducible exact ih3 _ _ _ _ _ _ _ _ _ _ _ _ _ _ _ _ _ _)
      | (with_reducible exact impl_putNames.mono _ _ _)
      | (with_reducible exact impl_putNum.mono _ _ _)
      | (with_reducible exact impl_putText.mono _ _ _)
      | (with_reducible exact impl_putTx.mono _ _ _ _ _ _ _)
      | (with_reducible exact LeO.refl _)
      | (with_reducible exact LeO.none _)
      | (with_reducible refine LeO.ite ?_ ?_)
      | (with_reducible refine LeO.bind ?_ (fun _ => ?_))
      | exact ih0 _ _ _ _ _ _ _ _ _ _ _ _ _ _ _ _ _ _
      | exact ih1 _ _ _ _ _ _ _ _ _ _ _ _ _ _ _ _ _ _
      | exact ih2 _ _ _ _ _ _ _ _ _ _ _ _ _ _ _ _
      | exact ih3 _ _ _ _ _ _ _ _ _ _ _ _ _ _ _ _ _ _
      | exact impl_putNames.mono _ _ _
      | exact impl_putNum.mono _ _ _
      | exact impl_putText.mono _ _ _
      | exact impl_putTx.mono _ _ _ _ _ _ _
      | exact LeO.none _
      | refine LeO.ite ?_ ?_
      | refine LeO.bind ?_ (fun _ => ?_)
    · intro y0 y1 y2 y3 y4 y5 y6 y7 y8 y9 y10 y11 y12 y13 y14 y15 y16 y17
      unfold impl_putBlock.l1
      repeat' first
      | (with_reducible exact ih0 _ _ _ _ _ _ _ _ _ _ _ _ _ _ _ _ _ _)
      | (with_reducible exact ih1 _ _ _ _ _ _ _ _ _ _ _ _ _ _ _ _ _ _)
      | (with_reducible exact ih2 _ _ _ _ _ _ _ _ _ _ _ _ _ _ _ _)
      | (with_reducible exact ih3 _ _ _ _ _ _ _ _ _ _ _ _ _ _ _ _ _ _)
      | (with_reducible exact impl_putNames.mono _ _ _)
      | (with_reducible exact impl_putNum.mono _ _ _)
      | (with_reducible exact impl_putText.mono _ _ _)
      | (with_reducible exact impl_putTx.mono _ _ _ _ _ _ _)
      | (with_reducible exact LeO.refl _)
      | (with_reducible exact LeO.none _)
      | (with_reducible refine LeO.ite ?_ ?_)
      | (with_reducible refine LeO.bind ?_ (fun _ => ?_))
      | exact ih0 _ _ _ _ _ _ _ _ _ _ _ _ _ _ _ _ _ _
      | exact ih1 _ _ _ _ _ _ _ _ _ _ _ _ _ _ _ _ _ _
      | exact ih2 _ _ _ _ _ _ _ _ _ _ _ _ _ _ _ _
      | exact ih3 _ _ _ _ _ _ _ _ _ _ _ _ _ _ _ _ _ _
      | exact impl_putNames.mono _ _ _
      | exact impl_putNum.mono _ _ _
      | exact impl_putText.mono _ _ _
      | exact impl_putTx.mono _ _ _ _ _ _ _
      | exact LeO.none _
      | refine LeO.ite ?_ ?_
      | refine LeO.bind ?_ (fun _ => ?_)
    · intro y0 y1 y2 y3 y4 y5 y6 y7 y8 y9 y10 y11 y12 y13 y14 y15
      unfold impl_putBlock.j2
      repeat' first
      | (with_reducible exact ih0 _ _ _ _ _ _ _ _ _ _ _ _ _ _ _ _ _ _)
      | (with_reducible exact ih1 _ _ _ _ _ _ _ _ _ _ _ _ _ _ _ _ _ _)
      | (with_reducible exact ih2 _ _ _ _ _ _ _ _ _ _ _ _ _ _ _ _)
      | (with_reducible exact ih3 _ _ _ _ _ _ _ _ _ _ _ _ _ _ _ _ _ _)
      | (with_reducible exact impl_putNames.mono _ _ _)
      | (with_reducible exact impl_putNum.mono _ _ _)
      | (with_reducible exact impl_putText.mono _ _ _)
      | (with_reducible exact impl_putTx.mono _ _ _ _ _ _ _)
      | (with_reducible exact LeO.refl _)
      | (with_reducible exact LeO.none _)
      | (with_reducible refine LeO.ite ?_ ?_)
      | (with_reducible refine LeO.bind ?_ (fun _ => ?_))
      | exact ih0 _ _ _ _ _ _ _ _ _ _ _ _ _ _ _ _ _ _
      | exact ih1 _ _ _ _ _ _ _ _ _ _ _ _ _ _ _ _ _ _
      | exact ih2 _ _ _ _ _ _ _ _ _ _ _ _ _ _ _ _
      | exact ih3 _ _ _ _ _ _ _ _ _ _ _ _ _ _ _ _ _ _
      | exact impl_putNames.mono _ _ _
      | exact impl_putNum.mono _ _ _
      | exact impl_putText.mono _ _ _
      | exact impl_putTx.mono _ _ _ _ _ _ _
      | exact LeO.none _
      | refine LeO.ite ?_ ?_
      | refine LeO.bind ?_ (fun _ => ?_)
    · intro y0 y1 y2 y3 y4 y5 y6 y7 y8 y9 y10 y11 y12 y13 y14 y15 y16 y17
      unfold impl_putBlock.l2
      repeat' first
      | (with_reducible exact ih0 _ _ _ _ _ _ _ _ _ _ _ _ _ _ _ _ _ _)
      | (with_reducible exact ih1 _ _ _ _ _ _ _ _ _ _ _ _ _ _ _ _ _ _)
      | (with_reducible exact ih2 _ _ _ _ _ _ _ _ _ _ _ _ _ _ _ _)
      | (with_reducible exact ih3 _ _ _ _ _ _ _ _ _ _ _ _ _ _ _ _ _ _)
      | (with_reducible exact impl_putNames.mono _ _ _)
      | (with_reducible exact impl_putNum.mono _ _ _)
      | (with_reducible exact impl_putText.mono _ _ _)
      | (with_reducible exact impl_putTx.mono _ _ _ _ _ _ _)
      | (with_reducible exact LeO.refl _)
      | (with_reducible exact LeO.none _)
      | (with_reducible refine LeO.ite ?_ ?_)
      | (with_reducible refine LeO.bind ?_ (fun _ => ?_))
      | exact ih0 _ _ _ _ _ _ _ _ _ _ _ _ _ _ _ _ _ _
      | exact ih1 _ _ _ _ _ _ _ _ _ _ _ _ _ _ _ _ _ _
      | exact ih2 _ _ _ _ _ _ _ _ _ _ _ _ _ _ _ _
      | exact ih3 _ _ _ _ _ _ _ _ _ _ _ _ _ _ _ _ _ _
      | exact impl_putNames.mono _ _ _
      | exact impl_putNum.mono _ _ _
      | exact impl_putText.mono _ _ _
      | exact impl_putTx.mono _ _ _ _ _ _ _
      | exact LeO.none _
      | refine LeO.ite ?_ ?_
      | refine LeO.bind ?_ (fun _ => ?_)
theorem impl_putBlock.mono : ∀ a0 a1 a2 a3 a4 a5 a6 a7 a8 a9 a10 a11 a12 a13 k, LeO (impl_putBlock.f k a0 a1 a2 a3 a4 a5 a6 a7 a8 a9 a10 a11 a12 a13) (impl_putBlock.f (k + 1) a0 a1 a2 a3 a4 a5 a6 a7 a8 a9 a10 a11 a12 a13) := by
  intro a0 a1 a2 a3 a4 a5 a6 a7 a8 a9 a10 a11 a12 a13 k
  obtain ⟨ih0, ih1, ih2, ih3⟩ := impl_putBlock.mono_l k
  unfold impl_putBlock.f
  repeat' first
      | (with_reducible exact ih0 _ _ _ _ _ _ _ _ _ _ _ _ _ _ _ _ _ _)
      | (with_reducible exact ih1 _ _ _ _ _ _ _ _ _ _ _ _ _ _ _ _ _ _)
      | (with_reducible exact ih2 _ _ _ _ _ _ _ _ _ _ _ _ _ _ _ _)
      | (with_reducible exact ih3 _ _ _ _ _ _ _ _ _ _ _ _ _ _ _ _ _ _)
      | (with_reducible exact impl_putNames.mono _ _ _)
      | (with_reducible exact impl_putNum.mono _ _ _)
      | (with_reducible exact impl_putText.mono _ _ _)
      | (with_reducible exact impl_putTx.mono _ _ _ _ _ _ _)
      | (with_reducible exact LeO.refl _)
      | (with_reducible exact LeO.none _)
      | (with_reducible refine LeO.ite ?_ ?_)
      | (with_reducible refine LeO.bind ?_ (fun _ => ?_))
      | exact ih0 _ _ _ _ _ _ _ _ _ _ _ _ _ _ _ _ _ _
      | exact ih1 _ _ _ _ _ _ _ _ _ _ _ _ _ _ _ _ _ _
      | exact ih2 _ _ _ _ _ _ _ _ _ _ _ _ _ _ _ _
      | exact ih3 _ _ _ _ _ _ _ _ _ _ _ _ _ _ _ _ _ _
      | exact impl_putNames.mono _ _ _
      | exact impl_putNum.mono _ _ _
      | exact impl_putText.mono _ _ _
      | exact impl_putTx.mono _ _ _ _ _ _ _
      | exact LeO.none _
      | refine LeO.ite ?_ ?_
      | refine LeO.bind ?_ (fun _ => ?_)
def impl_putBlock.T1 : Bool × List (List Nat × List Nat) := (true, [([], []), ([0], [0]), ([1], [1]), ([], []), ([3], [3]), ([2, 4, 2], [2, 4]), ([], []), ([6], [6]), ([5, 7, 5], [5, 7]), ([8, 8, 0, 1, 2, 3, 4, 5, 6, 7, 8], [8])])
def impl_putBlock.B1 : List Nat := [0, 1, 3, 0, 8, 31, 0, 64, 255, 511]
theorem impl_putBlock.tab1 : rtab .any (opsOf Try.f160 1) = impl_putBlock.T1 := by kernel_rfl
theorem impl_putBlock.bits1 : waitsOk impl_putBlock.T1.2 impl_putBlock.B1 = true := by kernel_rfl
def impl_putBlock.T2 : Bool × List (List Nat × List Nat) := (true, [([], []), ([], []), ([1], [1]), ([0, 2], [0, 2]), ([], []), ([4], [4]), ([5], [5]), ([3, 6, 3], [3, 6]), ([], []), ([8], [8]), ([9], [9]), ([7, 10, 7], [7, 10]), ([11, 11, 0, 1, 2, 3, 4, 5, 6, 7, 8, 9, 10, 11], [0, 11])])
def impl_putBlock.B2 : List Nat := [0, 0, 2, 7, 0, 16, 48, 127, 0, 256, 768, 2047, 4095]
theorem impl_putBlock.tab2 : rtab .any (opsOf Try.f160 2) = impl_putBlock.T2 := by kernel_rfl
theorem impl_putBlock.bits2 : waitsOk impl_putBlock.T2.2 impl_putBlock.B2 = true := by kernel_rfl
def impl_putBlock.T3 : Bool × List (List Nat × List Nat) := (true, [([], []), ([], []), ([1], [1]), ([2], [2]), ([0, 3], [0, 3]), ([], []), ([5], [5]), ([6], [6]), ([4, 7, 4], [4, 7]), ([], []), ([9], [9]), ([10], [10]), ([8, 11, 8], [8, 11]), ([12, 12, 0, 1, 2, 3, 4, 5, 6, 7, 8, 9, 10, 11, 12], [0, 12])])
def impl_putBlock.B3 : List Nat := [0, 0, 2, 6, 15, 0, 32, 96, 255, 0, 512, 1536, 4095, 8191]
theorem impl_putBlock.tab3 : rtab .any (opsOf Try.f160 3) = impl_putBlock.T3 := by kernel_rfl
theorem impl_putBlock.bits3 : waitsOk impl_putBlock.T3.2 impl_putBlock.B3 = true := by kernel_rfl
def impl_putBlock.T18 : Bool × List (List Nat × List Nat) := (true, [([], []), ([], []), ([0, 1], [0, 1]), ([], []), ([3], [3]), ([4], [4]), ([2, 5, 2], [2, 5]), ([6, 6, 0, 1, 2, 3, 4, 5, 6], [0, 6])])
def impl_putBlock.B18 : List Nat := [0, 0, 3, 0, 8, 24, 63, 127]
theorem impl_putBlock.tab18 : rtab .any (opsOf Try.f160 18) = impl_putBlock.T18 := by kernel_rfl
theorem impl_putBlock.bits18 : waitsOk impl_putBlock.T18.2 impl_putBlock.B18 = true := by kernel_rfl
def impl_putBlock.T22 : Bool × List (List Nat × List Nat) := (true, [([], []), ([], []), ([1], [1]), ([0, 2], [0, 2]), ([], []), ([4], [4]), ([3, 5, 3], [3, 5]), ([6, 6, 0, 1, 2, 3, 4, 5, 6], [0, 6])])
def impl_putBlock.B22 : List Nat := [0, 0, 2, 7, 0, 16, 63, 127]
theorem impl_putBlock.tab22 : rtab .any (opsOf Try.f160 22) = impl_putBlock.T22 := by kernel_rfl
theorem impl_putBlock.bits22 : waitsOk impl_putBlock.T22.2 impl_putBlock.B22 = true := by kernel_rfl
set_option maxHeartbeats 8000000 in
set_option maxRecDepth 100000 in
theorem impl_putBlock.calls (k : Nat) (a0_0 : Int) (a0_1 : Int) (a0_2 : Int) (a0_3 : ByteArray) (a0_4 : Int) (a0_5 : Int) (A0_6 : Option Addr) (c0_6 : Nat) (l0_6 : List ByteArray) (a0_7 : Int) (A0_8 : Option Addr) (c0_8 : Nat) (l0_8 : List ByteArray) (A0_9 : Option Addr) (c0_9 : Nat) (l0_9 : List Int) (A0_10 : Option Addr) (c0_10 : Nat) (l0_10 : List (S186)) (a0_11 : Bool) (A0_12 : Option Addr) (c0_12 : Nat) (l0_12 : List (S138)) (a0_13 : ByteArray) (r : List Int) (w : World) (hr0_6 : Kd.C Kd.string w A0_6 l0_6.length l0_6) (hc0_6 : l0_6.length ≤ c0_6) (hr0_8 : Kd.C Kd.string w A0_8 l0_8.length l0_8) (hc0_8 : l0_8.length ≤ c0_8) (hr0_9 : Kd.C (Kd.int .i64) w A0_9 l0_9.length l0_9) (hc0_9 : l0_9.length ≤ c0_9) (hr0_10 : Kd.C k186 w A0_10 l0_10.length l0_10) (hc0_10 : l0_10.length ≤ c0_10) (hr0_12 : Kd.C k138 w A0_12 l0_12.length l0_12) (hc0_12 : l0_12.length ≤ c0_12) (h : impl_putBlock.f k a0_0 a0_1 a0_2 a0_3 a0_4 a0_5 l0_6 a0_7 l0_8 l0_9 l0_10 a0_11 l0_12 a0_13 = some r) :
    Calls Try.prog 160 #[.agg #[.int .i64 a0_0, .int .i64 a0_1, .int .i64 a0_2, .string a0_3, .int .i64 a0_4, .int .i64 a0_5, .slice A0_6 l0_6.length c0_6, .int .i64 a0_7, .slice A0_8 l0_8.length c0_8, .slice A0_9 l0_9.length c0_9, .slice A0_10 l0_10.length c0_10, .bool a0_11, .slice A0_12 l0_12.length c0_12, .string a0_13]] w fun e w' => ∃ v0_ : Value, e = .returned (v0_) ∧ Kd.R (Kd.int .u8) 5 w' w.heap.size (fun _ => True) v0_ r ∧ Below w.heap.size w w' := by
  have hu113 := Try.underlying113
  have hu186 := Try.underlying186
  have hu138 := Try.underlying138
  have HR0_6 := Aside0.mk hr0_6
  have HC0_6 := Aside0.mk hc0_6
  clear hr0_6 hc0_6
  have HR0_8 := Aside0.mk hr0_8
  have HC0_8 := Aside0.mk hc0_8
  clear hr0_8 hc0_8
  have HR0_9 := Aside0.mk hr0_9
  have HC0_9 := Aside0.mk hc0_9
  clear hr0_9 hc0_9
  have HR0_10 := Aside0.mk hr0_10
  have HC0_10 := Aside0.mk hc0_10
  clear hr0_10 hc0_10
  have HR0_12 := Aside0.mk hr0_12
  have HC0_12 := Aside0.mk hc0_12
  clear hr0_12 hc0_12
  have HB := Aside0.mk (Below.refl w.heap.size w)
  have H : ((impl_putNum.f k ([] : List Int) a0_0).bind fun t1665 => ((impl_putNum.f k t1665 a0_1).bind fun t1668 => ((impl_putNum.f k t1668 a0_2).bind fun t1671 => ((impl_putText.f k t1671 a0_3).bind fun t1674 => ((impl_putNum.f k t1674 a0_4).bind fun t1677 => ((impl_putNum.f k t1677 a0_5).bind fun t1680 => ((impl_putNames.f k t1680 l0_6).bind fun t1683 => ((impl_putNum.f k t1683 a0_7).bind fun t1686 => ((impl_putNames.f k t1686 l0_8).bind fun t1689 => (impl_putBlock.l0 k t1689 l0_9 (l0_9.length : Int) 0 a0_0 a0_1 a0_2 a0_3 a0_4 a0_5 l0_6 a0_7 l0_8 l0_9 l0_10 a0_11 l0_12 a0_13)))))))))) = some r := h
  clear h
  replace H := Option.bind_eq_some_iff.mp H
  obtain ⟨t1665, A20, H⟩ := H
  replace H : ((impl_putNum.f k t1665 a0_1).bind fun t1668 => ((impl_putNum.f k t1668 a0_2).bind fun t1671 => ((impl_putText.f k t1671 a0_3).bind fun t1674 => ((impl_putNum.f k t1674 a0_4).bind fun t1677 => ((impl_putNum.f k t1677 a0_5).bind fun t1680 => ((impl_putNames.f k t1680 l0_6).bind fun t1683 => ((impl_putNum.f k t1683 a0_7).bind fun t1686 => ((impl_putNames.f k t1686 l0_8).bind fun t1689 => (impl_putBlock.l0 k t1689 l0_9 (l0_9.length : Int) 0 a0_0 a0_1 a0_2 a0_3 a0_4 a0_5 l0_6 a0_7 l0_8 l0_9 l0_10 a0_11 l0_12 a0_13))))))))) = some r := H
  have A2 := Aside0.mk A20
  clear A20
  replace H := Option.bind_eq_some_iff.mp H
  obtain ⟨t1668, A30, H⟩ := H
  replace H : ((impl_putNum.f k t1668 a0_2).bind fun t1671 => ((impl_putText.f k t1671 a0_3).bind fun t1674 => ((impl_putNum.f k t1674 a0_4).bind fun t1677 => ((impl_putNum.f k t1677 a0_5).bind fun t1680 => ((impl_putNames.f k t1680 l0_6).bind fun t1683 => ((impl_putNum.f k t1683 a0_7).bind fun t1686 => ((impl_putNames.f k t1686 l0_8).bind fun t1689 => (impl_putBlock.l0 k t1689 l0_9 (l0_9.length : Int) 0 a0_0 a0_1 a0_2 a0_3 a0_4 a0_5 l0_6 a0_7 l0_8 l0_9 l0_10 a0_11 l0_12 a0_13)))))))) = some r := H
  have A3 := Aside0.mk A30
  clear A30
  replace H := Option.bind_eq_some_iff.mp H
  obtain ⟨t1671, A40, H⟩ := H
  replace H : ((impl_putText.f k t1671 a0_3).bind fun t1674 => ((impl_putNum.f k t1674 a0_4).bind fun t1677 => ((impl_putNum.f k t1677 a0_5).bind fun t1680 => ((impl_putNames.f k t1680 l0_6).bind fun t1683 => ((impl_putNum.f k t1683 a0_7).bind fun t1686 => ((impl_putNames.f k t1686 l0_8).bind fun t1689 => (impl_putBlock.l0 k t1689 l0_9 (l0_9.length : Int) 0 a0_0 a0_1 a0_2 a0_3 a0_4 a0_5 l0_6 a0_7 l0_8 l0_9 l0_10 a0_11 l0_12 a0_13))))))) = some r := H
  have A4 := Aside0.mk A40
  clear A40
  replace H := Option.bind_eq_some_iff.mp H
  obtain ⟨t1674, A50, H⟩ := H
  replace H : ((impl_putNum.f k t1674 a0_4).bind fun t1677 => ((impl_putNum.f k t1677 a0_5).bind fun t1680 => ((impl_putNames.f k t1680 l0_6).bind fun t1683 => ((impl_putNum.f k t1683 a0_7).bind fun t1686 => ((impl_putNames.f k t1686 l0_8).bind fun t1689 => (impl_putBlock.l0 k t1689 l0_9 (l0_9.length : Int) 0 a0_0 a0_1 a0_2 a0_3 a0_4 a0_5 l0_6 a0_7 l0_8 l0_9 l0_10 a0_11 l0_12 a0_13)))))) = some r := H
  have A5 := Aside0.mk A50
  clear A50
  replace H := Option.bind_eq_some_iff.mp H
  obtain ⟨t1677, A60, H⟩ := H
  replace H : ((impl_putNum.f k t1677 a0_5).bind fun t1680 => ((impl_putNames.f k t1680 l0_6).bind fun t1683 => ((impl_putNum.f k t1683 a0_7).bind fun t1686 => ((impl_putNames.f k t1686 l0_8).bind fun t1689 => (impl_putBlock.l0 k t1689 l0_9 (l0_9.length : Int) 0 a0_0 a0_1 a0_2 a0_3 a0_4 a0_5 l0_6 a0_7 l0_8 l0_9 l0_10 a0_11 l0_12 a0_13))))) = some r := H
  have A6 := Aside0.mk A60
  clear A60
  replace H := Option.bind_eq_some_iff.mp H
  obtain ⟨t1680, A70, H⟩ := H
  replace H : ((impl_putNames.f k t1680 l0_6).bind fun t1683 => ((impl_putNum.f k t1683 a0_7).bind fun t1686 => ((impl_putNames.f k t1686 l0_8).bind fun t1689 => (impl_putBlock.l0 k t1689 l0_9 (l0_9.length : Int) 0 a0_0 a0_1 a0_2 a0_3 a0_4 a0_5 l0_6 a0_7 l0_8 l0_9 l0_10 a0_11 l0_12 a0_13)))) = some r := H
  have A7 := Aside0.mk A70
  clear A70
  replace H := Option.bind_eq_some_iff.mp H
  obtain ⟨t1683, A80, H⟩ := H
  replace H : ((impl_putNum.f k t1683 a0_7).bind fun t1686 => ((impl_putNames.f k t1686 l0_8).bind fun t1689 => (impl_putBlock.l0 k t1689 l0_9 (l0_9.length : Int) 0 a0_0 a0_1 a0_2 a0_3 a0_4 a0_5 l0_6 a0_7 l0_8 l0_9 l0_10 a0_11 l0_12 a0_13))) = some r := H
  have A8 := Aside0.mk A80
  clear A80
  replace H := Option.bind_eq_some_iff.mp H
  obtain ⟨t1686, A90, H⟩ := H
  replace H : ((impl_putNames.f k t1686 l0_8).bind fun t1689 => (impl_putBlock.l0 k t1689 l0_9 (l0_9.length : Int) 0 a0_0 a0_1 a0_2 a0_3 a0_4 a0_5 l0_6 a0_7 l0_8 l0_9 l0_10 a0_11 l0_12 a0_13)) = some r := H
  have A9 := Aside0.mk A90
  clear A90
  replace H := Option.bind_eq_some_iff.mp H
  obtain ⟨t1689, A100, H⟩ := H
  replace H : (impl_putBlock.l0 k t1689 l0_9 (l0_9.length : Int) 0 a0_0 a0_1 a0_2 a0_3 a0_4 a0_5 l0_6 a0_7 l0_8 l0_9 l0_10 a0_11 l0_12 a0_13) = some r := H
  have A10 := Aside0.mk A100
  clear A100
  have H' := Aside0.mk H
  clear H
  go_enter Try.func160, Try.ntmps160
  try go_wp2_with (first | ((with_reducible refine gate_dst (N := 1) rfl ?_); refine box_event ?hg (N := 1) ?hd (cs := #[.int .i64 a0_0, .int .i64 a0_1, .int .i64 a0_2, .string a0_3, .int .i64 a0_4, .int .i64 a0_5, .slice A0_6 l0_6.length c0_6, .int .i64 a0_7, .slice A0_8 l0_8.length c0_8, .slice A0_9 l0_9.length c0_9, .slice A0_10 l0_10.length c0_10, .bool a0_11, .slice A0_12 l0_12.length c0_12, .string a0_13]) (t := 113) ?hr ?_; (case hd => rfl); (case hg => rfl); (case hr => first | (go_simp; done) | (go_simp; rfl)); intro gb1664 hg w11 hbox hb; have n0_ := Aside0.mk (below_step (by repeat (first | (with_reducible first | exact HB.out | apply below_alloc | apply pw_below_drewN | apply below_drew1) | exact HB.out)) hb); have n1_ := Aside0.mk (hbox); have n2_ := Aside0.mk ((by rw [hg]; exact (below_size (by repeat (first | (with_reducible first | exact HB.out | apply below_alloc | apply pw_below_drewN | apply below_drew1) | exact HB.out))) : w.heap.size ≤ gb1664)); have n3_ := n2_; clear HB; have HB := n0_; have BK1664 := n1_; have GW1664 := n2_; have GE1664 := n3_; clear n0_ n1_ n2_ n3_; clear hb hbox hg))
  have n0_ := Aside0.mk (blk_drew BK1664.out)
  have n1_ := Aside0.mk (below_drew1 HB.out)
  clear BK1664
  clear HB
  have BK1664 := n0_
  have HB := n1_
  clear n0_ n1_
  refine start_ (n := 10) (S := fun w' => w'.cell? ⟨gb1664, 0, none⟩ = some (.int .i64 a0_0) ∧ w'.cell? ⟨gb1664, 1, none⟩ = some (.int .i64 a0_1) ∧ w'.cell? ⟨gb1664, 2, none⟩ = some (.int .i64 a0_2) ∧ w'.cell? ⟨gb1664, 3, none⟩ = some (.string a0_3) ∧ w'.cell? ⟨gb1664, 4, none⟩ = some (.int .i64 a0_4) ∧ w'.cell? ⟨gb1664, 5, none⟩ = some (.int .i64 a0_5) ∧ w'.cell? ⟨gb1664, 6, none⟩ = some (.slice A0_6 l0_6.length c0_6) ∧ w'.cell? ⟨gb1664, 7, none⟩ = some (.int .i64 a0_7) ∧ w'.cell? ⟨gb1664, 8, none⟩ = some (.slice A0_8 l0_8.length c0_8) ∧ w'.cell? ⟨gb1664, 9, none⟩ = some (.slice A0_9 l0_9.length c0_9) ∧ w'.cell? ⟨gb1664, 10, none⟩ = some (.slice A0_10 l0_10.length c0_10) ∧ w'.cell? ⟨gb1664, 11, none⟩ = some (.bool a0_11) ∧ w'.cell? ⟨gb1664, 12, none⟩ = some (.slice A0_12 l0_12.length c0_12) ∧ w'.cell? ⟨gb1664, 13, none⟩ = some (.string a0_13)) (ds := []) #[false, false, false, false, false, false, false, false, false, false] (by kernel_rfl) rfl rfl ⟨(blk_cell BK1664.out 0).trans rfl, (blk_cell BK1664.out 1).trans rfl, (blk_cell BK1664.out 2).trans rfl, (blk_cell BK1664.out 3).trans rfl, (blk_cell BK1664.out 4).trans rfl, (blk_cell BK1664.out 5).trans rfl, (blk_cell BK1664.out 6).trans rfl, (blk_cell BK1664.out 7).trans rfl, (blk_cell BK1664.out 8).trans rfl, (blk_cell BK1664.out 9).trans rfl, (blk_cell BK1664.out 10).trans rfl, (blk_cell BK1664.out 11).trans rfl, (blk_cell BK1664.out 12).trans rfl, (blk_cell BK1664.out 13).trans rfl⟩ (fun hHeld => ?_); refine with_tabW impl_putBlock.tab1 impl_putBlock.bits1 (fun HT_ HW_ => ?_)
  generalize w11.drew = w12 at BK1664 HB hHeld ⊢
  refine pure_ (i := 0) (N := some 11) (v := ?_) (a' := ?_) #[true, false, false, false, false, false, false, false, false, false] rfl rfl (any_of HT_.out (by kernel_rfl)) (fun _ _ _ h => h) (Or.inl ⟨by rfl, ?_⟩) ?_ ?_
  rotate_left
  · intro w'
    go_simp
    with_reducible rfl
  rotate_left
  · simp only [Act.put, List.setIfInBounds_toArray, List.set_cons_zero, List.set_cons_succ, i64_w, i32_w]
    rfl
  refine pure_ (i := 3) (N := some 14) (v := ?_) (a' := ?_) #[true, false, false, true, false, false, false, false, false, false] rfl rfl (any_of HT_.out (by kernel_rfl)) (fun _ _ _ h => h) (Or.inl ⟨by rfl, ?_⟩) ?_ ?_
  rotate_left
  · intro w'
    go_simp
    with_reducible rfl
  rotate_left
  · simp only [Act.put, List.setIfInBounds_toArray, List.set_cons_zero, List.set_cons_succ, i64_w, i32_w]
    rfl
  refine pure_ (i := 6) (N := some 17) (v := ?_) (a' := ?_) #[true, false, false, true, false, false, true, false, false, false] rfl rfl (any_of HT_.out (by kernel_rfl)) (fun _ _ _ h => h) (Or.inl ⟨by rfl, ?_⟩) ?_ ?_
  rotate_left
  · intro w'
    go_simp
    with_reducible rfl
  rotate_left
  · simp only [Act.put, List.setIfInBounds_toArray, List.set_cons_zero, List.set_cons_succ, i64_w, i32_w]
    rfl
  refine take_ (i := 1) (N := some 12) (v := ?_) (a' := ?_) #[true, true, false, true, false, false, true, false, false, false] rfl rfl (take_ofW HT_.out HW_.out (by kernel_rfl)) (fun _ _ _ h => h) (Or.inl ⟨by rfl, ?_⟩) hHeld ?_ ?_
  rotate_left
  · rintro w' ⟨s0, s1, s2, s3, s4, s5, s6, s7, s8, s9, s10, s11, s12, s13⟩
    go_simp
    with_reducible rfl
  rotate_left
  · simp only [Act.put, List.setIfInBounds_toArray, List.set_cons_zero, List.set_cons_succ, i64_w, i32_w]
    rfl
  refine take_ (i := 4) (N := some 15) (v := ?_) (a' := ?_) #[true, true, false, true, true, false, true, false, false, false] rfl rfl (take_ofW HT_.out HW_.out (by kernel_rfl)) (fun _ _ _ h => h) (Or.inl ⟨by rfl, ?_⟩) hHeld ?_ ?_
  rotate_left
  · rintro w' ⟨s0, s1, s2, s3, s4, s5, s6, s7, s8, s9, s10, s11, s12, s13⟩
    go_simp
    with_reducible rfl
  rotate_left
  · simp only [Act.put, List.setIfInBounds_toArray, List.set_cons_zero, List.set_cons_succ, i64_w, i32_w]
    rfl
  refine take_ (i := 7) (N := some 18) (v := ?_) (a' := ?_) #[true, true, false, true, true, false, true, true, false, false] rfl rfl (take_ofW HT_.out HW_.out (by kernel_rfl)) (fun _ _ _ h => h) (Or.inl ⟨by rfl, ?_⟩) hHeld ?_ ?_
  rotate_left
  · rintro w' ⟨s0, s1, s2, s3, s4, s5, s6, s7, s8, s9, s10, s11, s12, s13⟩
    go_simp
    with_reducible rfl
  rotate_left
  · simp only [Act.put, List.setIfInBounds_toArray, List.set_cons_zero, List.set_cons_succ, i64_w, i32_w]
    rfl
  refine one_ (i := 2) (N := some 13) #[true, true, true, true, true, false, true, true, false, false] rfl rfl (one_of HT_.out (by kernel_rfl)) (by decide) (fun K hK => ?_)
  refine goes_ Try.func202 (by kernel_rfl) rfl #[.slice none 0 0, .int .i64 a0_0] (by rfl) rfl rfl (by (try simp only [List.map_toArray, List.map_cons, List.map_nil]); first | done | rfl | (simp only [List.length_drop, List.length_take]; rfl)) ?_
  refine (impl_putNum.calls k (fun k_ => some k_ = (.slice none 0 0 : Value).ownBlock) (.slice none 0 0) ([] : List Int) a0_0 t1665 w _ ?side1 ?side2 A2.out).mono ?_
  (case side1 => repeat (first | (with_reducible first | exact HB.out | apply below_alloc | apply pw_below_drewN | apply below_drew1 | refine below_set ?_ GE1664.out) | exact HB.out))
  (case side2 => exact Kd.R_nil _ _ _ _ _)
  rintro e w13 ⟨v1666, rfl, ho0, hb, hkp⟩
  refine ⟨_, rfl, ?_⟩
  have n0_ := Aside0.mk (blk_kept (by (with_reducible repeat (first | refine blk_drewN ?_ _ | refine blk_drew ?_ | refine blk_alloc ?_ _)); exact BK1664.out) hkp (fun hs_ => (fun e_ => by simp [Value.ownBlock] at e_) hs_))
  have n1_ := Aside0.mk (Kd.R_mono (ok' := fun k_ => True) ho0 (fun k_ hk_ => trivial))
  have n2_ := Aside0.mk (hb)
  clear BK1664
  clear HB
  have BK1664 := n0_
  have HO1667 := n1_
  have HB := n2_
  clear n0_ n1_ n2_
  (try clear hb)
  (try clear hkp)
  (try clear ho0)
  obtain ⟨Ao14, co14, eo14⟩ := Kd.R_slice HO1667.out
  (first | subst eo14 | (injection eo14 with f1_ f2_ f3_; have f4_ := f1_.symm; have f5_ := f3_.symm; clear f1_ f2_ f3_; subst f4_; subst f5_))
  refine hK.out _ _ ⟨(blk_cell BK1664.out 0).trans rfl, (blk_cell BK1664.out 1).trans rfl, (blk_cell BK1664.out 2).trans rfl, (blk_cell BK1664.out 3).trans rfl, (blk_cell BK1664.out 4).trans rfl, (blk_cell BK1664.out 5).trans rfl, (blk_cell BK1664.out 6).trans rfl, (blk_cell BK1664.out 7).trans rfl, (blk_cell BK1664.out 8).trans rfl, (blk_cell BK1664.out 9).trans rfl, (blk_cell BK1664.out 10).trans rfl, (blk_cell BK1664.out 11).trans rfl, (blk_cell BK1664.out 12).trans rfl, (blk_cell BK1664.out 13).trans rfl⟩ (fun hHeld => ?_)
  clear hK K
  refine norm_ (a' := ?_) ?_ ?_
  rotate_left
  · show Act.put _ (some 13) _ = _
    simp only [Act.put, List.setIfInBounds_toArray, List.set_cons_zero, List.set_cons_succ, i64_w, i32_w]
    rfl
  refine one_ (i := 5) (N := some 16) #[true, true, true, true, true, true, true, true, false, false] rfl rfl (one_of HT_.out (by kernel_rfl)) (by decide) (fun K hK => ?_)
  refine goes_ Try.func202 (by kernel_rfl) rfl #[.slice Ao14 t1665.length co14, .int .i64 a0_1] (by rfl) rfl rfl (by (try simp only [List.map_toArray, List.map_cons, List.map_nil]); first | done | rfl | (simp only [List.length_drop, List.length_take]; rfl)) ?_
  with_reducible refine (impl_putNum.calls k (fun k_ => some k_ = (.slice Ao14 t1665.length co14 : Value).ownBlock) (.slice Ao14 t1665.length co14) t1665 a0_1 t1668 w _ ?side1 ?side2 A3.out).mono ?_
  (case side1 => repeat (first | (with_reducible first | exact HB.out | apply below_alloc | apply pw_below_drewN | apply below_drew1 | refine below_set ?_ GE1664.out) | exact HB.out))
  (case side2 => exact Kd.R_tight rfl HO1667.out)
  rintro e w15 ⟨v1669, rfl, ho0, hb, hkp⟩
  refine ⟨_, rfl, ?_⟩
  have n0_ := Aside0.mk (blk_kept (by (with_reducible repeat (first | refine blk_drewN ?_ _ | refine blk_drew ?_ | refine blk_alloc ?_ _)); exact BK1664.out) hkp (fun hs_ => (fun e_ => (Kd.R_ne HO1667.out BK1664.out (by decide)) e_) hs_))
  have n1_ := Aside0.mk (Kd.R_mono (ok' := fun k_ => True) ho0 (fun k_ hk_ => trivial))
  have n2_ := Aside0.mk (hb)
  clear BK1664
  clear HB
  clear HO1667
  have BK1664 := n0_
  have HO1670 := n1_
  have HB := n2_
  clear n0_ n1_ n2_
  (try clear hb)
  (try clear hkp)
  (try clear ho0)
  obtain ⟨Ao16, co16, eo16⟩ := Kd.R_slice HO1670.out
  (first | subst eo16 | (injection eo16 with f1_ f2_ f3_; have f4_ := f1_.symm; have f5_ := f3_.symm; clear f1_ f2_ f3_; subst f4_; subst f5_))
  refine hK.out _ _ ⟨(blk_cell BK1664.out 0).trans rfl, (blk_cell BK1664.out 1).trans rfl, (blk_cell BK1664.out 2).trans rfl, (blk_cell BK1664.out 3).trans rfl, (blk_cell BK1664.out 4).trans rfl, (blk_cell BK1664.out 5).trans rfl, (blk_cell BK1664.out 6).trans rfl, (blk_cell BK1664.out 7).trans rfl, (blk_cell BK1664.out 8).trans rfl, (blk_cell BK1664.out 9).trans rfl, (blk_cell BK1664.out 10).trans rfl, (blk_cell BK1664.out 11).trans rfl, (blk_cell BK1664.out 12).trans rfl, (blk_cell BK1664.out 13).trans rfl⟩ (fun hHeld => ?_)
  clear hK K
  refine norm_ (a' := ?_) ?_ ?_
  rotate_left
  · show Act.put _ (some 16) _ = _
    simp only [Act.put, List.setIfInBounds_toArray, List.set_cons_zero, List.set_cons_succ, i64_w, i32_w]
    rfl
  refine one_ (i := 8) (N := some 19) #[true, true, true, true, true, true, true, true, true, false] rfl rfl (one_of HT_.out (by kernel_rfl)) (by decide) (fun K hK => ?_)
  refine goes_ Try.func202 (by kernel_rfl) rfl #[.slice Ao16 t1668.length co16, .int .i64 a0_2] (by rfl) rfl rfl (by (try simp only [List.map_toArray, List.map_cons, List.map_nil]); first | done | rfl | (simp only [List.length_drop, List.length_take]; rfl)) ?_
  with_reducible refine (impl_putNum.calls k (fun k_ => some k_ = (.slice Ao16 t1668.length co16 : Value).ownBlock) (.slice Ao16 t1668.length co16) t1668 a0_2 t1671 w _ ?side1 ?side2 A4.out).mono ?_
  (case side1 => repeat (first | (with_reducible first | exact HB.out | apply below_alloc | apply pw_below_drewN | apply below_drew1 | refine below_set ?_ GE1664.out) | exact HB.out))
  (case side2 => exact Kd.R_tight rfl HO1670.out)
  rintro e w17 ⟨v1672, rfl, ho0, hb, hkp⟩
  refine ⟨_, rfl, ?_⟩
  have n0_ := Aside0.mk (blk_kept (by (with_reducible repeat (first | refine blk_drewN ?_ _ | refine blk_drew ?_ | refine blk_alloc ?_ _)); exact BK1664.out) hkp (fun hs_ => (fun e_ => (Kd.R_ne HO1670.out BK1664.out (by decide)) e_) hs_))
  have n1_ := Aside0.mk (Kd.R_mono (ok' := fun k_ => True) ho0 (fun k_ hk_ => trivial))
  have n2_ := Aside0.mk (hb)
  clear BK1664
  clear HB
  clear HO1670
  have BK1664 := n0_
  have HO1673 := n1_
  have HB := n2_
  clear n0_ n1_ n2_
  (try clear hb)
  (try clear hkp)
  (try clear ho0)
  refine hK.out _ _ ⟨(blk_cell BK1664.out 0).trans rfl, (blk_cell BK1664.out 1).trans rfl, (blk_cell BK1664.out 2).trans rfl, (blk_cell BK1664.out 3).trans rfl, (blk_cell BK1664.out 4).trans rfl, (blk_cell BK1664.out 5).trans rfl, (blk_cell BK1664.out 6).trans rfl, (blk_cell BK1664.out 7).trans rfl, (blk_cell BK1664.out 8).trans rfl, (blk_cell BK1664.out 9).trans rfl, (blk_cell BK1664.out 10).trans rfl, (blk_cell BK1664.out 11).trans rfl, (blk_cell BK1664.out 12).trans rfl, (blk_cell BK1664.out 13).trans rfl⟩ (fun hHeld => ?_)
  clear hK K
  refine norm_ (a' := ?_) ?_ ?_
  rotate_left
  · show Act.put _ (some 19) _ = _
    simp only [Act.put, List.setIfInBounds_toArray, List.set_cons_zero, List.set_cons_succ, i64_w, i32_w]
    rfl
  refine pure_ (i := 9) (N := some 3) (v := ?_) (a' := ?_) #[true, true, true, true, true, true, true, true, true, true] rfl rfl (any_of HT_.out (by kernel_rfl)) (fun _ _ _ h => h) (Or.inl ⟨by rfl, ?_⟩) ?_ ?_
  rotate_left
  · intro w'
    go_simp
    with_reducible rfl
  rotate_left
  · simp only [Act.put, List.setIfInBounds_toArray, List.set_cons_zero, List.set_cons_succ, i64_w, i32_w]
    rfl
  refine done_ (done_of HT_.out (by kernel_rfl)) ?_
  try go_wp2
  have n0_ := Aside0.mk (Kd.R_drew HO1673.out)
  have n1_ := Aside0.mk (blk_drew BK1664.out)
  have n2_ := Aside0.mk (below_drew1 HB.out)
  clear HO1673
  clear BK1664
  clear HB
  have HO1673 := n0_
  have BK1664 := n1_
  have HB := n2_
  clear n0_ n1_ n2_
  obtain ⟨Ao19, co19, eo19⟩ := Kd.R_slice HO1673.out
  (first | subst eo19 | (injection eo19 with f1_ f2_ f3_; have f4_ := f1_.symm; have f5_ := f3_.symm; clear f1_ f2_ f3_; subst f4_; subst f5_))
  refine start_ (n := 13) (S := fun w' => w'.cell? ⟨gb1664, 0, none⟩ = some (.int .i64 a0_0) ∧ w'.cell? ⟨gb1664, 1, none⟩ = some (.int .i64 a0_1) ∧ w'.cell? ⟨gb1664, 2, none⟩ = some (.int .i64 a0_2) ∧ w'.cell? ⟨gb1664, 3, none⟩ = some (.string a0_3) ∧ w'.cell? ⟨gb1664, 4, none⟩ = some (.int .i64 a0_4) ∧ w'.cell? ⟨gb1664, 5, none⟩ = some (.int .i64 a0_5) ∧ w'.cell? ⟨gb1664, 6, none⟩ = some (.slice A0_6 l0_6.length c0_6) ∧ w'.cell? ⟨gb1664, 7, none⟩ = some (.int .i64 a0_7) ∧ w'.cell? ⟨gb1664, 8, none⟩ = some (.slice A0_8 l0_8.length c0_8) ∧ w'.cell? ⟨gb1664, 9, none⟩ = some (.slice A0_9 l0_9.length c0_9) ∧ w'.cell? ⟨gb1664, 10, none⟩ = some (.slice A0_10 l0_10.length c0_10) ∧ w'.cell? ⟨gb1664, 11, none⟩ = some (.bool a0_11) ∧ w'.cell? ⟨gb1664, 12, none⟩ = some (.slice A0_12 l0_12.length c0_12) ∧ w'.cell? ⟨gb1664, 13, none⟩ = some (.string a0_13)) (ds := []) #[false, false, false, false, false, false, false, false, false, false, false, false, false] (by kernel_rfl) rfl rfl ⟨(blk_cell BK1664.out 0).trans rfl, (blk_cell BK1664.out 1).trans rfl, (blk_cell BK1664.out 2).trans rfl, (blk_cell BK1664.out 3).trans rfl, (blk_cell BK1664.out 4).trans rfl, (blk_cell BK1664.out 5).trans rfl, (blk_cell BK1664.out 6).trans rfl, (blk_cell BK1664.out 7).trans rfl, (blk_cell BK1664.out 8).trans rfl, (blk_cell BK1664.out 9).trans rfl, (blk_cell BK1664.out 10).trans rfl, (blk_cell BK1664.out 11).trans rfl, (blk_cell BK1664.out 12).trans rfl, (blk_cell BK1664.out 13).trans rfl⟩ (fun hHeld => ?_); refine with_tabW impl_putBlock.tab2 impl_putBlock.bits2 (fun HT_ HW_ => ?_)
  generalize w17.drew = w18 at HO1673 BK1664 HB hHeld ⊢
  refine pure_ (i := 0) (N := some 20) (v := ?_) (a' := ?_) #[true, false, false, false, false, false, false, false, false, false, false, false, false] rfl rfl (any_of HT_.out (by kernel_rfl)) (fun _ _ _ h => h) (Or.inl ⟨by rfl, ?_⟩) ?_ ?_
  rotate_left
  · intro w'
    go_simp
    with_reducible rfl
  rotate_left
  · simp only [Act.put, List.setIfInBounds_toArray, List.set_cons_zero, List.set_cons_succ, i64_w, i32_w]
    rfl
  refine pure_ (i := 1) (N := some 21) (v := ?_) (a' := ?_) #[true, true, false, false, false, false, false, false, false, false, false, false, false] rfl rfl (any_of HT_.out (by kernel_rfl)) (fun _ _ _ h => h) (Or.inl ⟨by rfl, ?_⟩) ?_ ?_
  rotate_left
  · intro w'
    go_simp
    with_reducible rfl
  rotate_left
  · simp only [Act.put, List.setIfInBounds_toArray, List.set_cons_zero, List.set_cons_succ, i64_w, i32_w]
    rfl
  refine pure_ (i := 4) (N := some 24) (v := ?_) (a' := ?_) #[true, true, false, false, true, false, false, false, false, false, false, false, false] rfl rfl (any_of HT_.out (by kernel_rfl)) (fun _ _ _ h => h) (Or.inl ⟨by rfl, ?_⟩) ?_ ?_
  rotate_left
  · intro w'
    go_simp
    with_reducible rfl
  rotate_left
  · simp only [Act.put, List.setIfInBounds_toArray, List.set_cons_zero, List.set_cons_succ, i64_w, i32_w]
    rfl
  refine pure_ (i := 5) (N := some 25) (v := ?_) (a' := ?_) #[true, true, false, false, true, true, false, false, false, false, false, false, false] rfl rfl (any_of HT_.out (by kernel_rfl)) (fun _ _ _ h => h) (Or.inl ⟨by rfl, ?_⟩) ?_ ?_
  rotate_left
  · intro w'
    go_simp
    with_reducible rfl
  rotate_left
  · simp only [Act.put, List.setIfInBounds_toArray, List.set_cons_zero, List.set_cons_succ, i64_w, i32_w]
    rfl
  refine pure_ (i := 8) (N := some 28) (v := ?_) (a' := ?_) #[true, true, false, false, true, true, false, false, true, false, false, false, false] rfl rfl (any_of HT_.out (by kernel_rfl)) (fun _ _ _ h => h) (Or.inl ⟨by rfl, ?_⟩) ?_ ?_
  rotate_left
  · intro w'
    go_simp
    with_reducible rfl
  rotate_left
  · simp only [Act.put, List.setIfInBounds_toArray, List.set_cons_zero, List.set_cons_succ, i64_w, i32_w]
    rfl
  refine pure_ (i := 9) (N := some 29) (v := ?_) (a' := ?_) #[true, true, false, false, true, true, false, false, true, true, false, false, false] rfl rfl (any_of HT_.out (by kernel_rfl)) (fun _ _ _ h => h) (Or.inl ⟨by rfl, ?_⟩) ?_ ?_
  rotate_left
  · intro w'
    go_simp
    with_reducible rfl
  rotate_left
  · simp only [Act.put, List.setIfInBounds_toArray, List.set_cons_zero, List.set_cons_succ, i64_w, i32_w]
    rfl
  refine take_ (i := 2) (N := some 22) (v := ?_) (a' := ?_) #[true, true, true, false, true, true, false, false, true, true, false, false, false] rfl rfl (take_ofW HT_.out HW_.out (by kernel_rfl)) (fun _ _ _ h => h) (Or.inl ⟨by rfl, ?_⟩) hHeld ?_ ?_
  rotate_left
  · rintro w' ⟨s0, s1, s2, s3, s4, s5, s6, s7, s8, s9, s10, s11, s12, s13⟩
    go_simp
    with_reducible rfl
  rotate_left
  · simp only [Act.put, List.setIfInBounds_toArray, List.set_cons_zero, List.set_cons_succ, i64_w, i32_w]
    rfl
  refine take_ (i := 6) (N := some 26) (v := ?_) (a' := ?_) #[true, true, true, false, true, true, true, false, true, true, false, false, false] rfl rfl (take_ofW HT_.out HW_.out (by kernel_rfl)) (fun _ _ _ h => h) (Or.inl ⟨by rfl, ?_⟩) hHeld ?_ ?_
  rotate_left
  · rintro w' ⟨s0, s1, s2, s3, s4, s5, s6, s7, s8, s9, s10, s11, s12, s13⟩
    go_simp
    with_reducible rfl
  rotate_left
  · simp only [Act.put, List.setIfInBounds_toArray, List.set_cons_zero, List.set_cons_succ, i64_w, i32_w]
    rfl
  refine take_ (i := 10) (N := some 30) (v := ?_) (a' := ?_) #[true, true, true, false, true, true, true, false, true, true, true, false, false] rfl rfl (take_ofW HT_.out HW_.out (by kernel_rfl)) (fun _ _ _ h => h) (Or.inl ⟨by rfl, ?_⟩) hHeld ?_ ?_
  rotate_left
  · rintro w' ⟨s0, s1, s2, s3, s4, s5, s6, s7, s8, s9, s10, s11, s12, s13⟩
    go_simp
    with_reducible rfl
  rotate_left
  · simp only [Act.put, List.setIfInBounds_toArray, List.set_cons_zero, List.set_cons_succ, i64_w, i32_w]
    rfl
  refine one_ (i := 3) (N := some 23) #[true, true, true, true, true, true, true, false, true, true, true, false, false] rfl rfl (one_of HT_.out (by kernel_rfl)) (by decide) (fun K hK => ?_)
  refine goes_ Try.func203 (by kernel_rfl) rfl #[.slice Ao19 t1671.length co19, .string a0_3] (by rfl) rfl rfl (by (try simp only [List.map_toArray, List.map_cons, List.map_nil]); first | done | rfl | (simp only [List.length_drop, List.length_take]; rfl)) ?_
  with_reducible refine (impl_putText.calls k (fun k_ => some k_ = (.slice Ao19 t1671.length co19 : Value).ownBlock) (.slice Ao19 t1671.length co19) t1671 a0_3 t1674 w _ ?side1 ?side2 A5.out).mono ?_
  (case side1 => repeat (first | (with_reducible first | exact HB.out | apply below_alloc | apply pw_below_drewN | apply below_drew1 | refine below_set ?_ GE1664.out) | exact HB.out))
  (case side2 => exact Kd.R_tight rfl HO1673.out)
  rintro e w20 ⟨v1675, rfl, ho0, hb, hkp⟩
  refine ⟨_, rfl, ?_⟩
  have n0_ := Aside0.mk (blk_kept (by (with_reducible repeat (first | refine blk_drewN ?_ _ | refine blk_drew ?_ | refine blk_alloc ?_ _)); exact BK1664.out) hkp (fun hs_ => (fun e_ => (Kd.R_ne HO1673.out BK1664.out (by decide)) e_) hs_))
  have n1_ := Aside0.mk (Kd.R_mono (ok' := fun k_ => True) ho0 (fun k_ hk_ => trivial))
  have n2_ := Aside0.mk (hb)
  clear BK1664
  clear HB
  clear HO1673
  have BK1664 := n0_
  have HO1676 := n1_
  have HB := n2_
  clear n0_ n1_ n2_
  (try clear hb)
  (try clear hkp)
  (try clear ho0)
  obtain ⟨Ao21, co21, eo21⟩ := Kd.R_slice HO1676.out
  (first | subst eo21 | (injection eo21 with f1_ f2_ f3_; have f4_ := f1_.symm; have f5_ := f3_.symm; clear f1_ f2_ f3_; subst f4_; subst f5_))
  refine hK.out _ _ ⟨(blk_cell BK1664.out 0).trans rfl, (blk_cell BK1664.out 1).trans rfl, (blk_cell BK1664.out 2).trans rfl, (blk_cell BK1664.out 3).trans rfl, (blk_cell BK1664.out 4).trans rfl, (blk_cell BK1664.out 5).trans rfl, (blk_cell BK1664.out 6).trans rfl, (blk_cell BK1664.out 7).trans rfl, (blk_cell BK1664.out 8).trans rfl, (blk_cell BK1664.out 9).trans rfl, (blk_cell BK1664.out 10).trans rfl, (blk_cell BK1664.out 11).trans rfl, (blk_cell BK1664.out 12).trans rfl, (blk_cell BK1664.out 13).trans rfl⟩ (fun hHeld => ?_)
  clear hK K
  refine norm_ (a' := ?_) ?_ ?_
  rotate_left
  · show Act.put _ (some 23) _ = _
    simp only [Act.put, List.setIfInBounds_toArray, List.set_cons_zero, List.set_cons_succ, i64_w, i32_w]
    rfl
  refine one_ (i := 7) (N := some 27) #[true, true, true, true, true, true, true, true, true, true, true, false, false] rfl rfl (one_of HT_.out (by kernel_rfl)) (by decide) (fun K hK => ?_)
  refine goes_ Try.func202 (by kernel_rfl) rfl #[.slice Ao21 t1674.length co21, .int .i64 a0_4] (by rfl) rfl rfl (by (try simp only [List.map_toArray, List.map_cons, List.map_nil]); first | done | rfl | (simp only [List.length_drop, List.length_take]; rfl)) ?_
  with_reducible refine (impl_putNum.calls k (fun k_ => some k_ = (.slice Ao21 t1674.length co21 : Value).ownBlock) (.slice Ao21 t1674.length co21) t1674 a0_4 t1677 w _ ?side1 ?side2 A6.out).mono ?_
  (case side1 => repeat (first | (with_reducible first | exact HB.out | apply below_alloc | apply pw_below_drewN | apply below_drew1 | refine below_set ?_ GE1664.out) | exact HB.out))
  (case side2 => exact Kd.R_tight rfl HO1676.out)
  rintro e w22 ⟨v1678, rfl, ho0, hb, hkp⟩
  refine ⟨_, rfl, ?_⟩
  have n0_ := Aside0.mk (blk_kept (by (with_reducible repeat (first | refine blk_drewN ?_ _ | refine blk_drew ?_ | refine blk_alloc ?_ _)); exact BK1664.out) hkp (fun hs_ => (fun e_ => (Kd.R_ne HO1676.out BK1664.out (by decide)) e_) hs_))
  have n1_ := Aside0.mk (Kd.R_mono (ok' := fun k_ => True) ho0 (fun k_ hk_ => trivial))
  have n2_ := Aside0.mk (hb)
  clear BK1664
  clear HB
  clear HO1676
  have BK1664 := n0_
  have HO1679 := n1_
  have HB := n2_
  clear n0_ n1_ n2_
  (try clear hb)
  (try clear hkp)
  (try clear ho0)
  obtain ⟨Ao23, co23, eo23⟩ := Kd.R_slice HO1679.out
  (first | subst eo23 | (injection eo23 with f1_ f2_ f3_; have f4_ := f1_.symm; have f5_ := f3_.symm; clear f1_ f2_ f3_; subst f4_; subst f5_))
  refine hK.out _ _ ⟨(blk_cell BK1664.out 0).trans rfl, (blk_cell BK1664.out 1).trans rfl, (blk_cell BK1664.out 2).trans rfl, (blk_cell BK1664.out 3).trans rfl, (blk_cell BK1664.out 4).trans rfl, (blk_cell BK1664.out 5).trans rfl, (blk_cell BK1664.out 6).trans rfl, (blk_cell BK1664.out 7).trans rfl, (blk_cell BK1664.out 8).trans rfl, (blk_cell BK1664.out 9).trans rfl, (blk_cell BK1664.out 10).trans rfl, (blk_cell BK1664.out 11).trans rfl, (blk_cell BK1664.out 12).trans rfl, (blk_cell BK1664.out 13).trans rfl⟩ (fun hHeld => ?_)
  clear hK K
  refine norm_ (a' := ?_) ?_ ?_
  rotate_left
  · show Act.put _ (some 27) _ = _
    simp only [Act.put, List.setIfInBounds_toArray, List.set_cons_zero, List.set_cons_succ, i64_w, i32_w]
    rfl
  refine one_ (i := 11) (N := some 31) #[true, true, true, true, true, true, true, true, true, true, true, true, false] rfl rfl (one_of HT_.out (by kernel_rfl)) (by decide) (fun K hK => ?_)
  refine goes_ Try.func202 (by kernel_rfl) rfl #[.slice Ao23 t1677.length co23, .int .i64 a0_5] (by rfl) rfl rfl (by (try simp only [List.map_toArray, List.map_cons, List.map_nil]); first | done | rfl | (simp only [List.length_drop, List.length_take]; rfl)) ?_
  with_reducible refine (impl_putNum.calls k (fun k_ => some k_ = (.slice Ao23 t1677.length co23 : Value).ownBlock) (.slice Ao23 t1677.length co23) t1677 a0_5 t1680 w _ ?side1 ?side2 A7.out).mono ?_
  (case side1 => repeat (first | (with_reducible first | exact HB.out | apply below_alloc | apply pw_below_drewN | apply below_drew1 | refine below_set ?_ GE1664.out) | exact HB.out))
  (case side2 => exact Kd.R_tight rfl HO1679.out)
  rintro e w24 ⟨v1681, rfl, ho0, hb, hkp⟩
  refine ⟨_, rfl, ?_⟩
  have n0_ := Aside0.mk (blk_kept (by (with_reducible repeat (first | refine blk_drewN ?_ _ | refine blk_drew ?_ | refine blk_alloc ?_ _)); exact BK1664.out) hkp (fun hs_ => (fun e_ => (Kd.R_ne HO1679.out BK1664.out (by decide)) e_) hs_))
  have n1_ := Aside0.mk (Kd.R_mono (ok' := fun k_ => True) ho0 (fun k_ hk_ => trivial))
  have n2_ := Aside0.mk (hb)
  clear BK1664
  clear HB
  clear HO1679
  have BK1664 := n0_
  have HO1682 := n1_
  have HB := n2_
  clear n0_ n1_ n2_
  (try clear hb)
  (try clear hkp)
  (try clear ho0)
  refine hK.out _ _ ⟨(blk_cell BK1664.out 0).trans rfl, (blk_cell BK1664.out 1).trans rfl, (blk_cell BK1664.out 2).trans rfl, (blk_cell BK1664.out 3).trans rfl, (blk_cell BK1664.out 4).trans rfl, (blk_cell BK1664.out 5).trans rfl, (blk_cell BK1664.out 6).trans rfl, (blk_cell BK1664.out 7).trans rfl, (blk_cell BK1664.out 8).trans rfl, (blk_cell BK1664.out 9).trans rfl, (blk_cell BK1664.out 10).trans rfl, (blk_cell BK1664.out 11).trans rfl, (blk_cell BK1664.out 12).trans rfl, (blk_cell BK1664.out 13).trans rfl⟩ (fun hHeld => ?_)
  clear hK K
  refine norm_ (a' := ?_) ?_ ?_
  rotate_left
  · show Act.put _ (some 31) _ = _
    simp only [Act.put, List.setIfInBounds_toArray, List.set_cons_zero, List.set_cons_succ, i64_w, i32_w]
    rfl
  refine pure_ (i := 12) (N := some 3) (v := ?_) (a' := ?_) #[true, true, true, true, true, true, true, true, true, true, true, true, true] rfl rfl (any_of HT_.out (by kernel_rfl)) (fun _ _ _ h => h) (Or.inl ⟨by rfl, ?_⟩) ?_ ?_
  rotate_left
  · intro w'
    go_simp
    with_reducible rfl
  rotate_left
  · simp only [Act.put, List.setIfInBounds_toArray, List.set_cons_zero, List.set_cons_succ, i64_w, i32_w]
    rfl
  refine done_ (done_of HT_.out (by kernel_rfl)) ?_
  try go_wp2
  have n0_ := Aside0.mk (Kd.R_drew HO1682.out)
  have n1_ := Aside0.mk (blk_drew BK1664.out)
  have n2_ := Aside0.mk (below_drew1 HB.out)
  clear HO1682
  clear BK1664
  clear HB
  have HO1682 := n0_
  have BK1664 := n1_
  have HB := n2_
  clear n0_ n1_ n2_
  obtain ⟨Ao26, co26, eo26⟩ := Kd.R_slice HO1682.out
  (first | subst eo26 | (injection eo26 with f1_ f2_ f3_; have f4_ := f1_.symm; have f5_ := f3_.symm; clear f1_ f2_ f3_; subst f4_; subst f5_))
  refine start_ (n := 14) (S := fun w' => w'.cell? ⟨gb1664, 0, none⟩ = some (.int .i64 a0_0) ∧ w'.cell? ⟨gb1664, 1, none⟩ = some (.int .i64 a0_1) ∧ w'.cell? ⟨gb1664, 2, none⟩ = some (.int .i64 a0_2) ∧ w'.cell? ⟨gb1664, 3, none⟩ = some (.string a0_3) ∧ w'.cell? ⟨gb1664, 4, none⟩ = some (.int .i64 a0_4) ∧ w'.cell? ⟨gb1664, 5, none⟩ = some (.int .i64 a0_5) ∧ w'.cell? ⟨gb1664, 6, none⟩ = some (.slice A0_6 l0_6.length c0_6) ∧ w'.cell? ⟨gb1664, 7, none⟩ = some (.int .i64 a0_7) ∧ w'.cell? ⟨gb1664, 8, none⟩ = some (.slice A0_8 l0_8.length c0_8) ∧ w'.cell? ⟨gb1664, 9, none⟩ = some (.slice A0_9 l0_9.length c0_9) ∧ w'.cell? ⟨gb1664, 10, none⟩ = some (.slice A0_10 l0_10.length c0_10) ∧ w'.cell? ⟨gb1664, 11, none⟩ = some (.bool a0_11) ∧ w'.cell? ⟨gb1664, 12, none⟩ = some (.slice A0_12 l0_12.length c0_12) ∧ w'.cell? ⟨gb1664, 13, none⟩ = some (.string a0_13)) (ds := []) #[false, false, false, false, false, false, false, false, false, false, false, false, false, false] (by kernel_rfl) rfl rfl ⟨(blk_cell BK1664.out 0).trans rfl, (blk_cell BK1664.out 1).trans rfl, (blk_cell BK1664.out 2).trans rfl, (blk_cell BK1664.out 3).trans rfl, (blk_cell BK1664.out 4).trans rfl, (blk_cell BK1664.out 5).trans rfl, (blk_cell BK1664.out 6).trans rfl, (blk_cell BK1664.out 7).trans rfl, (blk_cell BK1664.out 8).trans rfl, (blk_cell BK1664.out 9).trans rfl, (blk_cell BK1664.out 10).trans rfl, (blk_cell BK1664.out 11).trans rfl, (blk_cell BK1664.out 12).trans rfl, (blk_cell BK1664.out 13).trans rfl⟩ (fun hHeld => ?_); refine with_tabW impl_putBlock.tab3 impl_putBlock.bits3 (fun HT_ HW_ => ?_)
  generalize w24.drew = w25 at HO1682 BK1664 HB hHeld ⊢
  refine pure_ (i := 0) (N := some 32) (v := ?_) (a' := ?_) #[true, false, false, false, false, false, false, false, false, false, false, false, false, false] rfl rfl (any_of HT_.out (by kernel_rfl)) (fun _ _ _ h => h) (Or.inl ⟨by rfl, ?_⟩) ?_ ?_
  rotate_left
  · intro w'
    go_simp
    with_reducible rfl
  rotate_left
  · simp only [Act.put, List.setIfInBounds_toArray, List.set_cons_zero, List.set_cons_succ, i64_w, i32_w]
    rfl
  refine pure_ (i := 1) (N := some 33) (v := ?_) (a' := ?_) #[true, true, false, false, false, false, false, false, false, false, false, false, false, false] rfl rfl (any_of HT_.out (by kernel_rfl)) (fun _ _ _ h => h) (Or.inl ⟨by rfl, ?_⟩) ?_ ?_
  rotate_left
  · intro w'
    go_simp
    with_reducible rfl
  rotate_left
  · simp only [Act.put, List.setIfInBounds_toArray, List.set_cons_zero, List.set_cons_succ, i64_w, i32_w]
    rfl
  refine pure_ (i := 2) (N := some 34) (v := ?_) (a' := ?_) #[true, true, true, false, false, false, false, false, false, false, false, false, false, false] rfl rfl (any_of HT_.out (by kernel_rfl)) (fun _ _ _ h => h) (Or.inl ⟨by rfl, ?_⟩) ?_ ?_
  rotate_left
  · intro w'
    go_simp
    with_reducible rfl
  rotate_left
  · simp only [Act.put, List.setIfInBounds_toArray, List.set_cons_zero, List.set_cons_succ, i64_w, i32_w]
    rfl
  refine pure_ (i := 5) (N := some 37) (v := ?_) (a' := ?_) #[true, true, true, false, false, true, false, false, false, false, false, false, false, false] rfl rfl (any_of HT_.out (by kernel_rfl)) (fun _ _ _ h => h) (Or.inl ⟨by rfl, ?_⟩) ?_ ?_
  rotate_left
  · intro w'
    go_simp
    with_reducible rfl
  rotate_left
  · simp only [Act.put, List.setIfInBounds_toArray, List.set_cons_zero, List.set_cons_succ, i64_w, i32_w]
    rfl
  refine pure_ (i := 6) (N := some 38) (v := ?_) (a' := ?_) #[true, true, true, false, false, true, true, false, false, false, false, false, false, false] rfl rfl (any_of HT_.out (by kernel_rfl)) (fun _ _ _ h => h) (Or.inl ⟨by rfl, ?_⟩) ?_ ?_
  rotate_left
  · intro w'
    go_simp
    with_reducible rfl
  rotate_left
  · simp only [Act.put, List.setIfInBounds_toArray, List.set_cons_zero, List.set_cons_succ, i64_w, i32_w]
    rfl
  refine pure_ (i := 9) (N := some 41) (v := ?_) (a' := ?_) #[true, true, true, false, false, true, true, false, false, true, false, false, false, false] rfl rfl (any_of HT_.out (by kernel_rfl)) (fun _ _ _ h => h) (Or.inl ⟨by rfl, ?_⟩) ?_ ?_
  rotate_left
  · intro w'
    go_simp
    with_reducible rfl
  rotate_left
  · simp only [Act.put, List.setIfInBounds_toArray, List.set_cons_zero, List.set_cons_succ, i64_w, i32_w]
    rfl
  refine pure_ (i := 10) (N := some 42) (v := ?_) (a' := ?_) #[true, true, true, false, false, true, true, false, false, true, true, false, false, false] rfl rfl (any_of HT_.out (by kernel_rfl)) (fun _ _ _ h => h) (Or.inl ⟨by rfl, ?_⟩) ?_ ?_
  rotate_left
  · intro w'
    go_simp
    with_reducible rfl
  rotate_left
  · simp only [Act.put, List.setIfInBounds_toArray, List.set_cons_zero, List.set_cons_succ, i64_w, i32_w]
    rfl
  refine take_ (i := 3) (N := some 35) (v := ?_) (a' := ?_) #[true, true, true, true, false, true, true, false, false, true, true, false, false, false] rfl rfl (take_ofW HT_.out HW_.out (by kernel_rfl)) (fun _ _ _ h => h) (Or.inl ⟨by rfl, ?_⟩) hHeld ?_ ?_
  rotate_left
  · rintro w' ⟨s0, s1, s2, s3, s4, s5, s6, s7, s8, s9, s10, s11, s12, s13⟩
    go_simp
    with_reducible rfl
  rotate_left
  · simp only [Act.put, List.setIfInBounds_toArray, List.set_cons_zero, List.set_cons_succ, i64_w, i32_w]
    rfl
  refine take_ (i := 7) (N := some 39) (v := ?_) (a' := ?_) #[true, true, true, true, false, true, true, true, false, true, true, false, false, false] rfl rfl (take_ofW HT_.out HW_.out (by kernel_rfl)) (fun _ _ _ h => h) (Or.inl ⟨by rfl, ?_⟩) hHeld ?_ ?_
  rotate_left
  · rintro w' ⟨s0, s1, s2, s3, s4, s5, s6, s7, s8, s9, s10, s11, s12, s13⟩
    go_simp
    with_reducible rfl
  rotate_left
  · simp only [Act.put, List.setIfInBounds_toArray, List.set_cons_zero, List.set_cons_succ, i64_w, i32_w]
    rfl
  refine take_ (i := 11) (N := some 43) (v := ?_) (a' := ?_) #[true, true, true, true, false, true, true, true, false, true, true, true, false, false] rfl rfl (take_ofW HT_.out HW_.out (by kernel_rfl)) (fun _ _ _ h => h) (Or.inl ⟨by rfl, ?_⟩) hHeld ?_ ?_
  rotate_left
  · rintro w' ⟨s0, s1, s2, s3, s4, s5, s6, s7, s8, s9, s10, s11, s12, s13⟩
    go_simp
    with_reducible rfl
  rotate_left
  · simp only [Act.put, List.setIfInBounds_toArray, List.set_cons_zero, List.set_cons_succ, i64_w, i32_w]
    rfl
  refine one_ (i := 4) (N := some 36) #[true, true, true, true, true, true, true, true, false, true, true, true, false, false] rfl rfl (one_of HT_.out (by kernel_rfl)) (by decide) (fun K hK => ?_)
  refine goes_ Try.func204 (by kernel_rfl) rfl #[.slice Ao26 t1680.length co26, .slice A0_6 l0_6.length c0_6] (by rfl) rfl rfl (by (try simp only [List.map_toArray, List.map_cons, List.map_nil]); first | done | rfl | (simp only [List.length_drop, List.length_take]; rfl)) ?_
  with_reducible refine (impl_putNames.calls k (fun k_ => some k_ = (.slice Ao26 t1680.length co26 : Value).ownBlock) (.slice Ao26 t1680.length co26) t1680 _ _ l0_6 t1683 w _ ?side1 ?side2 ?side3 ?side4 A8.out).mono ?_
  (case side1 => repeat (first | (with_reducible first | exact HB.out | apply below_alloc | apply pw_below_drewN | apply below_drew1 | refine below_set ?_ GE1664.out) | exact HB.out))
  (case side2 => exact Kd.R_tight rfl HO1682.out)
  (case side3 => exact Kd.C_kept_came Kd.heap_string HR0_6.out (by repeat (first | (with_reducible first | exact HB.out | apply below_alloc | apply pw_below_drewN | apply below_drew1 | refine below_set ?_ GE1664.out) | exact HB.out)) (fun k_ hs_ => (fun e_ => Kd.R_base HO1682.out k_ e_.symm) hs_))
  (case side4 => exact HC0_6.out)
  rintro e w27 ⟨v1684, rfl, ho0, hb, hkp⟩
  refine ⟨_, rfl, ?_⟩
  have n0_ := Aside0.mk (blk_kept (by (with_reducible repeat (first | refine blk_drewN ?_ _ | refine blk_drew ?_ | refine blk_alloc ?_ _)); exact BK1664.out) hkp (fun hs_ => (fun e_ => (Kd.R_ne HO1682.out BK1664.out (by decide)) e_) hs_))
  have n1_ := Aside0.mk (Kd.R_mono (ok' := fun k_ => True) ho0 (fun k_ hk_ => trivial))
  have n2_ := Aside0.mk (hb)
  clear BK1664
  clear HB
  clear HO1682
  have BK1664 := n0_
  have HO1685 := n1_
  have HB := n2_
  clear n0_ n1_ n2_
  (try clear hb)
  (try clear hkp)
  (try clear ho0)
  obtain ⟨Ao28, co28, eo28⟩ := Kd.R_slice HO1685.out
  (first | subst eo28 | (injection eo28 with f1_ f2_ f3_; have f4_ := f1_.symm; have f5_ := f3_.symm; clear f1_ f2_ f3_; subst f4_; subst f5_))
  refine hK.out _ _ ⟨(blk_cell BK1664.out 0).trans rfl, (blk_cell BK1664.out 1).trans rfl, (blk_cell BK1664.out 2).trans rfl, (blk_cell BK1664.out 3).trans rfl, (blk_cell BK1664.out 4).trans rfl, (blk_cell BK1664.out 5).trans rfl, (blk_cell BK1664.out 6).trans rfl, (blk_cell BK1664.out 7).trans rfl, (blk_cell BK1664.out 8).trans rfl, (blk_cell BK1664.out 9).trans rfl, (blk_cell BK1664.out 10).trans rfl, (blk_cell BK1664.out 11).trans rfl, (blk_cell BK1664.out 12).trans rfl, (blk_cell BK1664.out 13).trans rfl⟩ (fun hHeld => ?_)
  clear hK K
  refine norm_ (a' := ?_) ?_ ?_
  rotate_left
  · show Act.put _ (some 36) _ = _
    simp only [Act.put, List.setIfInBounds_toArray, List.set_cons_zero, List.set_cons_succ, i64_w, i32_w]
    rfl
  refine one_ (i := 8) (N := some 40) #[true, true, true, true, true, true, true, true, true, true, true, true, false, false] rfl rfl (one_of HT_.out (by kernel_rfl)) (by decide) (fun K hK => ?_)
  refine goes_ Try.func202 (by kernel_rfl) rfl #[.slice Ao28 t1683.length co28, .int .i64 a0_7] (by rfl) rfl rfl (by (try simp only [List.map_toArray, List.map_cons, List.map_nil]); first | done | rfl | (simp only [List.length_drop, List.length_take]; rfl)) ?_
  with_reducible refine (impl_putNum.calls k (fun k_ => some k_ = (.slice Ao28 t1683.length co28 : Value).ownBlock) (.slice Ao28 t1683.length co28) t1683 a0_7 t1686 w _ ?side1 ?side2 A9.out).mono ?_
  (case side1 => repeat (first | (with_reducible first | exact HB.out | apply below_alloc | apply pw_below_drewN | apply below_drew1 | refine below_set ?_ GE1664.out) | exact HB.out))
  (case side2 => exact Kd.R_tight rfl HO1685.out)
  rintro e w29 ⟨v1687, rfl, ho0, hb, hkp⟩
  refine ⟨_, rfl, ?_⟩
  have n0_ := Aside0.mk (blk_kept (by (with_reducible repeat (first | refine blk_drewN ?_ _ | refine blk_drew ?_ | refine blk_alloc ?_ _)); exact BK1664.out) hkp (fun hs_ => (fun e_ => (Kd.R_ne HO1685.out BK1664.out (by decide)) e_) hs_))
  have n1_ := Aside0.mk (Kd.R_mono (ok' := fun k_ => True) ho0 (fun k_ hk_ => trivial))
  have n2_ := Aside0.mk (hb)
  clear BK1664
  clear HB
  clear HO1685
  have BK1664 := n0_
  have HO1688 := n1_
  have HB := n2_
  clear n0_ n1_ n2_
  (try clear hb)
  (try clear hkp)
  (try clear ho0)
  obtain ⟨Ao30, co30, eo30⟩ := Kd.R_slice HO1688.out
  (first | subst eo30 | (injection eo30 with f1_ f2_ f3_; have f4_ := f1_.symm; have f5_ := f3_.symm; clear f1_ f2_ f3_; subst f4_; subst f5_))
  refine hK.out _ _ ⟨(blk_cell BK1664.out 0).trans rfl, (blk_cell BK1664.out 1).trans rfl, (blk_cell BK1664.out 2).trans rfl, (blk_cell BK1664.out 3).trans rfl, (blk_cell BK1664.out 4).trans rfl, (blk_cell BK1664.out 5).trans rfl, (blk_cell BK1664.out 6).trans rfl, (blk_cell BK1664.out 7).trans rfl, (blk_cell BK1664.out 8).trans rfl, (blk_cell BK1664.out 9).trans rfl, (blk_cell BK1664.out 10).trans rfl, (blk_cell BK1664.out 11).trans rfl, (blk_cell BK1664.out 12).trans rfl, (blk_cell BK1664.out 13).trans rfl⟩ (fun hHeld => ?_)
  clear hK K
  refine norm_ (a' := ?_) ?_ ?_
  rotate_left
  · show Act.put _ (some 40) _ = _
    simp only [Act.put, List.setIfInBounds_toArray, List.set_cons_zero, List.set_cons_succ, i64_w, i32_w]
    rfl
  refine one_ (i := 12) (N := some 44) #[true, true, true, true, true, true, true, true, true, true, true, true, true, false] rfl rfl (one_of HT_.out (by kernel_rfl)) (by decide) (fun K hK => ?_)
  refine goes_ Try.func204 (by kernel_rfl) rfl #[.slice Ao30 t1686.length co30, .slice A0_8 l0_8.length c0_8] (by rfl) rfl rfl (by (try simp only [List.map_toArray, List.map_cons, List.map_nil]); first | done | rfl | (simp only [List.length_drop, List.length_take]; rfl)) ?_
  with_reducible refine (impl_putNames.calls k (fun k_ => some k_ = (.slice Ao30 t1686.length co30 : Value).ownBlock) (.slice Ao30 t1686.length co30) t1686 _ _ l0_8 t1689 w _ ?side1 ?side2 ?side3 ?side4 A10.out).mono ?_
  (case side1 => repeat (first | (with_reducible first | exact HB.out | apply below_alloc | apply pw_below_drewN | apply below_drew1 | refine below_set ?_ GE1664.out) | exact HB.out))
  (case side2 => exact Kd.R_tight rfl HO1688.out)
  (case side3 => exact Kd.C_kept_came Kd.heap_string HR0_8.out (by repeat (first | (with_reducible first | exact HB.out | apply below_alloc | apply pw_below_drewN | apply below_drew1 | refine below_set ?_ GE1664.out) | exact HB.out)) (fun k_ hs_ => (fun e_ => Kd.R_base HO1688.out k_ e_.symm) hs_))
  (case side4 => exact HC0_8.out)
  rintro e w31 ⟨v1690, rfl, ho0, hb, hkp⟩
  refine ⟨_, rfl, ?_⟩
  have n0_ := Aside0.mk (blk_kept (by (with_reducible repeat (first | refine blk_drewN ?_ _ | refine blk_drew ?_ | refine blk_alloc ?_ _)); exact BK1664.out) hkp (fun hs_ => (fun e_ => (Kd.R_ne HO1688.out BK1664.out (by decide)) e_) hs_))
  have n1_ := Aside0.mk (Kd.R_mono (ok' := fun k_ => True) ho0 (fun k_ hk_ => trivial))
  have n2_ := Aside0.mk (hb)
  clear BK1664
  clear HB
  clear HO1688
  have BK1664 := n0_
  have HO1691 := n1_
  have HB := n2_
  clear n0_ n1_ n2_
  (try clear hb)
  (try clear hkp)
  (try clear ho0)
  refine hK.out _ _ ⟨(blk_cell BK1664.out 0).trans rfl, (blk_cell BK1664.out 1).trans rfl, (blk_cell BK1664.out 2).trans rfl, (blk_cell BK1664.out 3).trans rfl, (blk_cell BK1664.out 4).trans rfl, (blk_cell BK1664.out 5).trans rfl, (blk_cell BK1664.out 6).trans rfl, (blk_cell BK1664.out 7).trans rfl, (blk_cell BK1664.out 8).trans rfl, (blk_cell BK1664.out 9).trans rfl, (blk_cell BK1664.out 10).trans rfl, (blk_cell BK1664.out 11).trans rfl, (blk_cell BK1664.out 12).trans rfl, (blk_cell BK1664.out 13).trans rfl⟩ (fun hHeld => ?_)
  clear hK K
  refine norm_ (a' := ?_) ?_ ?_
  rotate_left
  · show Act.put _ (some 44) _ = _
    simp only [Act.put, List.setIfInBounds_toArray, List.set_cons_zero, List.set_cons_succ, i64_w, i32_w]
    rfl
  refine pure_ (i := 13) (N := some 3) (v := ?_) (a' := ?_) #[true, true, true, true, true, true, true, true, true, true, true, true, true, true] rfl rfl (any_of HT_.out (by kernel_rfl)) (fun _ _ _ h => h) (Or.inl ⟨by rfl, ?_⟩) ?_ ?_
  rotate_left
  · intro w'
    go_simp
    with_reducible rfl
  rotate_left
  · simp only [Act.put, List.setIfInBounds_toArray, List.set_cons_zero, List.set_cons_succ, i64_w, i32_w]
    rfl
  refine done_ (done_of HT_.out (by kernel_rfl)) ?_
  obtain ⟨hcz32_0, hcz32_1, hcz32_2, hcz32_3, hcz32_4, hcz32_5, hcz32_6, hcz32_7, hcz32_8, hcz32_9, hcz32_10, hcz32_11, hcz32_12, hcz32_13⟩ := cells14 BK1664.out
  obtain ⟨hfz32_0, hfz32_1, hfz32_2, hfz32_3, hfz32_4, hfz32_5, hfz32_6, hfz32_7, hfz32_8, hfz32_9, hfz32_10, hfz32_11, hfz32_12, hfz32_13⟩ := frozens14 BK1664.out
  try go_wp2
  go_loopg [3, 49] k (fun kq v3 v49 w' => ∃ (x3_1 : List Int) (x49_1 : Int), v49 = .int .i64 x49_1 ∧ Aside0 (impl_putBlock.l0 kq x3_1 l0_9 (l0_9.length : Int) x49_1 a0_0 a0_1 a0_2 a0_3 a0_4 a0_5 l0_6 a0_7 l0_8 l0_9 l0_10 a0_11 l0_12 a0_13 = some r) ∧ Aside0 (kq ≤ k) ∧ Aside0 (Kd.R (Kd.int .u8) 5 w' w.heap.size (fun _ => True) v3 x3_1) ∧ Aside0 (w'.heap[gb1664]? = some (.cells #[.int .i64 a0_0, .int .i64 a0_1, .int .i64 a0_2, .string a0_3, .int .i64 a0_4, .int .i64 a0_5, (.slice A0_6 l0_6.length c0_6), .int .i64 a0_7, (.slice A0_8 l0_8.length c0_8), (.slice A0_9 l0_9.length c0_9), (.slice A0_10 l0_10.length c0_10), .bool a0_11, (.slice A0_12 l0_12.length c0_12), .string a0_13] 113 (0, 0))) ∧ Aside0 (Below w.heap.size w w'))
  case atStart => exact ⟨(t1689), (0), (by first | rfl | (simp; done) | (simp [*]; done)), H', ⟨Nat.le_refl _⟩, ⟨by (with_reducible repeat (first | apply Kd.R_alloc | apply Kd.R_drewN | apply Kd.R_drew)); exact HO1691.out⟩, ⟨by (with_reducible repeat (first | refine blk_drewN ?_ _ | refine blk_drew ?_ | refine blk_alloc ?_ _)); exact BK1664.out⟩, ⟨by repeat (first | (with_reducible first | exact HB.out | apply below_alloc | apply pw_below_drewN | apply below_drew1 | refine below_set ?_ GE1664.out) | exact HB.out)⟩⟩
  case round =>
    clear H'
    try clear c1
    try clear c2
    try clear p2
    try clear c16
    try clear c20
    try clear hcz32_0
    try clear hcz32_1
    try clear hcz32_10
    try clear hcz32_11
    try clear hcz32_12
    try clear hcz32_13
    try clear hcz32_2
    try clear hcz32_3
    try clear hcz32_4
    try clear hcz32_5
    try clear hcz32_6
    try clear hcz32_7
    try clear hcz32_8
    try clear hcz32_9
    try clear hfz32_0
    try clear hfz32_1
    try clear hfz32_10
    try clear hfz32_11
    try clear hfz32_12
    try clear hfz32_13
    try clear hfz32_2
    try clear hfz32_3
    try clear hfz32_4
    try clear hfz32_5
    try clear hfz32_6
    try clear hfz32_7
    try clear hfz32_8
    try clear hfz32_9
    obtain ⟨x3_1, x49_1, rfl, HA, HK1, HO_3, BK1664, HB⟩ := hrel
    cases gk with
    | zero => exact absurd HA.out (by simp [impl_putBlock.l0])
    | succ k1 =>
      have H := HA.out
      clear HA
      simp only [impl_putBlock.l0] at H
      by_cases c33 : x49_1 < (l0_9.length : Int)
      · rw [if_pos c33] at H
        have c33b0 : decide (x49_1 < (l0_9.length : Int)) = true := decide_eq_true c33
        clear c33
        by_cases c34 : 0 ≤ x49_1
        · rw [if_pos c34] at H
          have c34b0 : decide (0 ≤ x49_1) = true := decide_eq_true c34
          clear c34
          by_cases c35 : x49_1 < (l0_9.length : Int)
          · rw [if_pos c35] at H
            have c35b0 : decide (x49_1 < (l0_9.length : Int)) = true := decide_eq_true c35
            clear c35
            replace H := Option.bind_eq_some_iff.mp H
            obtain ⟨t1693, A360, H⟩ := H
            replace H : (impl_putBlock.l0 k1 t1693 l0_9 (l0_9.length : Int) (wrap64 (x49_1 + 1)) a0_0 a0_1 a0_2 a0_3 a0_4 a0_5 l0_6 a0_7 l0_8 l0_9 l0_10 a0_11 l0_12 a0_13) = some r := H
            have A36 := Aside0.mk A360
            clear A360
            have H' := Aside0.mk H
            clear H
            have p1692 : 0 ≤ (x49_1 : Int) := of_decide_eq_true (by first | (with_reducible assumption) | assumption)
            have q1692 : x49_1 < (l0_9.length : Int) := of_decide_eq_true (by first | (with_reducible assumption) | assumption)
            obtain ⟨ad1692, e1692, hx1692_0⟩ := Kd.at_int HR0_9.out x49_1 p1692 q1692
            cases e1692
            replace hx1692_0 := (HB.out.cell (World.block_lt_of_cell? w _ hx1692_0)).trans hx1692_0
            replace p1692 := eq_true p1692
            replace q1692 := eq_true q1692
            obtain ⟨Ao37, co37, eo37⟩ := Kd.R_slice HO_3.out
            subst eo37
            go_wp2_with (first | ((with_reducible refine gate_callee (f := 202) rfl ?_); refine goesL_ (some 55) rfl rfl Try.func202 (by kernel_rfl) rfl #[.slice Ao37 x3_1.length co37, .int .i64 (rd l0_9 x49_1)] rfl (by (try simp only [List.map_toArray, List.map_cons, List.map_nil]); first | done | rfl | (simp only [List.length_drop, List.length_take]; rfl)) ?_; (with_reducible refine (impl_putNum.calls k1 (fun k_ => some k_ = (.slice Ao37 x3_1.length co37 : Value).ownBlock) (.slice Ao37 x3_1.length co37) x3_1 (rd l0_9 x49_1) t1693 w _ ?side1 ?side2 A36.out).mono ?_); (case side1 => repeat (first | (with_reducible first | exact HB.out | apply below_alloc | apply pw_below_drewN | apply below_drew1 | refine below_set ?_ GE1664.out) | exact HB.out)); (case side2 => exact Kd.R_tight rfl HO_3.out); rintro e w38 ⟨v1694, rfl, ho0, hb, hkp⟩; refine ⟨_, rfl, ?_⟩; have n0_ := Aside0.mk (blk_kept (by (with_reducible repeat (first | refine blk_drewN ?_ _ | refine blk_drew ?_ | refine blk_alloc ?_ _)); exact BK1664.out) hkp (fun hs_ => (fun e_ => (Kd.R_ne HO_3.out BK1664.out (by decide)) e_) hs_)); have n1_ := Aside0.mk (Kd.R_mono (ok' := fun k_ => True) ho0 (fun k_ hk_ => trivial)); have n2_ := Aside0.mk (hb); clear BK1664; clear HB; clear HO_3; have BK1664 := n0_; have HO1695 := n1_; have HB := n2_; clear n0_ n1_ n2_; (try clear hb); (try clear hkp); (try clear ho0)))
            go_roundg k1
            case measure => have := HK1.out; omega
            case rel => exact ⟨(t1693), (wrap64 (x49_1 + 1)), (by first | rfl | (simp; done) | (simp [*]; done)), H', ⟨by have := HK1.out; omega⟩, ⟨by (with_reducible repeat (first | apply Kd.R_alloc | apply Kd.R_drewN | apply Kd.R_drew)); exact HO1695.out⟩, ⟨by (with_reducible repeat (first | refine blk_drewN ?_ _ | refine blk_drew ?_ | refine blk_alloc ?_ _)); exact BK1664.out⟩, ⟨by repeat (first | (with_reducible first | exact HB.out | apply below_alloc | apply pw_below_drewN | apply below_drew1 | refine below_set ?_ GE1664.out) | exact HB.out)⟩⟩
          · rw [if_neg c35] at H
            exact absurd H (by simp)
        · rw [if_neg c34] at H
          exact absurd H (by simp)
      · rw [if_neg c33] at H
        have c33b0 : decide (x49_1 < (l0_9.length : Int)) = false := decide_eq_false c33
        clear c33
        replace H := Option.bind_eq_some_iff.mp H
        obtain ⟨t1696, A390, H⟩ := H
        replace H : (impl_putBlock.l1 k1 t1696 l0_10 (l0_10.length : Int) 0 a0_0 a0_1 a0_2 a0_3 a0_4 a0_5 l0_6 a0_7 l0_8 l0_9 l0_10 a0_11 l0_12 a0_13) = some r := H
        have A39 := Aside0.mk A390
        clear A390
        have H' := Aside0.mk H
        clear H
        obtain ⟨hcz40_0, hcz40_1, hcz40_2, hcz40_3, hcz40_4, hcz40_5, hcz40_6, hcz40_7, hcz40_8, hcz40_9, hcz40_10, hcz40_11, hcz40_12, hcz40_13⟩ := cells14 BK1664.out
        obtain ⟨hfz40_0, hfz40_1, hfz40_2, hfz40_3, hfz40_4, hfz40_5, hfz40_6, hfz40_7, hfz40_8, hfz40_9, hfz40_10, hfz40_11, hfz40_12, hfz40_13⟩ := frozens14 BK1664.out
        obtain ⟨Ao41, co41, eo41⟩ := Kd.R_slice HO_3.out
        subst eo41
        go_wp2_with (first | ((with_reducible refine gate_callee (f := 202) rfl ?_); refine goesL_ (some 61) rfl rfl Try.func202 (by kernel_rfl) rfl #[.slice Ao41 x3_1.length co41, .int .i64 (l0_10.length : Int)] rfl (by (try simp only [List.map_toArray, List.map_cons, List.map_nil]); first | done | rfl | (simp only [List.length_drop, List.length_take]; rfl)) ?_; (with_reducible refine (impl_putNum.calls k1 (fun k_ => some k_ = (.slice Ao41 x3_1.length co41 : Value).ownBlock) (.slice Ao41 x3_1.length co41) x3_1 (l0_10.length : Int) t1696 w _ ?side1 ?side2 A39.out).mono ?_); (case side1 => repeat (first | (with_reducible first | exact HB.out | apply below_alloc | apply pw_below_drewN | apply below_drew1 | refine below_set ?_ GE1664.out) | exact HB.out)); (case side2 => exact Kd.R_tight rfl HO_3.out); rintro e w42 ⟨v1697, rfl, ho0, hb, hkp⟩; refine ⟨_, rfl, ?_⟩; have n0_ := Aside0.mk (blk_kept (by (with_reducible repeat (first | refine blk_drewN ?_ _ | refine blk_drew ?_ | refine blk_alloc ?_ _)); exact BK1664.out) hkp (fun hs_ => (fun e_ => (Kd.R_ne HO_3.out BK1664.out (by decide)) e_) hs_)); have n1_ := Aside0.mk (Kd.R_mono (ok' := fun k_ => True) ho0 (fun k_ hk_ => trivial)); have n2_ := Aside0.mk (hb); clear BK1664; clear HB; clear HO_3; have BK1664 := n0_; have HO1698 := n1_; have HB := n2_; clear n0_ n1_ n2_; (try clear hb); (try clear hkp); (try clear ho0); obtain ⟨hcz43_0, hcz43_1, hcz43_2, hcz43_3, hcz43_4, hcz43_5, hcz43_6, hcz43_7, hcz43_8, hcz43_9, hcz43_10, hcz43_11, hcz43_12, hcz43_13⟩ := cells14 BK1664.out; obtain ⟨hfz43_0, hfz43_1, hfz43_2, hfz43_3, hfz43_4, hfz43_5, hfz43_6, hfz43_7, hfz43_8, hfz43_9, hfz43_10, hfz43_11, hfz43_12, hfz43_13⟩ := frozens14 BK1664.out))
        go_loopg [3, 65] k1 (fun kq v3 v65 w' => ∃ (x3_2 : List Int) (x65_2 : Int), v65 = .int .i64 x65_2 ∧ Aside0 (impl_putBlock.l1 kq x3_2 l0_10 (l0_10.length : Int) x65_2 a0_0 a0_1 a0_2 a0_3 a0_4 a0_5 l0_6 a0_7 l0_8 l0_9 l0_10 a0_11 l0_12 a0_13 = some r) ∧ Aside0 (kq ≤ k1) ∧ Aside0 (Kd.R (Kd.int .u8) 5 w' w.heap.size (fun _ => True) v3 x3_2) ∧ Aside0 (w'.heap[gb1664]? = some (.cells #[.int .i64 a0_0, .int .i64 a0_1, .int .i64 a0_2, .string a0_3, .int .i64 a0_4, .int .i64 a0_5, (.slice A0_6 l0_6.length c0_6), .int .i64 a0_7, (.slice A0_8 l0_8.length c0_8), (.slice A0_9 l0_9.length c0_9), (.slice A0_10 l0_10.length c0_10), .bool a0_11, (.slice A0_12 l0_12.length c0_12), .string a0_13] 113 (0, 0))) ∧ Aside0 (Below w.heap.size w w'))
        case atStart => exact ⟨(t1696), (0), (by first | rfl | (simp; done) | (simp [*]; done)), H', ⟨Nat.le_refl _⟩, ⟨by (with_reducible repeat (first | apply Kd.R_alloc | apply Kd.R_drewN | apply Kd.R_drew)); exact HO1698.out⟩, ⟨by (with_reducible repeat (first | refine blk_drewN ?_ _ | refine blk_drew ?_ | refine blk_alloc ?_ _)); exact BK1664.out⟩, ⟨by repeat (first | (with_reducible first | exact HB.out | apply below_alloc | apply pw_below_drewN | apply below_drew1 | refine below_set ?_ GE1664.out) | exact HB.out)⟩⟩
        case round =>
          clear H'
          try clear c1
          try clear p1
          try clear q1
          try clear hx1
          try clear c2
          try clear p2
          try clear c3
          try clear p6
          try clear c16
          try clear p16
          try clear q16
          try clear hx16
          try clear c20
          try clear c33
          try clear c33b0
          try clear c34
          try clear c34b0
          try clear c35
          try clear c35b0
          try clear hcz32_0
          try clear hcz32_1
          try clear hcz32_10
          try clear hcz32_11
          try clear hcz32_12
          try clear hcz32_13
          try clear hcz32_2
          try clear hcz32_3
          try clear hcz32_4
          try clear hcz32_5
          try clear hcz32_6
          try clear hcz32_7
          try clear hcz32_8
          try clear hcz32_9
          try clear hcz40_0
          try clear hcz40_1
          try clear hcz40_10
          try clear hcz40_11
          try clear hcz40_12
          try clear hcz40_13
          try clear hcz40_2
          try clear hcz40_3
          try clear hcz40_4
          try clear hcz40_5
          try clear hcz40_6
          try clear hcz40_7
          try clear hcz40_8
          try clear hcz40_9
          try clear hcz43_0
          try clear hcz43_1
          try clear hcz43_10
          try clear hcz43_11
          try clear hcz43_12
          try clear hcz43_13
          try clear hcz43_2
          try clear hcz43_3
          try clear hcz43_4
          try clear hcz43_5
          try clear hcz43_6
          try clear hcz43_7
          try clear hcz43_8
          try clear hcz43_9
          try clear hfz32_0
          try clear hfz32_1
          try clear hfz32_10
          try clear hfz32_11
          try clear hfz32_12
          try clear hfz32_13
          try clear hfz32_2
          try clear hfz32_3
          try clear hfz32_4
          try clear hfz32_5
          try clear hfz32_6
          try clear hfz32_7
          try clear hfz32_8
          try clear hfz32_9
          try clear hfz40_0
          try clear hfz40_1
          try clear hfz40_10
          try clear hfz40_11
          try clear hfz40_12
          try clear hfz40_13
          try clear hfz40_2
          try clear hfz40_3
          try clear hfz40_4
          try clear hfz40_5
          try clear hfz40_6
          try clear hfz40_7
          try clear hfz40_8
          try clear hfz40_9
          try clear hfz43_0
          try clear hfz43_1
          try clear hfz43_10
          try clear hfz43_11
          try clear hfz43_12
          try clear hfz43_13
          try clear hfz43_2
          try clear hfz43_3
          try clear hfz43_4
          try clear hfz43_5
          try clear hfz43_6
          try clear hfz43_7
          try clear hfz43_8
          try clear hfz43_9
          try clear hx1692_0
          try clear p1692
          try clear p2
          try clear q1692
          obtain ⟨x3_2, x65_2, rfl, HA, HK2, HO_3, BK1664, HB⟩ := hrel
          cases gk with
          | zero => exact absurd HA.out (by simp [impl_putBlock.l1])
          | succ k2 =>
            have H := HA.out
            clear HA
            simp only [impl_putBlock.l1] at H
            by_cases c44 : x65_2 < (l0_10.length : Int)
            · rw [if_pos c44] at H
              have c44b0 : decide (x65_2 < (l0_10.length : Int)) = true := decide_eq_true c44
              clear c44
              by_cases c45 : 0 ≤ x65_2
              · rw [if_pos c45] at H
                have c45b0 : decide (0 ≤ x65_2) = true := decide_eq_true c45
                clear c45
                by_cases c46 : x65_2 < (l0_10.length : Int)
                · rw [if_pos c46] at H
                  have c46b0 : decide (x65_2 < (l0_10.length : Int)) = true := decide_eq_true c46
                  clear c46
                  replace H := Option.bind_eq_some_iff.mp H
                  obtain ⟨t1701, A470, H⟩ := H
                  replace H : (impl_putBlock.l1 k2 t1701 l0_10 (l0_10.length : Int) (wrap64 (x65_2 + 1)) a0_0 a0_1 a0_2 a0_3 a0_4 a0_5 l0_6 a0_7 l0_8 l0_9 l0_10 a0_11 l0_12 a0_13) = some r := H
                  have A47 := Aside0.mk A470
                  clear A470
                  have H' := Aside0.mk H
                  clear H
                  have p1699 : 0 ≤ (x65_2 : Int) := of_decide_eq_true (by first | (with_reducible assumption) | assumption)
                  have q1699 : x65_2 < (l0_10.length : Int) := of_decide_eq_true (by first | (with_reducible assumption) | assumption)
                  obtain ⟨ad1699, e1699, hx1699_0, hx1699_1, hx1699_2, hx1699_3, hx1699_4⟩ := at_T186 HR0_10.out x65_2 p1699 q1699
                  cases e1699
                  replace hx1699_0 := (HB.out.cell (World.block_lt_of_cell? w _ hx1699_0)).trans hx1699_0
                  replace hx1699_1 := (HB.out.cell (World.block_lt_of_cell? w _ hx1699_1)).trans hx1699_1
                  replace hx1699_2 := (HB.out.cell (World.block_lt_of_cell? w _ hx1699_2)).trans hx1699_2
                  replace hx1699_3 := (HB.out.cell (World.block_lt_of_cell? w _ hx1699_3)).trans hx1699_3
                  replace hx1699_4 := (HB.out.cell (World.block_lt_of_cell? w _ hx1699_4)).trans hx1699_4
                  replace p1699 := eq_true p1699
                  replace q1699 := eq_true q1699
                  go_wp2_with (first | ((with_reducible refine gate_dst (N := 7) rfl ?_); refine box_event ?hg (N := 7) ?hd (cs := #[.int .i64 0, .string (⟨#[]⟩ : ByteArray), .string (⟨#[]⟩ : ByteArray), .int .i64 0, .int .i64 0]) (t := 186) ?hr ?_; (case hd => rfl); (case hg => rfl); (case hr => first | (go_simp; done) | (go_simp; rfl)); intro gb1700 hg w48 hbox hb; have n0_ := Aside0.mk (Kd.R_below (by (with_reducible repeat (first | apply Kd.R_alloc | apply Kd.R_drewN | apply Kd.R_drew)); exact HO_3.out) hb); have n1_ := Aside0.mk (blk_below (g := gb1664) (by (with_reducible repeat (first | refine blk_drewN ?_ _ | refine blk_drew ?_ | refine blk_alloc ?_ _)); exact BK1664.out) hb); have n2_ := Aside0.mk (below_step (by repeat (first | (with_reducible first | exact HB.out | apply below_alloc | apply pw_below_drewN | apply below_drew1 | refine below_set ?_ GE1664.out) | exact HB.out)) hb); have n3_ := Aside0.mk (hbox); have n4_ := Aside0.mk ((by rw [hg]; exact (below_size (by repeat (first | (with_reducible first | exact HB.out | apply below_alloc | apply pw_below_drewN | apply below_drew1 | refine below_set ?_ GE1664.out) | exact HB.out))) : w.heap.size ≤ gb1700)); have n5_ := Aside0.mk ((by rw [hg]; exact (below_size (by repeat (first | (with_reducible first | exact HB.out | apply below_alloc | apply pw_below_drewN | apply below_drew1 | refine below_set ?_ GE1664.out) | exact HB.out))) : w.heap.size ≤ gb1700)); have n6_ := Aside0.mk ((by rw [hg]; exact Nat.ne_of_lt (blk_lt (g := gb1664) (o := .cells #[.int .i64 a0_0, .int .i64 a0_1, .int .i64 a0_2, .string a0_3, .int .i64 a0_4, .int .i64 a0_5, .slice A0_6 l0_6.length c0_6, .int .i64 a0_7, .slice A0_8 l0_8.length c0_8, .slice A0_9 l0_9.length c0_9, .slice (some ad1699) l0_10.length c0_10, .bool a0_11, .slice A0_12 l0_12.length c0_12, .string a0_13] 113 (0, 0)) (by (with_reducible repeat (first | refine blk_drewN ?_ _ | refine blk_drew ?_ | refine blk_alloc ?_ _)); exact BK1664.out)) : gb1664 ≠ gb1700)); have n7_ := Aside0.mk ((by rw [hg]; exact Nat.ne_of_gt (blk_lt (g := gb1664) (o := .cells #[.int .i64 a0_0, .int .i64 a0_1, .int .i64 a0_2, .string a0_3, .int .i64 a0_4, .int .i64 a0_5, .slice A0_6 l0_6.length c0_6, .int .i64 a0_7, .slice A0_8 l0_8.length c0_8, .slice A0_9 l0_9.length c0_9, .slice (some ad1699) l0_10.length c0_10, .bool a0_11, .slice A0_12 l0_12.length c0_12, .string a0_13] 113 (0, 0)) (by (with_reducible repeat (first | refine blk_drewN ?_ _ | refine blk_drew ?_ | refine blk_alloc ?_ _)); exact BK1664.out)) : gb1700 ≠ gb1664)); clear HO_3; clear BK1664; clear HB; have HO_3 := n0_; have BK1664 := n1_; have HB := n2_; have BK1700 := n3_; have GW1700 := n4_; have GE1700 := n5_; have NB1664_1700 := n6_; have NB1700_1664 := n7_; clear n0_ n1_ n2_ n3_ n4_ n5_ n6_ n7_; clear hb hbox hg; have hnb49 := NB1700_1664.out; have hnc49 := NB1664_1700.out; obtain ⟨hcz50_0, hcz50_1, hcz50_2, hcz50_3, hcz50_4⟩ := cells5 BK1700.out; obtain ⟨hfz50_0, hfz50_1, hfz50_2, hfz50_3, hfz50_4⟩ := frozens5 BK1700.out) | ((with_reducible refine gate_store (t := 186) (p := 7) rfl ?_); refine store_event (t := 186) (p := 7) (v := ?vo_w51) (w1 := (((((w48.setCell ⟨gb1700, 0, none⟩ (.int .i64 ((rd_T186 l0_10 x65_2).f0))).setCell ⟨gb1700, 1, none⟩ (.string ((rd_T186 l0_10 x65_2).f1))).setCell ⟨gb1700, 2, none⟩ (.string ((rd_T186 l0_10 x65_2).f2))).setCell ⟨gb1700, 3, none⟩ (.int .i64 ((rd_T186 l0_10 x65_2).f3))).setCell ⟨gb1700, 4, none⟩ (.int .i64 ((rd_T186 l0_10 x65_2).f4)))) ?hg ?ho ?hn ?hr ?_; (case ho => rfl); (case hg => rfl); (case hn => rfl); (case hr => first | (go_simp; done) | (go_simp; rfl)); intro w51 hw; have n0_ : Aside0 (Kd.R (Kd.int .u8) 5 w51 w.heap.size (fun _ => True) u3 x3_2) := ⟨(by rw [hw]; exact (by (with_reducible repeat (first | apply Kd.R_alloc | apply Kd.R_drewN | apply Kd.R_drew)); exact Kd.R_mono (Kd.R_far (p := ⟨gb1700, 4, none⟩) (Kd.R_far (p := ⟨gb1700, 3, none⟩) (Kd.R_far (p := ⟨gb1700, 2, none⟩) (Kd.R_far (p := ⟨gb1700, 1, none⟩) (Kd.R_far (p := ⟨gb1700, 0, none⟩) (Kd.R_types HO_3.out BK1700.out (by decide)) (fun _ hk => hk.2) (.int .i64 ((rd_T186 l0_10 x65_2).f0))) (fun _ hk => hk.2) (.string ((rd_T186 l0_10 x65_2).f1))) (fun _ hk => hk.2) (.string ((rd_T186 l0_10 x65_2).f2))) (fun _ hk => hk.2) (.int .i64 ((rd_T186 l0_10 x65_2).f3))) (fun _ hk => hk.2) (.int .i64 ((rd_T186 l0_10 x65_2).f4))) (fun _ hk => trivial)))⟩; have n1_ : Aside0 (w51.heap[gb1664]? = some (.cells #[.int .i64 a0_0, .int .i64 a0_1, .int .i64 a0_2, .string a0_3, .int .i64 a0_4, .int .i64 a0_5, .slice A0_6 l0_6.length c0_6, .int .i64 a0_7, .slice A0_8 l0_8.length c0_8, .slice A0_9 l0_9.length c0_9, .slice (some ad1699) l0_10.length c0_10, .bool a0_11, .slice A0_12 l0_12.length c0_12, .string a0_13] 113 (0, 0))) := ⟨(by rw [hw]; exact (by (with_reducible repeat (first | refine blk_drewN ?_ _ | refine blk_drew ?_ | refine blk_alloc ?_ _)); refine blk_far ?_ NB1664_1700.out _; (with_reducible repeat (first | refine blk_drewN ?_ _ | refine blk_drew ?_ | refine blk_alloc ?_ _)); refine blk_far ?_ NB1664_1700.out _; (with_reducible repeat (first | refine blk_drewN ?_ _ | refine blk_drew ?_ | refine blk_alloc ?_ _)); refine blk_far ?_ NB1664_1700.out _; (with_reducible repeat (first | refine blk_drewN ?_ _ | refine blk_drew ?_ | refine blk_alloc ?_ _)); refine blk_far ?_ NB1664_1700.out _; (with_reducible repeat (first | refine blk_drewN ?_ _ | refine blk_drew ?_ | refine blk_alloc ?_ _)); refine blk_far ?_ NB1664_1700.out _; (with_reducible repeat (first | refine blk_drewN ?_ _ | refine blk_drew ?_ | refine blk_alloc ?_ _)); exact BK1664.out))⟩; have n2_ : Aside0 (w51.heap[gb1700]? = some (.cells #[.int .i64 ((rd_T186 l0_10 x65_2).f0), .string ((rd_T186 l0_10 x65_2).f1), .string ((rd_T186 l0_10 x65_2).f2), .int .i64 ((rd_T186 l0_10 x65_2).f3), .int .i64 ((rd_T186 l0_10 x65_2).f4)] 186 (0, 0))) := ⟨(by rw [hw]; exact (by (with_reducible repeat (first | refine blk_drewN ?_ _ | refine blk_drew ?_ | refine blk_alloc ?_ _)); refine blk_put (cs := #[.int .i64 ((rd_T186 l0_10 x65_2).f0), .string ((rd_T186 l0_10 x65_2).f1), .string ((rd_T186 l0_10 x65_2).f2), .int .i64 ((rd_T186 l0_10 x65_2).f3), .int .i64 0]) ?_ 4 _ rfl; (with_reducible repeat (first | refine blk_drewN ?_ _ | refine blk_drew ?_ | refine blk_alloc ?_ _)); refine blk_put (cs := #[.int .i64 ((rd_T186 l0_10 x65_2).f0), .string ((rd_T186 l0_10 x65_2).f1), .string ((rd_T186 l0_10 x65_2).f2), .int .i64 0, .int .i64 0]) ?_ 3 _ rfl; (with_reducible repeat (first | refine blk_drewN ?_ _ | refine blk_drew ?_ | refine blk_alloc ?_ _)); refine blk_put (cs := #[.int .i64 ((rd_T186 l0_10 x65_2).f0), .string ((rd_T186 l0_10 x65_2).f1), .string (⟨#[]⟩ : ByteArray), .int .i64 0, .int .i64 0]) ?_ 2 _ rfl; (with_reducible repeat (first | refine blk_drewN ?_ _ | refine blk_drew ?_ | refine blk_alloc ?_ _)); refine blk_put (cs := #[.int .i64 ((rd_T186 l0_10 x65_2).f0), .string (⟨#[]⟩ : ByteArray), .string (⟨#[]⟩ : ByteArray), .int .i64 0, .int .i64 0]) ?_ 1 _ rfl; (with_reducible repeat (first | refine blk_drewN ?_ _ | refine blk_drew ?_ | refine blk_alloc ?_ _)); refine blk_put (cs := #[.int .i64 0, .string (⟨#[]⟩ : ByteArray), .string (⟨#[]⟩ : ByteArray), .int .i64 0, .int .i64 0]) ?_ 0 _ rfl; (with_reducible repeat (first | refine blk_drewN ?_ _ | refine blk_drew ?_ | refine blk_alloc ?_ _)); exact BK1700.out))⟩; have n3_ : Aside0 (Below w.heap.size w w51) := ⟨(by rw [hw]; exact (by repeat (first | (with_reducible first | exact HB.out | apply below_alloc | apply pw_below_drewN | apply below_drew1 | refine below_set ?_ GE1664.out | refine below_set ?_ GE1700.out) | exact HB.out)))⟩; clear hw; clear HO_3; clear BK1664; clear BK1700; clear HB; have HO_3 := n0_; have BK1664 := n1_; have BK1700 := n2_; have HB := n3_; clear n0_ n1_ n2_ n3_; obtain ⟨hcz52_0, hcz52_1, hcz52_2, hcz52_3, hcz52_4⟩ := cells5 BK1700.out; obtain ⟨hfz52_0, hfz52_1, hfz52_2, hfz52_3, hfz52_4⟩ := frozens5 BK1700.out; obtain ⟨Ao53, co53, eo53⟩ := Kd.R_slice HO_3.out; subst eo53) | ((with_reducible refine gate_callee (f := 205) rfl ?_); refine goesL_ (some 71) rfl rfl Try.func205 (by kernel_rfl) rfl #[.slice Ao53 x3_2.length co53, .agg #[.int .i64 ((rd_T186 l0_10 x65_2).f0), .string ((rd_T186 l0_10 x65_2).f1), .string ((rd_T186 l0_10 x65_2).f2), .int .i64 ((rd_T186 l0_10 x65_2).f3), .int .i64 ((rd_T186 l0_10 x65_2).f4)]] rfl (by (try simp only [List.map_toArray, List.map_cons, List.map_nil]); first | done | rfl | (simp only [List.length_drop, List.length_take]; rfl)) ?_; (with_reducible refine (impl_putTx.calls k2 (fun k_ => some k_ = (.slice Ao53 x3_2.length co53 : Value).ownBlock) (.slice Ao53 x3_2.length co53) x3_2 ((rd_T186 l0_10 x65_2).f0) ((rd_T186 l0_10 x65_2).f1) ((rd_T186 l0_10 x65_2).f2) ((rd_T186 l0_10 x65_2).f3) ((rd_T186 l0_10 x65_2).f4) t1701 w _ ?side1 ?side2 A47.out).mono ?_); (case side1 => repeat (first | (with_reducible first | exact HB.out | apply below_alloc | apply pw_below_drewN | apply below_drew1 | refine below_set ?_ GE1664.out | refine below_set ?_ GE1700.out) | exact HB.out)); (case side2 => exact Kd.R_tight rfl HO_3.out); rintro e w54 ⟨v1702, rfl, ho0, hb, hkp⟩; refine ⟨_, rfl, ?_⟩; have n0_ := Aside0.mk (blk_kept (by (with_reducible repeat (first | refine blk_drewN ?_ _ | refine blk_drew ?_ | refine blk_alloc ?_ _)); exact BK1664.out) hkp (fun hs_ => (fun e_ => (Kd.R_ne HO_3.out BK1664.out (by decide)) e_) hs_)); have n1_ := Aside0.mk (blk_kept (by (with_reducible repeat (first | refine blk_drewN ?_ _ | refine blk_drew ?_ | refine blk_alloc ?_ _)); exact BK1700.out) hkp (fun hs_ => (fun e_ => (Kd.R_ne HO_3.out BK1700.out (by decide)) e_) hs_)); have n2_ := Aside0.mk (Kd.R_mono (ok' := fun k_ => True) ho0 (fun k_ hk_ => trivial)); have n3_ := Aside0.mk (hb); clear BK1664; clear BK1700; clear HB; clear HO_3; have BK1664 := n0_; have BK1700 := n1_; have HO1703 := n2_; have HB := n3_; clear n0_ n1_ n2_ n3_; (try clear hb); (try clear hkp); (try clear ho0)))
                  go_roundg k2
                  case measure => have := HK1.out; have := HK2.out; omega
                  case rel => exact ⟨(t1701), (wrap64 (x65_2 + 1)), (by first | rfl | (simp; done) | (simp [*]; done)), H', ⟨by have := HK1.out; have := HK2.out; omega⟩, ⟨by (with_reducible repeat (first | apply Kd.R_alloc | apply Kd.R_drewN | apply Kd.R_drew)); exact HO1703.out⟩, ⟨by (with_reducible repeat (first | refine blk_drewN ?_ _ | refine blk_drew ?_ | refine blk_alloc ?_ _)); exact BK1664.out⟩, ⟨by repeat (first | (with_reducible first | exact HB.out | apply below_alloc | apply pw_below_drewN | apply below_drew1 | refine below_set ?_ GE1664.out | refine below_set ?_ GE1700.out) | exact HB.out)⟩⟩
                · rw [if_neg c46] at H
                  exact absurd H (by simp)
              · rw [if_neg c45] at H
                exact absurd H (by simp)
            · rw [if_neg c44] at H
              have c44b0 : decide (x65_2 < (l0_10.length : Int)) = false := decide_eq_false c44
              clear c44
              have HC55 := Aside0.mk H
              clear H
              obtain ⟨hcz56_0, hcz56_1, hcz56_2, hcz56_3, hcz56_4, hcz56_5, hcz56_6, hcz56_7, hcz56_8, hcz56_9, hcz56_10, hcz56_11, hcz56_12, hcz56_13⟩ := cells14 BK1664.out
              obtain ⟨hfz56_0, hfz56_1, hfz56_2, hfz56_3, hfz56_4, hfz56_5, hfz56_6, hfz56_7, hfz56_8, hfz56_9, hfz56_10, hfz56_11, hfz56_12, hfz56_13⟩ := frozens14 BK1664.out
              go_upto_if 74 with (fail)
              go_cut [8] (fun v8 wc => ∃ (kq : Nat) (x8_54 : Int), v8 = .int .i64 x8_54 ∧ Aside0 (impl_putBlock.j2 kq x3_2 x8_54 a0_0 a0_1 a0_2 a0_3 a0_4 a0_5 l0_6 a0_7 l0_8 l0_9 l0_10 a0_11 l0_12 a0_13 = some r) ∧ Aside0 (kq ≤ k2) ∧ Aside0 (Kd.R (Kd.int .u8) 5 wc w.heap.size (fun _ => True) u3 x3_2) ∧ Aside0 (wc.heap[gb1664]? = some (.cells #[.int .i64 a0_0, .int .i64 a0_1, .int .i64 a0_2, .string a0_3, .int .i64 a0_4, .int .i64 a0_5, (.slice A0_6 l0_6.length c0_6), .int .i64 a0_7, (.slice A0_8 l0_8.length c0_8), (.slice A0_9 l0_9.length c0_9), (.slice A0_10 l0_10.length c0_10), .bool a0_11, (.slice A0_12 l0_12.length c0_12), .string a0_13] 113 (0, 0))) ∧ Aside0 (Below w.heap.size w wc))
              case first =>
                have H := HC55.out
                clear HC55
                by_cases c57 : a0_11 = true
                · subst c57
                  have H1 : (impl_putBlock.j2 k2 x3_2 1 a0_0 a0_1 a0_2 a0_3 a0_4 a0_5 l0_6 a0_7 l0_8 l0_9 l0_10 true l0_12 a0_13) = some r := by rw [if_pos rfl] at H; exact H
                  clear H
                  have H := H1
                  clear H1
                  have H' := Aside0.mk H
                  clear H
                  go_wp2
                  go_meet
                  case rel => exact ⟨_, (1), (by first | rfl | (simp; done) | (simp [*]; done)), H', ⟨by have := HK1.out; have := HK2.out; first | omega | exact Nat.le_refl _⟩, ⟨by (with_reducible repeat (first | apply Kd.R_alloc | apply Kd.R_drewN | apply Kd.R_drew)); exact HO_3.out⟩, ⟨by (with_reducible repeat (first | refine blk_drewN ?_ _ | refine blk_drew ?_ | refine blk_alloc ?_ _)); exact BK1664.out⟩, ⟨by repeat (first | (with_reducible first | exact HB.out | apply below_alloc | apply pw_below_drewN | apply below_drew1 | refine below_set ?_ GE1664.out) | exact HB.out)⟩⟩
                · replace c57 := Bool.eq_false_iff.mpr c57
                  subst c57
                  have H1 : (impl_putBlock.j2 k2 x3_2 0 a0_0 a0_1 a0_2 a0_3 a0_4 a0_5 l0_6 a0_7 l0_8 l0_9 l0_10 false l0_12 a0_13) = some r := by rw [if_neg (show ¬ (false = true) by decide)] at H; exact H
                  clear H
                  have H := H1
                  clear H1
                  have H' := Aside0.mk H
                  clear H
                  go_wp2
                  go_meet
                  case rel => exact ⟨_, (0), (by first | rfl | (simp; done) | (simp [*]; done)), H', ⟨by have := HK1.out; have := HK2.out; first | omega | exact Nat.le_refl _⟩, ⟨by (with_reducible repeat (first | apply Kd.R_alloc | apply Kd.R_drewN | apply Kd.R_drew)); exact HO_3.out⟩, ⟨by (with_reducible repeat (first | refine blk_drewN ?_ _ | refine blk_drew ?_ | refine blk_alloc ?_ _)); exact BK1664.out⟩, ⟨by repeat (first | (with_reducible first | exact HB.out | apply below_alloc | apply pw_below_drewN | apply below_drew1 | refine below_set ?_ GE1664.out) | exact HB.out)⟩⟩
              case rest =>
                clear HC55
                try clear c1
                try clear p1
                try clear q1
                try clear hx1
                try clear c2
                try clear p2
                try clear c3
                try clear c4
                try clear c5
                try clear p6
                try clear c16
                try clear p16
                try clear q16
                try clear hx16
                try clear c20
                try clear c33
                try clear c33b0
                try clear c34
                try clear c34b0
                try clear c35
                try clear c35b0
                try clear c44
                try clear c44b0
                try clear c45
                try clear c45b0
                try clear c46
                try clear c46b0
                try clear c49
                try clear c57
                try clear hcz32_0
                try clear hcz32_1
                try clear hcz32_10
                try clear hcz32_11
                try clear hcz32_12
                try clear hcz32_13
                try clear hcz32_2
                try clear hcz32_3
                try clear hcz32_4
                try clear hcz32_5
                try clear hcz32_6
                try clear hcz32_7
                try clear hcz32_8
                try clear hcz32_9
                try clear hcz40_0
                try clear hcz40_1
                try clear hcz40_10
                try clear hcz40_11
                try clear hcz40_12
                try clear hcz40_13
                try clear hcz40_2
                try clear hcz40_3
                try clear hcz40_4
                try clear hcz40_5
                try clear hcz40_6
                try clear hcz40_7
                try clear hcz40_8
                try clear hcz40_9
                try clear hcz43_0
                try clear hcz43_1
                try clear hcz43_10
                try clear hcz43_11
                try clear hcz43_12
                try clear hcz43_13
                try clear hcz43_2
                try clear hcz43_3
                try clear hcz43_4
                try clear hcz43_5
                try clear hcz43_6
                try clear hcz43_7
                try clear hcz43_8
                try clear hcz43_9
                try clear hcz50_0
                try clear hcz50_1
                try clear hcz50_2
                try clear hcz50_3
                try clear hcz50_4
                try clear hcz52_0
                try clear hcz52_1
                try clear hcz52_2
                try clear hcz52_3
                try clear hcz52_4
                try clear hcz56_0
                try clear hcz56_1
                try clear hcz56_10
                try clear hcz56_11
                try clear hcz56_12
                try clear hcz56_13
                try clear hcz56_2
                try clear hcz56_3
                try clear hcz56_4
                try clear hcz56_5
                try clear hcz56_6
                try clear hcz56_7
                try clear hcz56_8
                try clear hcz56_9
                try clear hfz32_0
                try clear hfz32_1
                try clear hfz32_10
                try clear hfz32_11
                try clear hfz32_12
                try clear hfz32_13
                try clear hfz32_2
                try clear hfz32_3
                try clear hfz32_4
                try clear hfz32_5
                try clear hfz32_6
                try clear hfz32_7
                try clear hfz32_8
                try clear hfz32_9
                try clear hfz40_0
                try clear hfz40_1
                try clear hfz40_10
                try clear hfz40_11
                try clear hfz40_12
                try clear hfz40_13
                try clear hfz40_2
                try clear hfz40_3
                try clear hfz40_4
                try clear hfz40_5
                try clear hfz40_6
                try clear hfz40_7
                try clear hfz40_8
                try clear hfz40_9
                try clear hfz43_0
                try clear hfz43_1
                try clear hfz43_10
                try clear hfz43_11
                try clear hfz43_12
                try clear hfz43_13
                try clear hfz43_2
                try clear hfz43_3
                try clear hfz43_4
                try clear hfz43_5
                try clear hfz43_6
                try clear hfz43_7
                try clear hfz43_8
                try clear hfz43_9
                try clear hfz50_0
                try clear hfz50_1
                try clear hfz50_2
                try clear hfz50_3
                try clear hfz50_4
                try clear hfz52_0
                try clear hfz52_1
                try clear hfz52_2
                try clear hfz52_3
                try clear hfz52_4
                try clear hfz56_0
                try clear hfz56_1
                try clear hfz56_10
                try clear hfz56_11
                try clear hfz56_12
                try clear hfz56_13
                try clear hfz56_2
                try clear hfz56_3
                try clear hfz56_4
                try clear hfz56_5
                try clear hfz56_6
                try clear hfz56_7
                try clear hfz56_8
                try clear hfz56_9
                try clear hx1692_0
                try clear hx1699_0
                try clear hx1699_1
                try clear hx1699_2
                try clear hx1699_3
                try clear hx1699_4
                try clear p1
                try clear p16
                try clear p1692
                try clear p1699
                try clear p2
                try clear p6
                try clear q1
                try clear q16
                try clear q1692
                try clear q1699
                obtain ⟨kq, x8_54, rfl, HA, HJ54, HO_3, BK1664, HB⟩ := hcut
                cases kq with
                | zero => exact absurd HA.out (by simp [impl_putBlock.j2])
                | succ kj54 =>
                  have H := HA.out
                  clear HA
                  simp only [impl_putBlock.j2] at H
                  replace H := Option.bind_eq_some_iff.mp H
                  obtain ⟨t1704, A580, H⟩ := H
                  replace H : ((impl_putNum.f kj54 t1704 (l0_12.length : Int)).bind fun t1707 => (impl_putBlock.l2 kj54 t1707 l0_12 (l0_12.length : Int) 0 a0_0 a0_1 a0_2 a0_3 a0_4 a0_5 l0_6 a0_7 l0_8 l0_9 l0_10 a0_11 l0_12 a0_13)) = some r := H
                  have A58 := Aside0.mk A580
                  clear A580
                  replace H := Option.bind_eq_some_iff.mp H
                  obtain ⟨t1707, A590, H⟩ := H
                  replace H : (impl_putBlock.l2 kj54 t1707 l0_12 (l0_12.length : Int) 0 a0_0 a0_1 a0_2 a0_3 a0_4 a0_5 l0_6 a0_7 l0_8 l0_9 l0_10 a0_11 l0_12 a0_13) = some r := H
                  have A59 := Aside0.mk A590
                  clear A590
                  have H' := Aside0.mk H
                  clear H
                  try go_wp2
                  have n0_ := Aside0.mk (Kd.R_drew HO_3.out)
                  have n1_ := Aside0.mk (blk_drew BK1664.out)
                  have n2_ := Aside0.mk (below_drew1 HB.out)
                  clear HO_3
                  clear BK1664
                  clear HB
                  have HO_3 := n0_
                  have BK1664 := n1_
                  have HB := n2_
                  clear n0_ n1_ n2_
                  obtain ⟨Ao61, co61, eo61⟩ := Kd.R_slice HO_3.out
                  (first | subst eo61 | (injection eo61 with f1_ f2_ f3_; have f4_ := f1_.symm; have f5_ := f3_.symm; clear f1_ f2_ f3_; subst f4_; subst f5_))
                  refine start_ (n := 8) (S := fun w' => w'.cell? ⟨gb1664, 0, none⟩ = some (.int .i64 a0_0) ∧ w'.cell? ⟨gb1664, 1, none⟩ = some (.int .i64 a0_1) ∧ w'.cell? ⟨gb1664, 2, none⟩ = some (.int .i64 a0_2) ∧ w'.cell? ⟨gb1664, 3, none⟩ = some (.string a0_3) ∧ w'.cell? ⟨gb1664, 4, none⟩ = some (.int .i64 a0_4) ∧ w'.cell? ⟨gb1664, 5, none⟩ = some (.int .i64 a0_5) ∧ w'.cell? ⟨gb1664, 6, none⟩ = some (.slice A0_6 l0_6.length c0_6) ∧ w'.cell? ⟨gb1664, 7, none⟩ = some (.int .i64 a0_7) ∧ w'.cell? ⟨gb1664, 8, none⟩ = some (.slice A0_8 l0_8.length c0_8) ∧ w'.cell? ⟨gb1664, 9, none⟩ = some (.slice A0_9 l0_9.length c0_9) ∧ w'.cell? ⟨gb1664, 10, none⟩ = some (.slice A0_10 l0_10.length c0_10) ∧ w'.cell? ⟨gb1664, 11, none⟩ = some (.bool a0_11) ∧ w'.cell? ⟨gb1664, 12, none⟩ = some (.slice A0_12 l0_12.length c0_12) ∧ w'.cell? ⟨gb1664, 13, none⟩ = some (.string a0_13)) (ds := []) #[false, false, false, false, false, false, false, false] (by kernel_rfl) rfl rfl ⟨(blk_cell BK1664.out 0).trans rfl, (blk_cell BK1664.out 1).trans rfl, (blk_cell BK1664.out 2).trans rfl, (blk_cell BK1664.out 3).trans rfl, (blk_cell BK1664.out 4).trans rfl, (blk_cell BK1664.out 5).trans rfl, (blk_cell BK1664.out 6).trans rfl, (blk_cell BK1664.out 7).trans rfl, (blk_cell BK1664.out 8).trans rfl, (blk_cell BK1664.out 9).trans rfl, (blk_cell BK1664.out 10).trans rfl, (blk_cell BK1664.out 11).trans rfl, (blk_cell BK1664.out 12).trans rfl, (blk_cell BK1664.out 13).trans rfl⟩ (fun hHeld => ?_); refine with_tabW impl_putBlock.tab18 impl_putBlock.bits18 (fun HT_ HW_ => ?_)
                  generalize wc.drew = w60 at HO_3 BK1664 HB hHeld ⊢
                  refine pure_ (i := 0) (N := some 75) (v := ?_) (a' := ?_) #[true, false, false, false, false, false, false, false] rfl rfl (any_of HT_.out (by kernel_rfl)) (fun _ _ _ h => h) (Or.inl ⟨by rfl, ?_⟩) ?_ ?_
                  rotate_left
                  · intro w'
                    go_simp
                    with_reducible rfl
                  rotate_left
                  · simp only [Act.put, List.setIfInBounds_toArray, List.set_cons_zero, List.set_cons_succ, i64_w, i32_w]
                    rfl
                  refine pure_ (i := 1) (N := some 76) (v := ?_) (a' := ?_) #[true, true, false, false, false, false, false, false] rfl rfl (any_of HT_.out (by kernel_rfl)) (fun _ _ _ h => h) (Or.inl ⟨by rfl, ?_⟩) ?_ ?_
                  rotate_left
                  · intro w'
                    go_simp
                    with_reducible rfl
                  rotate_left
                  · simp only [Act.put, List.setIfInBounds_toArray, List.set_cons_zero, List.set_cons_succ, i64_w, i32_w]
                    rfl
                  refine pure_ (i := 3) (N := some 78) (v := ?_) (a' := ?_) #[true, true, false, true, false, false, false, false] rfl rfl (any_of HT_.out (by kernel_rfl)) (fun _ _ _ h => h) (Or.inl ⟨by rfl, ?_⟩) ?_ ?_
                  rotate_left
                  · intro w'
                    go_simp
                    with_reducible rfl
                  rotate_left
                  · simp only [Act.put, List.setIfInBounds_toArray, List.set_cons_zero, List.set_cons_succ, i64_w, i32_w]
                    rfl
                  refine take_ (i := 4) (N := some 79) (v := ?_) (a' := ?_) #[true, true, false, true, true, false, false, false] rfl rfl (take_ofW HT_.out HW_.out (by kernel_rfl)) (fun _ _ _ h => h) (Or.inl ⟨by rfl, ?_⟩) hHeld ?_ ?_
                  rotate_left
                  · rintro w' ⟨s0, s1, s2, s3, s4, s5, s6, s7, s8, s9, s10, s11, s12, s13⟩
                    go_simp
                    with_reducible rfl
                  rotate_left
                  · simp only [Act.put, List.setIfInBounds_toArray, List.set_cons_zero, List.set_cons_succ, i64_w, i32_w]
                    rfl
                  refine pure_ (i := 5) (N := some 80) (v := ?_) (a' := ?_) #[true, true, false, true, true, true, false, false] rfl rfl (any_of HT_.out (by kernel_rfl)) (fun _ _ _ h => h) (Or.inl ⟨by rfl, ?_⟩) ?_ ?_
                  rotate_left
                  · intro w'
                    go_simp
                    with_reducible rfl
                  rotate_left
                  · simp only [Act.put, List.setIfInBounds_toArray, List.set_cons_zero, List.set_cons_succ, i64_w, i32_w]
                    rfl
                  refine one_ (i := 2) (N := some 77) #[true, true, true, true, true, true, false, false] rfl rfl (one_of HT_.out (by kernel_rfl)) (by decide) (fun K hK => ?_)
                  refine goes_ Try.func202 (by kernel_rfl) rfl #[.slice Ao61 x3_2.length co61, .int .i64 x8_54] (by rfl) rfl rfl (by (try simp only [List.map_toArray, List.map_cons, List.map_nil]); first | done | rfl | (simp only [List.length_drop, List.length_take]; rfl)) ?_
                  with_reducible refine (impl_putNum.calls kj54 (fun k_ => some k_ = (.slice Ao61 x3_2.length co61 : Value).ownBlock) (.slice Ao61 x3_2.length co61) x3_2 x8_54 t1704 w _ ?side1 ?side2 A58.out).mono ?_
                  (case side1 => repeat (first | (with_reducible first | exact HB.out | apply below_alloc | apply pw_below_drewN | apply below_drew1 | refine below_set ?_ GE1664.out) | exact HB.out))
                  (case side2 => exact Kd.R_tight rfl HO_3.out)
                  rintro e w62 ⟨v1705, rfl, ho0, hb, hkp⟩
                  refine ⟨_, rfl, ?_⟩
                  have n0_ := Aside0.mk (blk_kept (by (with_reducible repeat (first | refine blk_drewN ?_ _ | refine blk_drew ?_ | refine blk_alloc ?_ _)); exact BK1664.out) hkp (fun hs_ => (fun e_ => (Kd.R_ne HO_3.out BK1664.out (by decide)) e_) hs_))
                  have n1_ := Aside0.mk (Kd.R_mono (ok' := fun k_ => True) ho0 (fun k_ hk_ => trivial))
                  have n2_ := Aside0.mk (hb)
                  clear BK1664
                  clear HB
                  clear HO_3
                  have BK1664 := n0_
                  have HO1706 := n1_
                  have HB := n2_
                  clear n0_ n1_ n2_
                  (try clear hb)
                  (try clear hkp)
                  (try clear ho0)
                  obtain ⟨Ao63, co63, eo63⟩ := Kd.R_slice HO1706.out
                  (first | subst eo63 | (injection eo63 with f1_ f2_ f3_; have f4_ := f1_.symm; have f5_ := f3_.symm; clear f1_ f2_ f3_; subst f4_; subst f5_))
                  refine hK.out _ _ ⟨(blk_cell BK1664.out 0).trans rfl, (blk_cell BK1664.out 1).trans rfl, (blk_cell BK1664.out 2).trans rfl, (blk_cell BK1664.out 3).trans rfl, (blk_cell BK1664.out 4).trans rfl, (blk_cell BK1664.out 5).trans rfl, (blk_cell BK1664.out 6).trans rfl, (blk_cell BK1664.out 7).trans rfl, (blk_cell BK1664.out 8).trans rfl, (blk_cell BK1664.out 9).trans rfl, (blk_cell BK1664.out 10).trans rfl, (blk_cell BK1664.out 11).trans rfl, (blk_cell BK1664.out 12).trans rfl, (blk_cell BK1664.out 13).trans rfl⟩ (fun hHeld => ?_)
                  clear hK K
                  refine norm_ (a' := ?_) ?_ ?_
                  rotate_left
                  · show Act.put _ (some 77) _ = _
                    simp only [Act.put, List.setIfInBounds_toArray, List.set_cons_zero, List.set_cons_succ, i64_w, i32_w]
                    rfl
                  refine one_ (i := 6) (N := some 81) #[true, true, true, true, true, true, true, false] rfl rfl (one_of HT_.out (by kernel_rfl)) (by decide) (fun K hK => ?_)
                  refine goes_ Try.func202 (by kernel_rfl) rfl #[.slice Ao63 t1704.length co63, .int .i64 (l0_12.length : Int)] (by rfl) rfl rfl (by (try simp only [List.map_toArray, List.map_cons, List.map_nil]); first | done | rfl | (simp only [List.length_drop, List.length_take]; rfl)) ?_
                  with_reducible refine (impl_putNum.calls kj54 (fun k_ => some k_ = (.slice Ao63 t1704.length co63 : Value).ownBlock) (.slice Ao63 t1704.length co63) t1704 (l0_12.length : Int) t1707 w _ ?side1 ?side2 A59.out).mono ?_
                  (case side1 => repeat (first | (with_reducible first | exact HB.out | apply below_alloc | apply pw_below_drewN | apply below_drew1 | refine below_set ?_ GE1664.out) | exact HB.out))
                  (case side2 => exact Kd.R_tight rfl HO1706.out)
                  rintro e w64 ⟨v1708, rfl, ho0, hb, hkp⟩
                  refine ⟨_, rfl, ?_⟩
                  have n0_ := Aside0.mk (blk_kept (by (with_reducible repeat (first | refine blk_drewN ?_ _ | refine blk_drew ?_ | refine blk_alloc ?_ _)); exact BK1664.out) hkp (fun hs_ => (fun e_ => (Kd.R_ne HO1706.out BK1664.out (by decide)) e_) hs_))
                  have n1_ := Aside0.mk (Kd.R_mono (ok' := fun k_ => True) ho0 (fun k_ hk_ => trivial))
                  have n2_ := Aside0.mk (hb)
                  clear BK1664
                  clear HB
                  clear HO1706
                  have BK1664 := n0_
                  have HO1709 := n1_
                  have HB := n2_
                  clear n0_ n1_ n2_
                  (try clear hb)
                  (try clear hkp)
                  (try clear ho0)
                  refine hK.out _ _ ⟨(blk_cell BK1664.out 0).trans rfl, (blk_cell BK1664.out 1).trans rfl, (blk_cell BK1664.out 2).trans rfl, (blk_cell BK1664.out 3).trans rfl, (blk_cell BK1664.out 4).trans rfl, (blk_cell BK1664.out 5).trans rfl, (blk_cell BK1664.out 6).trans rfl, (blk_cell BK1664.out 7).trans rfl, (blk_cell BK1664.out 8).trans rfl, (blk_cell BK1664.out 9).trans rfl, (blk_cell BK1664.out 10).trans rfl, (blk_cell BK1664.out 11).trans rfl, (blk_cell BK1664.out 12).trans rfl, (blk_cell BK1664.out 13).trans rfl⟩ (fun hHeld => ?_)
                  clear hK K
                  refine norm_ (a' := ?_) ?_ ?_
                  rotate_left
                  · show Act.put _ (some 81) _ = _
                    simp only [Act.put, List.setIfInBounds_toArray, List.set_cons_zero, List.set_cons_succ, i64_w, i32_w]
                    rfl
                  refine pure_ (i := 7) (N := some 3) (v := ?_) (a' := ?_) #[true, true, true, true, true, true, true, true] rfl rfl (any_of HT_.out (by kernel_rfl)) (fun _ _ _ h => h) (Or.inl ⟨by rfl, ?_⟩) ?_ ?_
                  rotate_left
                  · intro w'
                    go_simp
                    with_reducible rfl
                  rotate_left
                  · simp only [Act.put, List.setIfInBounds_toArray, List.set_cons_zero, List.set_cons_succ, i64_w, i32_w]
                    rfl
                  refine done_ (done_of HT_.out (by kernel_rfl)) ?_
                  obtain ⟨hcz65_0, hcz65_1, hcz65_2, hcz65_3, hcz65_4, hcz65_5, hcz65_6, hcz65_7, hcz65_8, hcz65_9, hcz65_10, hcz65_11, hcz65_12, hcz65_13⟩ := cells14 BK1664.out
                  obtain ⟨hfz65_0, hfz65_1, hfz65_2, hfz65_3, hfz65_4, hfz65_5, hfz65_6, hfz65_7, hfz65_8, hfz65_9, hfz65_10, hfz65_11, hfz65_12, hfz65_13⟩ := frozens14 BK1664.out
                  try go_wp2
                  go_loopg [3, 85] kj54 (fun kq v3 v85 w' => ∃ (x3_4 : List Int) (x85_4 : Int), v85 = .int .i64 x85_4 ∧ Aside0 (impl_putBlock.l2 kq x3_4 l0_12 (l0_12.length : Int) x85_4 a0_0 a0_1 a0_2 a0_3 a0_4 a0_5 l0_6 a0_7 l0_8 l0_9 l0_10 a0_11 l0_12 a0_13 = some r) ∧ Aside0 (kq ≤ kj54) ∧ Aside0 (Kd.R (Kd.int .u8) 5 w' w.heap.size (fun _ => True) v3 x3_4) ∧ Aside0 (w'.heap[gb1664]? = some (.cells #[.int .i64 a0_0, .int .i64 a0_1, .int .i64 a0_2, .string a0_3, .int .i64 a0_4, .int .i64 a0_5, (.slice A0_6 l0_6.length c0_6), .int .i64 a0_7, (.slice A0_8 l0_8.length c0_8), (.slice A0_9 l0_9.length c0_9), (.slice A0_10 l0_10.length c0_10), .bool a0_11, (.slice A0_12 l0_12.length c0_12), .string a0_13] 113 (0, 0))) ∧ Aside0 (Below w.heap.size w w'))
                  case atStart => exact ⟨(t1707), (0), (by first | rfl | (simp; done) | (simp [*]; done)), H', ⟨Nat.le_refl _⟩, ⟨by (with_reducible repeat (first | apply Kd.R_alloc | apply Kd.R_drewN | apply Kd.R_drew)); exact HO1709.out⟩, ⟨by (with_reducible repeat (first | refine blk_drewN ?_ _ | refine blk_drew ?_ | refine blk_alloc ?_ _)); exact BK1664.out⟩, ⟨by repeat (first | (with_reducible first | exact HB.out | apply below_alloc | apply pw_below_drewN | apply below_drew1 | refine below_set ?_ GE1664.out) | exact HB.out)⟩⟩
                  case round =>
                    clear H'
                    try clear c1
                    try clear p1
                    try clear q1
                    try clear hx1
                    try clear c2
                    try clear p2
                    try clear c3
                    try clear c4
                    try clear c5
                    try clear p6
                    try clear c16
                    try clear p16
                    try clear q16
                    try clear hx16
                    try clear c20
                    try clear c33
                    try clear c33b0
                    try clear c34
                    try clear c34b0
                    try clear c35
                    try clear c35b0
                    try clear c44
                    try clear c44b0
                    try clear c45
                    try clear c45b0
                    try clear c46
                    try clear c46b0
                    try clear c49
                    try clear c57
                    try clear p64
                    try clear hcz32_0
                    try clear hcz32_1
                    try clear hcz32_10
                    try clear hcz32_11
                    try clear hcz32_12
                    try clear hcz32_13
                    try clear hcz32_2
                    try clear hcz32_3
                    try clear hcz32_4
                    try clear hcz32_5
                    try clear hcz32_6
                    try clear hcz32_7
                    try clear hcz32_8
                    try clear hcz32_9
                    try clear hcz40_0
                    try clear hcz40_1
                    try clear hcz40_10
                    try clear hcz40_11
                    try clear hcz40_12
                    try clear hcz40_13
                    try clear hcz40_2
                    try clear hcz40_3
                    try clear hcz40_4
                    try clear hcz40_5
                    try clear hcz40_6
                    try clear hcz40_7
                    try clear hcz40_8
                    try clear hcz40_9
                    try clear hcz43_0
                    try clear hcz43_1
                    try clear hcz43_10
                    try clear hcz43_11
                    try clear hcz43_12
                    try clear hcz43_13
                    try clear hcz43_2
                    try clear hcz43_3
                    try clear hcz43_4
                    try clear hcz43_5
                    try clear hcz43_6
                    try clear hcz43_7
                    try clear hcz43_8
                    try clear hcz43_9
                    try clear hcz50_0
                    try clear hcz50_1
                    try clear hcz50_2
                    try clear hcz50_3
                    try clear hcz50_4
                    try clear hcz52_0
                    try clear hcz52_1
                    try clear hcz52_2
                    try clear hcz52_3
                    try clear hcz52_4
                    try clear hcz56_0
                    try clear hcz56_1
                    try clear hcz56_10
                    try clear hcz56_11
                    try clear hcz56_12
                    try clear hcz56_13
                    try clear hcz56_2
                    try clear hcz56_3
                    try clear hcz56_4
                    try clear hcz56_5
                    try clear hcz56_6
                    try clear hcz56_7
                    try clear hcz56_8
                    try clear hcz56_9
                    try clear hcz65_0
                    try clear hcz65_1
                    try clear hcz65_10
                    try clear hcz65_11
                    try clear hcz65_12
                    try clear hcz65_13
                    try clear hcz65_2
                    try clear hcz65_3
                    try clear hcz65_4
                    try clear hcz65_5
                    try clear hcz65_6
                    try clear hcz65_7
                    try clear hcz65_8
                    try clear hcz65_9
                    try clear hfz32_0
                    try clear hfz32_1
                    try clear hfz32_10
                    try clear hfz32_11
                    try clear hfz32_12
                    try clear hfz32_13
                    try clear hfz32_2
                    try clear hfz32_3
                    try clear hfz32_4
                    try clear hfz32_5
                    try clear hfz32_6
                    try clear hfz32_7
                    try clear hfz32_8
                    try clear hfz32_9
                    try clear hfz40_0
                    try clear hfz40_1
                    try clear hfz40_10
                    try clear hfz40_11
                    try clear hfz40_12
                    try clear hfz40_13
                    try clear hfz40_2
                    try clear hfz40_3
                    try clear hfz40_4
                    try clear hfz40_5
                    try clear hfz40_6
                    try clear hfz40_7
                    try clear hfz40_8
                    try clear hfz40_9
                    try clear hfz43_0
                    try clear hfz43_1
                    try clear hfz43_10
                    try clear hfz43_11
                    try clear hfz43_12
                    try clear hfz43_13
                    try clear hfz43_2
                    try clear hfz43_3
                    try clear hfz43_4
                    try clear hfz43_5
                    try clear hfz43_6
                    try clear hfz43_7
                    try clear hfz43_8
                    try clear hfz43_9
                    try clear hfz50_0
                    try clear hfz50_1
                    try clear hfz50_2
                    try clear hfz50_3
                    try clear hfz50_4
                    try clear hfz52_0
                    try clear hfz52_1
                    try clear hfz52_2
                    try clear hfz52_3
                    try clear hfz52_4
                    try clear hfz56_0
                    try clear hfz56_1
                    try clear hfz56_10
                    try clear hfz56_11
                    try clear hfz56_12
                    try clear hfz56_13
                    try clear hfz56_2
                    try clear hfz56_3
                    try clear hfz56_4
                    try clear hfz56_5
                    try clear hfz56_6
                    try clear hfz56_7
                    try clear hfz56_8
                    try clear hfz56_9
                    try clear hfz65_0
                    try clear hfz65_1
                    try clear hfz65_10
                    try clear hfz65_11
                    try clear hfz65_12
                    try clear hfz65_13
                    try clear hfz65_2
                    try clear hfz65_3
                    try clear hfz65_4
                    try clear hfz65_5
                    try clear hfz65_6
                    try clear hfz65_7
                    try clear hfz65_8
                    try clear hfz65_9
                    try clear hx1692_0
                    try clear hx1699_0
                    try clear hx1699_1
                    try clear hx1699_2
                    try clear hx1699_3
                    try clear hx1699_4
                    try clear p1
                    try clear p16
                    try clear p1692
                    try clear p1699
                    try clear p2
                    try clear p6
                    try clear q1
                    try clear q16
                    try clear q1692
                    try clear q1699
                    obtain ⟨x3_4, x85_4, rfl, HA, HK4, HO_3, BK1664, HB⟩ := hrel
                    cases gk with
                    | zero => exact absurd HA.out (by simp [impl_putBlock.l2])
                    | succ k4 =>
                      have H := HA.out
                      clear HA
                      simp only [impl_putBlock.l2] at H
                      by_cases c66 : x85_4 < (l0_12.length : Int)
                      · rw [if_pos c66] at H
                        have c66b0 : decide (x85_4 < (l0_12.length : Int)) = true := decide_eq_true c66
                        clear c66
                        by_cases c67 : 0 ≤ x85_4
                        · rw [if_pos c67] at H
                          have c67b0 : decide (0 ≤ x85_4) = true := decide_eq_true c67
                          clear c67
                          by_cases c68 : x85_4 < (l0_12.length : Int)
                          · rw [if_pos c68] at H
                            have c68b0 : decide (x85_4 < (l0_12.length : Int)) = true := decide_eq_true c68
                            clear c68
                            replace H := Option.bind_eq_some_iff.mp H
                            obtain ⟨t1712, A690, H⟩ := H
                            replace H : ((impl_putNum.f k4 t1712 ((rd_T138 l0_12 x85_4).f1)).bind fun t1715 => (impl_putBlock.l2 k4 t1715 l0_12 (l0_12.length : Int) (wrap64 (x85_4 + 1)) a0_0 a0_1 a0_2 a0_3 a0_4 a0_5 l0_6 a0_7 l0_8 l0_9 l0_10 a0_11 l0_12 a0_13)) = some r := H
                            have A69 := Aside0.mk A690
                            clear A690
                            replace H := Option.bind_eq_some_iff.mp H
                            obtain ⟨t1715, A700, H⟩ := H
                            replace H : (impl_putBlock.l2 k4 t1715 l0_12 (l0_12.length : Int) (wrap64 (x85_4 + 1)) a0_0 a0_1 a0_2 a0_3 a0_4 a0_5 l0_6 a0_7 l0_8 l0_9 l0_10 a0_11 l0_12 a0_13) = some r := H
                            have A70 := Aside0.mk A700
                            clear A700
                            have H' := Aside0.mk H
                            clear H
                            have p1710 : 0 ≤ (x85_4 : Int) := of_decide_eq_true (by first | (with_reducible assumption) | assumption)
                            have q1710 : x85_4 < (l0_12.length : Int) := of_decide_eq_true (by first | (with_reducible assumption) | assumption)
                            obtain ⟨ad1710, e1710, hx1710_0, hx1710_1⟩ := at_T138 HR0_12.out x85_4 p1710 q1710
                            cases e1710
                            replace hx1710_0 := (HB.out.cell (World.block_lt_of_cell? w _ hx1710_0)).trans hx1710_0
                            replace hx1710_1 := (HB.out.cell (World.block_lt_of_cell? w _ hx1710_1)).trans hx1710_1
                            replace p1710 := eq_true p1710
                            replace q1710 := eq_true q1710
                            try go_wp2_with (first | ((with_reducible refine gate_dst (N := 10) rfl ?_); refine box_event ?hg (N := 10) ?hd (cs := #[.string (⟨#[]⟩ : ByteArray), .int .i64 0]) (t := 138) ?hr ?_; (case hd => rfl); (case hg => rfl); (case hr => first | (go_simp; done) | (go_simp; rfl)); intro gb1711 hg w71 hbox hb; have n0_ := Aside0.mk (Kd.R_below (by (with_reducible repeat (first | apply Kd.R_alloc | apply Kd.R_drewN | apply Kd.R_drew)); exact HO_3.out) hb); have n1_ := Aside0.mk (blk_below (g := gb1664) (by (with_reducible repeat (first | refine blk_drewN ?_ _ | refine blk_drew ?_ | refine blk_alloc ?_ _)); exact BK1664.out) hb); have n2_ := Aside0.mk (below_step (by repeat (first | (with_reducible first | exact HB.out | apply below_alloc | apply pw_below_drewN | apply below_drew1 | refine below_set ?_ GE1664.out) | exact HB.out)) hb); have n3_ := Aside0.mk (hbox); have n4_ := Aside0.mk ((by rw [hg]; exact (below_size (by repeat (first | (with_reducible first | exact HB.out | apply below_alloc | apply pw_below_drewN | apply below_drew1 | refine below_set ?_ GE1664.out) | exact HB.out))) : w.heap.size ≤ gb1711)); have n5_ := Aside0.mk ((by rw [hg]; exact (below_size (by repeat (first | (with_reducible first | exact HB.out | apply below_alloc | apply pw_below_drewN | apply below_drew1 | refine below_set ?_ GE1664.out) | exact HB.out))) : w.heap.size ≤ gb1711)); have n6_ := Aside0.mk ((by rw [hg]; exact Nat.ne_of_lt (blk_lt (g := gb1664) (o := .cells #[.int .i64 a0_0, .int .i64 a0_1, .int .i64 a0_2, .string a0_3, .int .i64 a0_4, .int .i64 a0_5, .slice A0_6 l0_6.length c0_6, .int .i64 a0_7, .slice A0_8 l0_8.length c0_8, .slice A0_9 l0_9.length c0_9, .slice A0_10 l0_10.length c0_10, .bool a0_11, .slice (some ad1710) l0_12.length c0_12, .string a0_13] 113 (0, 0)) (by (with_reducible repeat (first | refine blk_drewN ?_ _ | refine blk_drew ?_ | refine blk_alloc ?_ _)); exact BK1664.out)) : gb1664 ≠ gb1711)); have n7_ := Aside0.mk ((by rw [hg]; exact Nat.ne_of_gt (blk_lt (g := gb1664) (o := .cells #[.int .i64 a0_0, .int .i64 a0_1, .int .i64 a0_2, .string a0_3, .int .i64 a0_4, .int .i64 a0_5, .slice A0_6 l0_6.length c0_6, .int .i64 a0_7, .slice A0_8 l0_8.length c0_8, .slice A0_9 l0_9.length c0_9, .slice A0_10 l0_10.length c0_10, .bool a0_11, .slice (some ad1710) l0_12.length c0_12, .string a0_13] 113 (0, 0)) (by (with_reducible repeat (first | refine blk_drewN ?_ _ | refine blk_drew ?_ | refine blk_alloc ?_ _)); exact BK1664.out)) : gb1711 ≠ gb1664)); clear HO_3; clear BK1664; clear HB; have HO_3 := n0_; have BK1664 := n1_; have HB := n2_; have BK1711 := n3_; have GW1711 := n4_; have GE1711 := n5_; have NB1664_1711 := n6_; have NB1711_1664 := n7_; clear n0_ n1_ n2_ n3_ n4_ n5_ n6_ n7_; clear hb hbox hg; have hnb72 := NB1711_1664.out; have hnc72 := NB1664_1711.out; obtain ⟨hcz73_0, hcz73_1⟩ := cells2 BK1711.out; obtain ⟨hfz73_0, hfz73_1⟩ := frozens2 BK1711.out))
                            have n0_ : Aside0 (Kd.R (Kd.int .u8) 5 ((w71.setCell ⟨gb1711, 0, none⟩ (.string ((rd_T138 l0_12 x85_4).f0))).setCell ⟨gb1711, 1, none⟩ (.int .i64 ((rd_T138 l0_12 x85_4).f1))) w.heap.size (fun _ => True) u3 x3_4) := ⟨by (with_reducible repeat (first | apply Kd.R_alloc | apply Kd.R_drewN | apply Kd.R_drew)); exact Kd.R_mono (Kd.R_far (p := ⟨gb1711, 1, none⟩) (Kd.R_far (p := ⟨gb1711, 0, none⟩) (Kd.R_types HO_3.out BK1711.out (by decide)) (fun _ hk => hk.2) (.string ((rd_T138 l0_12 x85_4).f0))) (fun _ hk => hk.2) (.int .i64 ((rd_T138 l0_12 x85_4).f1))) (fun _ hk => trivial)⟩
                            have n1_ : Aside0 (((w71.setCell ⟨gb1711, 0, none⟩ (.string ((rd_T138 l0_12 x85_4).f0))).setCell ⟨gb1711, 1, none⟩ (.int .i64 ((rd_T138 l0_12 x85_4).f1))).heap[gb1664]? = some (.cells #[.int .i64 a0_0, .int .i64 a0_1, .int .i64 a0_2, .string a0_3, .int .i64 a0_4, .int .i64 a0_5, .slice A0_6 l0_6.length c0_6, .int .i64 a0_7, .slice A0_8 l0_8.length c0_8, .slice A0_9 l0_9.length c0_9, .slice A0_10 l0_10.length c0_10, .bool a0_11, .slice (some ad1710) l0_12.length c0_12, .string a0_13] 113 (0, 0))) := ⟨by (with_reducible repeat (first | refine blk_drewN ?_ _ | refine blk_drew ?_ | refine blk_alloc ?_ _)); refine blk_far ?_ NB1664_1711.out _; (with_reducible repeat (first | refine blk_drewN ?_ _ | refine blk_drew ?_ | refine blk_alloc ?_ _)); refine blk_far ?_ NB1664_1711.out _; (with_reducible repeat (first | refine blk_drewN ?_ _ | refine blk_drew ?_ | refine blk_alloc ?_ _)); exact BK1664.out⟩
                            have n2_ : Aside0 (((w71.setCell ⟨gb1711, 0, none⟩ (.string ((rd_T138 l0_12 x85_4).f0))).setCell ⟨gb1711, 1, none⟩ (.int .i64 ((rd_T138 l0_12 x85_4).f1))).heap[gb1711]? = some (.cells #[.string ((rd_T138 l0_12 x85_4).f0), .int .i64 ((rd_T138 l0_12 x85_4).f1)] 138 (0, 0))) := ⟨by (with_reducible repeat (first | refine blk_drewN ?_ _ | refine blk_drew ?_ | refine blk_alloc ?_ _)); refine blk_put (cs := #[.string ((rd_T138 l0_12 x85_4).f0), .int .i64 0]) ?_ 1 _ rfl; (with_reducible repeat (first | refine blk_drewN ?_ _ | refine blk_drew ?_ | refine blk_alloc ?_ _)); refine blk_put (cs := #[.string (⟨#[]⟩ : ByteArray), .int .i64 0]) ?_ 0 _ rfl; (with_reducible repeat (first | refine blk_drewN ?_ _ | refine blk_drew ?_ | refine blk_alloc ?_ _)); exact BK1711.out⟩
                            have n3_ : Aside0 (Below w.heap.size w ((w71.setCell ⟨gb1711, 0, none⟩ (.string ((rd_T138 l0_12 x85_4).f0))).setCell ⟨gb1711, 1, none⟩ (.int .i64 ((rd_T138 l0_12 x85_4).f1)))) := ⟨by repeat (first | (with_reducible first | exact HB.out | apply below_alloc | apply pw_below_drewN | apply below_drew1 | refine below_set ?_ GE1664.out | refine below_set ?_ GE1711.out) | exact HB.out)⟩
                            (try clear HO_3)
                            (try clear BK1664)
                            (try clear BK1711)
                            (try clear HB)
                            generalize ((w71.setCell ⟨gb1711, 0, none⟩ (.string ((rd_T138 l0_12 x85_4).f0))).setCell ⟨gb1711, 1, none⟩ (.int .i64 ((rd_T138 l0_12 x85_4).f1))) = w74 at n0_ n1_ n2_ n3_ ⊢
                            have HO_3 := n0_
                            have BK1664 := n1_
                            have BK1711 := n2_
                            have HB := n3_
                            clear n0_ n1_ n2_ n3_
                            have n0_ := Aside0.mk (Kd.R_drew HO_3.out)
                            have n1_ := Aside0.mk (blk_drew BK1664.out)
                            have n2_ := Aside0.mk (blk_drew BK1711.out)
                            have n3_ := Aside0.mk (below_drew1 HB.out)
                            clear HO_3
                            clear BK1664
                            clear BK1711
                            clear HB
                            have HO_3 := n0_
                            have BK1664 := n1_
                            have BK1711 := n2_
                            have HB := n3_
                            clear n0_ n1_ n2_ n3_
                            obtain ⟨Ao76, co76, eo76⟩ := Kd.R_slice HO_3.out
                            (first | subst eo76 | (injection eo76 with f1_ f2_ f3_; have f4_ := f1_.symm; have f5_ := f3_.symm; clear f1_ f2_ f3_; subst f4_; subst f5_))
                            refine start_ (n := 8) (S := fun w' => w'.cell? ⟨gb1711, 0, none⟩ = some (.string ((rd_T138 l0_12 x85_4).f0)) ∧ w'.cell? ⟨gb1711, 1, none⟩ = some (.int .i64 ((rd_T138 l0_12 x85_4).f1))) (ds := []) #[false, false, false, false, false, false, false, false] (by kernel_rfl) rfl rfl ⟨(blk_cell BK1711.out 0).trans rfl, (blk_cell BK1711.out 1).trans rfl⟩ (fun hHeld => ?_); refine with_tabW impl_putBlock.tab22 impl_putBlock.bits22 (fun HT_ HW_ => ?_)
                            generalize w74.drew = w75 at HO_3 BK1664 BK1711 HB hHeld ⊢
                            refine pure_ (i := 0) (N := some 89) (v := ?_) (a' := ?_) #[true, false, false, false, false, false, false, false] rfl rfl (any_of HT_.out (by kernel_rfl)) (fun _ _ _ h => h) (Or.inl ⟨by rfl, ?_⟩) ?_ ?_
                            rotate_left
                            · intro w'
                              go_simp
                              with_reducible rfl
                            rotate_left
                            · simp only [Act.put, List.setIfInBounds_toArray, List.set_cons_zero, List.set_cons_succ, i64_w, i32_w]
                              rfl
                            refine pure_ (i := 1) (N := some 90) (v := ?_) (a' := ?_) #[true, true, false, false, false, false, false, false] rfl rfl (any_of HT_.out (by kernel_rfl)) (fun _ _ _ h => h) (Or.inl ⟨by rfl, ?_⟩) ?_ ?_
                            rotate_left
                            · intro w'
                              go_simp
                              with_reducible rfl
                            rotate_left
                            · simp only [Act.put, List.setIfInBounds_toArray, List.set_cons_zero, List.set_cons_succ, i64_w, i32_w]
                              rfl
                            refine pure_ (i := 4) (N := some 93) (v := ?_) (a' := ?_) #[true, true, false, false, true, false, false, false] rfl rfl (any_of HT_.out (by kernel_rfl)) (fun _ _ _ h => h) (Or.inl ⟨by rfl, ?_⟩) ?_ ?_
                            rotate_left
                            · intro w'
                              go_simp
                              with_reducible rfl
                            rotate_left
                            · simp only [Act.put, List.setIfInBounds_toArray, List.set_cons_zero, List.set_cons_succ, i64_w, i32_w]
                              rfl
                            refine take_ (i := 2) (N := some 91) (v := ?_) (a' := ?_) #[true, true, true, false, true, false, false, false] rfl rfl (take_ofW HT_.out HW_.out (by kernel_rfl)) (fun _ _ _ h => h) (Or.inl ⟨by rfl, ?_⟩) hHeld ?_ ?_
                            rotate_left
                            · rintro w' ⟨s0, s1⟩
                              go_simp
                              with_reducible rfl
                            rotate_left
                            · simp only [Act.put, List.setIfInBounds_toArray, List.set_cons_zero, List.set_cons_succ, i64_w, i32_w]
                              rfl
                            refine take_ (i := 5) (N := some 94) (v := ?_) (a' := ?_) #[true, true, true, false, true, true, false, false] rfl rfl (take_ofW HT_.out HW_.out (by kernel_rfl)) (fun _ _ _ h => h) (Or.inl ⟨by rfl, ?_⟩) hHeld ?_ ?_
                            rotate_left
                            · rintro w' ⟨s0, s1⟩
                              go_simp
                              with_reducible rfl
                            rotate_left
                            · simp only [Act.put, List.setIfInBounds_toArray, List.set_cons_zero, List.set_cons_succ, i64_w, i32_w]
                              rfl
                            refine one_ (i := 3) (N := some 92) #[true, true, true, true, true, true, false, false] rfl rfl (one_of HT_.out (by kernel_rfl)) (by decide) (fun K hK => ?_)
                            refine goes_ Try.func203 (by kernel_rfl) rfl #[.slice Ao76 x3_4.length co76, .string ((rd_T138 l0_12 x85_4).f0)] (by rfl) rfl rfl (by (try simp only [List.map_toArray, List.map_cons, List.map_nil]); first | done | rfl | (simp only [List.length_drop, List.length_take]; rfl)) ?_
                            with_reducible refine (impl_putText.calls k4 (fun k_ => some k_ = (.slice Ao76 x3_4.length co76 : Value).ownBlock) (.slice Ao76 x3_4.length co76) x3_4 ((rd_T138 l0_12 x85_4).f0) t1712 w _ ?side1 ?side2 A69.out).mono ?_
                            (case side1 => repeat (first | (with_reducible first | exact HB.out | apply below_alloc | apply pw_below_drewN | apply below_drew1 | refine below_set ?_ GE1664.out | refine below_set ?_ GE1711.out) | exact HB.out))
                            (case side2 => exact Kd.R_tight rfl HO_3.out)
                            rintro e w77 ⟨v1713, rfl, ho0, hb, hkp⟩
                            refine ⟨_, rfl, ?_⟩
                            have n0_ := Aside0.mk (blk_kept (by (with_reducible repeat (first | refine blk_drewN ?_ _ | refine blk_drew ?_ | refine blk_alloc ?_ _)); exact BK1664.out) hkp (fun hs_ => (fun e_ => (Kd.R_ne HO_3.out BK1664.out (by decide)) e_) hs_))
                            have n1_ := Aside0.mk (blk_kept (by (with_reducible repeat (first | refine blk_drewN ?_ _ | refine blk_drew ?_ | refine blk_alloc ?_ _)); exact BK1711.out) hkp (fun hs_ => (fun e_ => (Kd.R_ne HO_3.out BK1711.out (by decide)) e_) hs_))
                            have n2_ := Aside0.mk (Kd.R_mono (ok' := fun k_ => True) ho0 (fun k_ hk_ => trivial))
                            have n3_ := Aside0.mk (hb)
                            clear BK1664
                            clear BK1711
                            clear HB
                            clear HO_3
                            have BK1664 := n0_
                            have BK1711 := n1_
                            have HO1714 := n2_
                            have HB := n3_
                            clear n0_ n1_ n2_ n3_
                            (try clear hb)
                            (try clear hkp)
                            (try clear ho0)
                            obtain ⟨Ao78, co78, eo78⟩ := Kd.R_slice HO1714.out
                            (first | subst eo78 | (injection eo78 with f1_ f2_ f3_; have f4_ := f1_.symm; have f5_ := f3_.symm; clear f1_ f2_ f3_; subst f4_; subst f5_))
                            refine hK.out _ _ ⟨(blk_cell BK1711.out 0).trans rfl, (blk_cell BK1711.out 1).trans rfl⟩ (fun hHeld => ?_)
                            clear hK K
                            refine norm_ (a' := ?_) ?_ ?_
                            rotate_left
                            · show Act.put _ (some 92) _ = _
                              simp only [Act.put, List.setIfInBounds_toArray, List.set_cons_zero, List.set_cons_succ, i64_w, i32_w]
                              rfl
                            refine one_ (i := 6) (N := some 95) #[true, true, true, true, true, true, true, false] rfl rfl (one_of HT_.out (by kernel_rfl)) (by decide) (fun K hK => ?_)
                            refine goes_ Try.func202 (by kernel_rfl) rfl #[.slice Ao78 t1712.length co78, .int .i64 ((rd_T138 l0_12 x85_4).f1)] (by rfl) rfl rfl (by (try simp only [List.map_toArray, List.map_cons, List.map_nil]); first | done | rfl | (simp only [List.length_drop, List.length_take]; rfl)) ?_
                            with_reducible refine (impl_putNum.calls k4 (fun k_ => some k_ = (.slice Ao78 t1712.length co78 : Value).ownBlock) (.slice Ao78 t1712.length co78) t1712 ((rd_T138 l0_12 x85_4).f1) t1715 w _ ?side1 ?side2 A70.out).mono ?_
                            (case side1 => repeat (first | (with_reducible first | exact HB.out | apply below_alloc | apply pw_below_drewN | apply below_drew1 | refine below_set ?_ GE1664.out | refine below_set ?_ GE1711.out) | exact HB.out))
                            (case side2 => exact Kd.R_tight rfl HO1714.out)
                            rintro e w79 ⟨v1716, rfl, ho0, hb, hkp⟩
                            refine ⟨_, rfl, ?_⟩
                            have n0_ := Aside0.mk (blk_kept (by (with_reducible repeat (first | refine blk_drewN ?_ _ | refine blk_drew ?_ | refine blk_alloc ?_ _)); exact BK1664.out) hkp (fun hs_ => (fun e_ => (Kd.R_ne HO1714.out BK1664.out (by decide)) e_) hs_))
                            have n1_ := Aside0.mk (blk_kept (by (with_reducible repeat (first | refine blk_drewN ?_ _ | refine blk_drew ?_ | refine blk_alloc ?_ _)); exact BK1711.out) hkp (fun hs_ => (fun e_ => (Kd.R_ne HO1714.out BK1711.out (by decide)) e_) hs_))
                            have n2_ := Aside0.mk (Kd.R_mono (ok' := fun k_ => True) ho0 (fun k_ hk_ => trivial))
                            have n3_ := Aside0.mk (hb)
                            clear BK1664
                            clear BK1711
                            clear HB
                            clear HO1714
                            have BK1664 := n0_
                            have BK1711 := n1_
                            have HO1717 := n2_
                            have HB := n3_
                            clear n0_ n1_ n2_ n3_
                            (try clear hb)
                            (try clear hkp)
                            (try clear ho0)
                            refine hK.out _ _ ⟨(blk_cell BK1711.out 0).trans rfl, (blk_cell BK1711.out 1).trans rfl⟩ (fun hHeld => ?_)
                            clear hK K
                            refine norm_ (a' := ?_) ?_ ?_
                            rotate_left
                            · show Act.put _ (some 95) _ = _
                              simp only [Act.put, List.setIfInBounds_toArray, List.set_cons_zero, List.set_cons_succ, i64_w, i32_w]
                              rfl
                            refine pure_ (i := 7) (N := some 3) (v := ?_) (a' := ?_) #[true, true, true, true, true, true, true, true] rfl rfl (any_of HT_.out (by kernel_rfl)) (fun _ _ _ h => h) (Or.inl ⟨by rfl, ?_⟩) ?_ ?_
                            rotate_left
                            · intro w'
                              go_simp
                              with_reducible rfl
                            rotate_left
                            · simp only [Act.put, List.setIfInBounds_toArray, List.set_cons_zero, List.set_cons_succ, i64_w, i32_w]
                              rfl
                            refine done_ (done_of HT_.out (by kernel_rfl)) ?_
                            try go_wp2
                            go_roundg k4
                            case measure => have := HK1.out; have := HK2.out; have := HJ54.out; have := HK4.out; omega
                            case rel => exact ⟨(t1715), (wrap64 (x85_4 + 1)), (by first | rfl | (simp; done) | (simp [*]; done)), H', ⟨by have := HK1.out; have := HK2.out; have := HJ54.out; have := HK4.out; omega⟩, ⟨by (with_reducible repeat (first | apply Kd.R_alloc | apply Kd.R_drewN | apply Kd.R_drew)); exact HO1717.out⟩, ⟨by (with_reducible repeat (first | refine blk_drewN ?_ _ | refine blk_drew ?_ | refine blk_alloc ?_ _)); exact BK1664.out⟩, ⟨by repeat (first | (with_reducible first | exact HB.out | apply below_alloc | apply pw_below_drewN | apply below_drew1 | refine below_set ?_ GE1664.out | refine below_set ?_ GE1711.out) | exact HB.out)⟩⟩
                          · rw [if_neg c68] at H
                            exact absurd H (by simp)
                        · rw [if_neg c67] at H
                          exact absurd H (by simp)
                      · rw [if_neg c66] at H
                        have c66b0 : decide (x85_4 < (l0_12.length : Int)) = false := decide_eq_false c66
                        clear c66
                        replace H := Option.bind_eq_some_iff.mp H
                        obtain ⟨t1718, A800, H⟩ := H
                        replace H : (some t1718) = some r := H
                        have A80 := Aside0.mk A800
                        clear A800
                        obtain rfl := Option.some.inj H
                        obtain ⟨hcz81_0, hcz81_1, hcz81_2, hcz81_3, hcz81_4, hcz81_5, hcz81_6, hcz81_7, hcz81_8, hcz81_9, hcz81_10, hcz81_11, hcz81_12, hcz81_13⟩ := cells14 BK1664.out
                        obtain ⟨hfz81_0, hfz81_1, hfz81_2, hfz81_3, hfz81_4, hfz81_5, hfz81_6, hfz81_7, hfz81_8, hfz81_9, hfz81_10, hfz81_11, hfz81_12, hfz81_13⟩ := frozens14 BK1664.out
                        obtain ⟨Ao82, co82, eo82⟩ := Kd.R_slice HO_3.out
                        subst eo82
                        go_wp2_with (first | ((with_reducible refine gate_callee (f := 203) rfl ?_); refine goesL_ (some 100) rfl rfl Try.func203 (by kernel_rfl) rfl #[.slice Ao82 x3_4.length co82, .string a0_13] rfl (by (try simp only [List.map_toArray, List.map_cons, List.map_nil]); first | done | rfl | (simp only [List.length_drop, List.length_take]; rfl)) ?_; (with_reducible refine (impl_putText.calls k4 (fun k_ => some k_ = (.slice Ao82 x3_4.length co82 : Value).ownBlock) (.slice Ao82 x3_4.length co82) x3_4 a0_13 t1718 w _ ?side1 ?side2 A80.out).mono ?_); (case side1 => repeat (first | (with_reducible first | exact HB.out | apply below_alloc | apply pw_below_drewN | apply below_drew1 | refine below_set ?_ GE1664.out) | exact HB.out)); (case side2 => exact Kd.R_tight rfl HO_3.out); rintro e w83 ⟨v1719, rfl, ho0, hb, hkp⟩; refine ⟨_, rfl, ?_⟩; have n0_ := Aside0.mk (blk_kept (by (with_reducible repeat (first | refine blk_drewN ?_ _ | refine blk_drew ?_ | refine blk_alloc ?_ _)); exact BK1664.out) hkp (fun hs_ => (fun e_ => (Kd.R_ne HO_3.out BK1664.out (by decide)) e_) hs_)); have n1_ := Aside0.mk (Kd.R_mono (ok' := fun k_ => True) ho0 (fun k_ hk_ => trivial)); have n2_ := Aside0.mk (hb); clear BK1664; clear HB; clear HO_3; have BK1664 := n0_; have HO1720 := n1_; have HB := n2_; clear n0_ n1_ n2_; (try clear hb); (try clear hkp); (try clear ho0)))
                        go_ret
                        exact ⟨_, by first | rfl | (simp [errW_none, errW_some] <;> rfl) | (simp [*, errW_none, errW_some] <;> rfl), by (with_reducible repeat (first | apply Kd.R_alloc | apply Kd.R_drewN | apply Kd.R_drew)); exact HO1720.out, by repeat (first | (with_reducible first | exact HB.out | apply below_alloc | apply pw_below_drewN | apply below_drew1 | refine below_set ?_ GE1664.out) | exact HB.out)⟩

theorem impl_putBlock.vals {b : S113} {o : List Int} (hl : o.length + (b.f8.flatMap pVal ++ pText b.f9).length ≤ 50000000) (hn : b.f8.length ≤ 1048576) : Ev (fun k => impl_putBlock.l2 k o b.f8 (b.f8.length : Int) 0 b.f0 b.f1 b.f2 b.f3 b.f4.f0 b.f4.f1 b.f4.f2 b.f5.f0 b.f5.f1 b.f5.f2 b.f6 b.f7 b.f8 b.f9) (o ++ (b.f8.flatMap pVal ++ pText b.f9)) := by
  have hp : ∀ s : ByteArray, s.size ≤ (pText s).length := fun s => by unfold pText; rw [List.length_append, bytesOf_length]; omega
  rw [List.length_append] at hl
  refine ev_app (xs := b.f8) pVal (fun k x i => impl_putBlock.l2 k x b.f8 (b.f8.length : Int) i b.f0 b.f1 b.f2 b.f3 b.f4.f0 b.f4.f1 b.f4.f2 b.f5.f0 b.f5.f1 b.f5.f2 b.f6 b.f7 b.f8 b.f9) (o ++ (b.f8.flatMap pVal ++ pText b.f9)) o ?_ (fun pre y ys x hx he ih => ?_)
  · have h9 := hp b.f9
    simp only [impl_putBlock.l2]
    refine Ev.no (by omega) (Ev.bind (impl_putText.is b.f9 (by rw [List.length_append]; omega)) ?_)
    exact Ev.is (by simp only [List.append_assoc])
  · have hlen := len_app hx
    have hrd : rd_T138 b.f8 (pre.length : Int) = y := by rw [hx]; exact at_app pre y ys _
    have hx2 : x.length + ((pVal y).length + (ys.flatMap pVal).length) = o.length + (b.f8.flatMap pVal).length := by
      have := congrArg List.length he
      simp only [List.length_append] at this
      omega
    have hy := hp y.f0
    have hv : (pVal y).length = (pText y.f0).length + (pNum y.f1).length := by unfold pVal; rw [List.length_append]
    simp only [impl_putBlock.l2, hrd]
    refine Ev.yes (by omega) (Ev.yes (by omega) <| Ev.yes (by omega) <|  Ev.bind (impl_putText.is y.f0 (by omega)) (Ev.bind (impl_putNum.is y.f1 (by rw [List.length_append]; omega)) ?_))
    rw [unw (x := (pre.length : Int) + 1) (by omega) (by omega), List.append_assoc]
    exact ih
theorem impl_putBlock.txs {b : S113} {o : List Int} (hl : o.length + (b.f6.flatMap pTx ++ (pNum (endN b.f7) ++ (pNum (b.f8.length : Int) ++ (b.f8.flatMap pVal ++ pText b.f9)))).length ≤ 50000000) (hn : b.f6.length ≤ 1048576) (hn8 : b.f8.length ≤ 1048576) : Ev (fun k => impl_putBlock.l1 k o b.f6 (b.f6.length : Int) 0 b.f0 b.f1 b.f2 b.f3 b.f4.f0 b.f4.f1 b.f4.f2 b.f5.f0 b.f5.f1 b.f5.f2 b.f6 b.f7 b.f8 b.f9) (o ++ (b.f6.flatMap pTx ++ (pNum (endN b.f7) ++ (pNum (b.f8.length : Int) ++ (b.f8.flatMap pVal ++ pText b.f9))))) := by
  simp only [List.length_append] at hl
  have end_ : ∀ e : Int, endN b.f7 = e → Ev (fun k => impl_putBlock.j2 k (o ++ b.f6.flatMap pTx) e b.f0 b.f1 b.f2 b.f3 b.f4.f0 b.f4.f1 b.f4.f2 b.f5.f0 b.f5.f1 b.f5.f2 b.f6 b.f7 b.f8 b.f9) (o ++ (b.f6.flatMap pTx ++ (pNum (endN b.f7) ++ (pNum (b.f8.length : Int) ++ (b.f8.flatMap pVal ++ pText b.f9))))) := by
    intro e he
    rw [he] at hl ⊢
    refine Ev.up ?_
    simp only [impl_putBlock.j2]
    refine Ev.bind (impl_putNum.is e (by rw [List.length_append]; omega)) (Ev.bind (impl_putNum.is (b.f8.length : Int) (by simp only [List.length_append]; omega)) ?_)
    refine Ev.to (impl_putBlock.vals (b := b) (by simp only [List.length_append]; omega) hn8) ?_
    simp only [List.append_assoc]
  refine ev_app (xs := b.f6) pTx (fun k x i => impl_putBlock.l1 k x b.f6 (b.f6.length : Int) i b.f0 b.f1 b.f2 b.f3 b.f4.f0 b.f4.f1 b.f4.f2 b.f5.f0 b.f5.f1 b.f5.f2 b.f6 b.f7 b.f8 b.f9) _ o ?_ (fun pre y ys x hx he ih => ?_)
  · simp only [impl_putBlock.l1]
    refine Ev.no (by omega) ?_
    cases h7 : b.f7
    · rw [h7] at end_
      exact Ev.no (by decide) (end_ 0 rfl)
    · rw [h7] at end_
      exact Ev.yes rfl (end_ 1 rfl)
  · have hlen := len_app hx
    have hrd : rd_T186 b.f6 (pre.length : Int) = y := by rw [hx]; exact at_app pre y ys _
    have hx2 : x.length + ((pTx y).length + (ys.flatMap pTx).length) = o.length + (b.f6.flatMap pTx).length := by
      have := congrArg List.length he
      simp only [List.length_append] at this
      omega
    simp only [impl_putBlock.l1, hrd]
    refine Ev.yes (by omega) (Ev.yes (by omega) <| Ev.yes (by omega) <|  Ev.bind (impl_putTx.is y (by omega)) ?_)
    rw [unw (x := (pre.length : Int) + 1) (by omega) (by omega)]
    exact ih
theorem impl_putBlock.is {b : S113} (hb : blockOk b = true) : Ev (fun k => impl_putBlock.f k b.f0 b.f1 b.f2 b.f3 b.f4.f0 b.f4.f1 b.f4.f2 b.f5.f0 b.f5.f1 b.f5.f2 b.f6 b.f7 b.f8 b.f9) (pBlock b) := by
  unfold impl_putBlock.f
  obtain ⟨q, t, p3, x, v, p9, n1, n2, n3, n4, n5⟩ := blockOk_len hb
  have hp : b.f3.size ≤ (pText b.f3).length := by unfold pText; rw [List.length_append, bytesOf_length]; omega
  have a0 := pNum_len b.f0
  have a1 := pNum_len b.f1
  have a2 := pNum_len b.f2
  have a6 := pNum_len (b.f6.length : Int)
  have a7 := pNum_len (endN b.f7)
  have a8 := pNum_len (b.f8.length : Int)
  have q' : (pNum b.f4.f0).length + ((pNum b.f4.f1).length + (pNames b.f4.f2).length) ≤ 275 := by unfold pQc at q; simpa only [List.length_append] using q
  have t' : (pNum b.f5.f0).length + ((pNames b.f5.f1).length + (b.f5.f2.flatMap pNum).length) ≤ 370 := by unfold pTc at t; simpa only [List.length_append] using t
  refine Ev.bind (impl_putNum.is b.f0 (by simp only [List.length_nil]; omega)) (Ev.bind (impl_putNum.is b.f1 (by simp only [List.length_append, List.length_nil]; omega)) (Ev.bind (impl_putNum.is b.f2 (by simp only [List.length_append, List.length_nil]; omega)) (Ev.bind (impl_putText.is b.f3 (by simp only [List.length_append, List.length_nil]; omega)) (Ev.bind (impl_putNum.is b.f4.f0 (by simp only [List.length_append, List.length_nil]; omega)) (Ev.bind (impl_putNum.is b.f4.f1 (by simp only [List.length_append, List.length_nil]; omega)) (Ev.bind (impl_putNames.is (by simp only [List.length_append, List.length_nil]; omega) (by omega)) (Ev.bind (impl_putNum.is b.f5.f0 (by simp only [List.length_append, List.length_nil]; omega)) (Ev.bind (impl_putNames.is (by simp only [List.length_append, List.length_nil]; omega) (by omega)) ?_))))))))
  refine ev_app (xs := b.f5.f2) pNum (fun k x i => impl_putBlock.l0 k x b.f5.f2 (b.f5.f2.length : Int) i b.f0 b.f1 b.f2 b.f3 b.f4.f0 b.f4.f1 b.f4.f2 b.f5.f0 b.f5.f1 b.f5.f2 b.f6 b.f7 b.f8 b.f9) (pBlock b) _ ?_ (fun pre y ys x hx he ih => ?_)
  · simp only [impl_putBlock.l0]
    refine Ev.no (by omega) (Ev.bind (impl_putNum.is (b.f6.length : Int) (by simp only [List.length_append, List.length_nil]; omega)) ?_)
    refine Ev.to (impl_putBlock.txs (b := b) (by simp only [List.length_append, List.length_nil]; omega) (by omega) (by omega)) ?_
    unfold pBlock pQc pTc
    simp only [List.append_assoc, List.nil_append]
  · have hlen := len_app hx
    have hrd : rd b.f5.f2 (pre.length : Int) = y := by rw [hx]; exact at_app pre y ys _
    have hx2 := congrArg List.length he
    simp only [List.length_append, List.length_nil] at hx2
    simp only [impl_putBlock.l0, hrd]
    refine Ev.yes (by omega) (Ev.yes (by omega) (Ev.yes (by omega) (Ev.bind (impl_putNum.is y (by omega)) ?_)))
    rw [unw (x := (pre.length : Int) + 1) (by omega) (by omega)]
    exact ih

end Go.Proofs.Ytadkhkpchankjaa.F
