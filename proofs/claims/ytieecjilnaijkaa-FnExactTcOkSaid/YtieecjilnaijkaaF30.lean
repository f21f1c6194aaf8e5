/-
Functions of the program, what they come to, and that Go comes to just that: impl_TcOk, laws_FnExactTcOk.
Conditions: those that each theorem names.
-/
import Derived.Test.YtieecjilnaijkaaFAbs
import Derived.Test.YtieecjilnaijkaaF1
import Derived.Test.YtieecjilnaijkaaF8
import Derived.Test.YtieecjilnaijkaaF13
import Derived.Test.YtieecjilnaijkaaF21
import Derived.Test.YtieecjilnaijkaaF27
import Derived.Test.YtieecjilnaijkaaF28
import Derived.Test.YtieecjilnaijkaaF29
set_option linter.unusedVariables false
set_option linter.unusedSimpArgs false
namespace Go.Proofs.Ytieecjilnaijkaa.F
open Go.RowKit Go.Proofs.YtieecjilnaijkaaW.PrintWords Go.Proofs.YtieecjilnaijkaaW.PrintLast Go.Proofs.YtieecjilnaijkaaW.PrintMore Go.Proofs.Ytieecjilnaijkaa.Base Go.Proofs.Ytieecjilnaijkaa.BW
attribute [local go_sem] max2_int min2_int max_two min_two max_three min_three max_four min_four   -- for this text's walks alone

/-! ### impl_TcOk: walked in this session -/
set_option maxHeartbeats 1000000 in
set_option maxRecDepth 100000 in
theorem impl_TcOk.does {l : List S93} {q : S36} (hl : l.length ≤ maxLen) (hn : q.f1.length ≤ maxLen) (hw : ∀ s ∈ q.f1, s.size ≤ maxLen) (hh : q.f2.length ≤ maxLen) {B : Option Addr} {c : Nat} {cs : List Value} {w : World} (hr : Kd.C k93 w B l.length l) (hc : l.length ≤ c) (hK : k36.K w q cs) :
    Calls Try.prog 45 #[.slice B l.length c, .agg cs.toArray] w fun e w' => e = .returned (.bool (tcOk l q.f0 q.f1 q.f2)) ∧ Below w.heap.size w w' := by
  have hq := hK
  obtain ⟨D, d, F, h, rfl, l2, g2, l3, g3⟩ := k36_open hK
  have N0 := On.inBox (w := w) (cs := #[.int .i64 q.f0, .slice D q.f1.length d, .slice F q.f2.length h]) (t := 36) (i := 0) (v := .int .i64 q.f0) rfl
  have N1 := On.inBox (w := w) (cs := #[.int .i64 q.f0, .slice D q.f1.length d, .slice F q.f2.length h]) (t := 36) (i := 1) (v := .slice D q.f1.length d) rfl
  have N2 := On.inBox (w := w) (cs := #[.int .i64 q.f0, .slice D q.f1.length d, .slice F q.f2.length h]) (t := 36) (i := 2) (v := .slice F q.f2.length h) rfl
  have E1 := Aside0.mk (fun e : On (w.alloc (.cells #[.int .i64 q.f0, .slice D q.f1.length d, .slice F q.f2.length h] 36)) => impl_isNone.does (On.val hq e.boxed))
  have E2 := Aside0.mk (fun e : On (w.alloc (.cells #[.int .i64 q.f0, .slice D q.f1.length d, .slice F q.f2.length h] 36)) => impl_tcForm.does 10000 hn hw hh (On.val hq e.boxed))
  have E3 := Aside0.mk (fun e : On (w.alloc (.cells #[.int .i64 q.f0, .slice D q.f1.length d, .slice F q.f2.length h] 36)) => impl_IsQuorum.does hl hn (On.row hr e.boxed) hc (On.row g2 e.boxed) l2)
  have E4 := Aside0.mk (fun e : On (w.alloc (.cells #[.int .i64 q.f0, .slice D q.f1.length d, .slice F q.f2.length h] 36)) => impl_allIn.does hl hn (On.row hr e.boxed) hc (On.row g2 e.boxed) l2)
  have hat : tcOk l q.f0 q.f1 q.f2 = (noneT q.f0 q.f1 q.f2 || (tcForm q.f0 q.f1 q.f2 10000 && (quorum l q.f1 && allInB l q.f1))) := rfl
  simp only [On.boxed_now] at E1 E2 E3 E4
  clear hq hK hw hn hh hl hr g2 l2 g3 l3
  generalize noneT q.f0 q.f1 q.f2 = b1 at *
  generalize tcForm q.f0 q.f1 q.f2 10000 = b2 at *
  generalize quorum l q.f1 = b3 at *
  generalize allInB l q.f1 = b4 at *
  generalize tcOk l q.f0 q.f1 q.f2 = b at *
  subst hat
  cases b1
  · cases b2
    · go_enter Try.func45, Try.ntmps45
      go_wp2_with fail
      refine BW.call (e := On.here (w.alloc (.cells #[.int .i64 q.f0, .slice D q.f1.length d, .slice F q.f2.length h] 36))) (E1.out _) (fun e1 => ?_)
      go_wp2_with fail
      refine BW.call (E2.out _) (fun e2 => ?_)
      go_wp2
      go_ret
      exact ⟨rfl, e2.boxed.ok⟩
    · cases b3
      · go_enter Try.func45, Try.ntmps45
        go_wp2_with fail
        refine BW.call (e := On.here (w.alloc (.cells #[.int .i64 q.f0, .slice D q.f1.length d, .slice F q.f2.length h] 36))) (E1.out _) (fun e1 => ?_)
        go_wp2_with fail
        refine BW.call (E2.out _) (fun e2 => ?_)
        go_wp2_with fail
        refine BW.call (E3.out _) (fun e3 => ?_)
        go_wp2
        go_ret
        exact ⟨rfl, e3.boxed.ok⟩
      · go_enter Try.func45, Try.ntmps45
        go_wp2_with fail
        refine BW.call (e := On.here (w.alloc (.cells #[.int .i64 q.f0, .slice D q.f1.length d, .slice F q.f2.length h] 36))) (E1.out _) (fun e1 => ?_)
        go_wp2_with fail
        refine BW.call (E2.out _) (fun e2 => ?_)
        go_wp2_with fail
        refine BW.call (E3.out _) (fun e3 => ?_)
        go_wp2_with fail
        refine BW.call (E4.out _) (fun e4 => ?_)
        go_wp2
        go_ret
        exact ⟨rfl, e4.boxed.ok⟩
  · go_enter Try.func45, Try.ntmps45
    go_wp2_with fail
    refine BW.call (e := On.here (w.alloc (.cells #[.int .i64 q.f0, .slice D q.f1.length d, .slice F q.f2.length h] 36))) (E1.out _) (fun e1 => ?_)
    go_wp2
    go_ret
    exact ⟨rfl, e1.boxed.ok⟩

/-! ### laws_FnExactTcOk: walked in this session -/
set_option maxHeartbeats 2000000 in
set_option maxRecDepth 100000 in
theorem laws_FnExactTcOk.does (x0 : List S92) (hw : (fun l : List S92 => l.length ≤ maxLen ∧ ∀ x ∈ l, w92 x) x0) {B : Option Addr} {c : Nat} {w : World} (hr : Kd.C k92 w B x0.length x0) (hc : x0.length ≤ c)
    (x1 : S33) (hw1 : w33 x1) {cs : List Value} (hK : k33.K w x1 cs) :
    Calls Try.prog 10 #[.slice B x0.length c, .agg cs.toArray] w fun e w' => e = .returned (.bool true) ∧ Below w.heap.size w w' := by
  have hK' := hK
  obtain ⟨A2, c2, A3, c3, rfl, l2, g2, l3, g3⟩ := k33_open hK
  have hk0 := sums_nn hold92.nn x0
  have hk1 := hold33.nn x1
  obtain ⟨left, hleft⟩ : ∃ l : Int, l = szR ((x0.length : Int) + sums hold92 x0) 1048576 := ⟨_, rfl⟩
  have D0 := Aside0.mk (fun e : On (w.alloc (.cells #[.int .i64 x1.f0, .slice A2 x1.f1.length c2, .slice A3 x1.f2.length c3] 33)) => laws_szValS.does hw (left := 1048576) (by decide) (by decide) (On.row hr e.boxed) hc)
  simp only [On.boxed_now, ← hleft] at D0
  by_cases hd : left < 0
  · have hd' : decide (left < 0) = true := decide_eq_true hd
    clear hd hr hw hw1 hK' g2 g3 hleft hk0 hk1
    go_enter Try.func10, Try.ntmps10
    go_wp2_with fail
    refine BW.call (e := On.here (w.alloc (.cells #[.int .i64 x1.f0, .slice A2 x1.f1.length c2, .slice A3 x1.f2.length c3] 33))) (D0.out _) (fun e1 => ?_)
    go_wp2
    go_ret
    exact ⟨rfl, e1.boxed.ok⟩
  · have hl0 : ((x0.length : Int) + sums hold92 x0) ≤ 1048576 := by have := mt (szR_lt (h := (x0.length : Int) + sums hold92 x0) (left := 1048576) (by omega)).2 (by rw [← hleft]; exact hd); omega
    have hl1 : left ≤ 1048576 := by rw [hleft]; exact szR_up (by omega) (by omega)
    have hd' : decide (left < 0) = false := decide_eq_false hd
    have D1 := Aside0.mk (fun e : On (w.alloc (.cells #[.int .i64 x1.f0, .slice A2 x1.f1.length c2, .slice A3 x1.f2.length c3] 33)) => laws_szTc.does hw1 (left := left) (by omega) hl1 (On.val hK' e.boxed))
    obtain ⟨more, hmore⟩ : ∃ l : Int, l = szR (hold33 x1) left := ⟨_, rfl⟩
    simp only [On.boxed_now, ← hmore] at D1
    have N0 := On.inBox (w := w) (cs := #[.int .i64 x1.f0, .slice A2 x1.f1.length c2, .slice A3 x1.f2.length c3]) (t := 33) (i := 0) (v := .int .i64 x1.f0) rfl
    have N1 := On.inBox (w := w) (cs := #[.int .i64 x1.f0, .slice A2 x1.f1.length c2, .slice A3 x1.f2.length c3]) (t := 33) (i := 1) (v := .slice A2 x1.f1.length c2) rfl
    have N2 := On.inBox (w := w) (cs := #[.int .i64 x1.f0, .slice A2 x1.f1.length c2, .slice A3 x1.f2.length c3]) (t := 33) (i := 2) (v := .slice A3 x1.f2.length c3) rfl
    by_cases hm : more < 0
    · have hm' : decide (more < 0) = true := decide_eq_true hm
      clear hd hm hr hw hw1 hK' g2 g3 hleft hmore hk0 hk1 hl0 hl1
      go_enter Try.func10, Try.ntmps10
      go_wp2_with fail
      refine BW.call (e := On.here (w.alloc (.cells #[.int .i64 x1.f0, .slice A2 x1.f1.length c2, .slice A3 x1.f2.length c3] 33))) (D0.out _) (fun e1 => ?_)
      go_wp2_with fail
      refine BW.call (D1.out _) (fun e2 => ?_)
      go_wp2
      go_ret
      exact ⟨rfl, e2.boxed.ok⟩
    · have hm' : decide (more < 0) = false := decide_eq_false hm
      have hs1 : s33 x1 := small33 (by have := mt (szR_lt (h := hold33 x1) (left := left) (by omega)).2 (by rw [← hmore]; exact hm); omega)
      have hg1 := long33 hs1
      have hs : x0.length ≤ 1048576 := by omega
      have hl : (x0.map c92).length ≤ maxLen := by rw [List.length_map]; exact Nat.le_trans hs (by decide)
      have hl' : (x0.map c92).length ≤ 9223372036854775807 := hl
      have hn : (c33 x1).f1.length ≤ maxLen := hw1.2.1.1
      have hv : ∀ s ∈ (c33 x1).f1, s.size ≤ maxLen := hw1.2.1.2
      have hh : (c33 x1).f2.length ≤ maxLen := hw1.2.2.1
      have T0 := Aside0.mk (fun e : On w => laws_toValS.does hs (On.row hr e) hc)
      have T1 := Aside0.mk (fun e : On w => laws_toTc.does hs1 (On.val hK' e))
      have SP := Aside0.mk (fun (W : World) A d ds (h1 : (x0.map c92).length ≤ d) (hr : Kd.C k93 W A (x0.map c92).length (x0.map c92)) (hK : k36.K W (c33 x1) ds) => spec_TcOk.does (t := c33 x1) hl hn hv hh hr h1 hK)
      have IM := Aside0.mk (fun (W : World) A d ds (h1 : (x0.map c92).length ≤ d) (hr : Kd.C k93 W A (x0.map c92).length (x0.map c92)) (hK : k36.K W (c33 x1) ds) => impl_TcOk.does (q := c33 x1) hl hn hv hh hr h1 hK)
      have EQ := Aside0.mk (fun (W : World) A d A' d' (h1 : (x0.map c92).length ≤ d) (h2 : (x0.map c92).length ≤ d') (hr : Kd.C k93 W A (x0.map c92).length (x0.map c92)) (hr' : Kd.C k93 W A' (x0.map c92).length (x0.map c92)) => laws_eqValS.same hl' hr h1 hr' h2)
      have EQ1 := Aside0.mk (fun (W : World) ds ds' (hK : k36.K W (c33 x1) ds) (hL : k36.K W (c33 x1) ds') => laws_eqTc.same hg1 hK hL)
      clear hd hm hr hw hw1 hK' g2 g3 hleft hmore hk0 hk1 hl0 hl1 hs1 hg1 hs hl hl' hn hv hh hc
      generalize x0.map c92 = y at *
      generalize c33 x1 = q at *
      generalize tcOk y q.f0 q.f1 q.f2 = b at *
      go_enter Try.func10, Try.ntmps10
      go_wp2_with fail
      refine BW.call (e := On.here (w.alloc (.cells #[.int .i64 x1.f0, .slice A2 x1.f1.length c2, .slice A3 x1.f2.length c3] 33))) (D0.out _) (fun e1 => ?_)
      go_wp2_with fail
      refine BW.call (D1.out _) (fun e2 => ?_)
      go_wp2_with fail
      have HV : BW.Lasts (VL [IsV (.slice B x0.length c), RowV k93 y, IsV (.agg #[.int .i64 x1.f0, .slice A2 x1.f1.length c2, .slice A3 x1.f2.length c3]), AggV k36 q, IsV (.bool b), IsV (.bool b)]) := lasts_cons (last_is _) (lasts_cons (last_row _ _) (lasts_cons (last_is _) (lasts_cons (last_agg _ _) (lasts_cons (last_is _) (lasts_cons (last_is _) lasts_nil)))))
      refine BW.loose (n := 6) (by kernel_rfl) rfl (VL [IsV (.slice B x0.length c), RowV k93 y, IsV (.agg #[.int .i64 x1.f0, .slice A2 x1.f1.length c2, .slice A3 x1.f2.length c3]), AggV k36 q, IsV (.bool b), IsV (.bool b)]) HV [(0, 20), (1, 21), (2, 22), (3, 23), (4, 24), (5, 6)] (by kernel_rfl) (by kernel_rfl) (by kernel_rfl) (by rfl) ?_ ?_
      · show ∀ i ∈ [0, 1, 2, 3, 4, 5], _
        refine steps_cons ?_ (steps_cons ?_ (steps_cons ?_ (steps_cons ?_ (steps_cons ?_ (steps_cons ?_ steps_nil)))))
        · refine BW.loose_run HV (k := 0) rfl rfl rfl rfl rfl (fun b e vs hdep hv => ⟨_, rfl, ?_⟩)
          exact eval_off (by kernel_rfl)
        · refine BW.loose_call HV (k := 1) rfl rfl rfl rfl rfl rfl rfl rfl rfl (fun b e vs hdep hv => ?_)
          have h0 : vs 0 = _ := hv 0 (hdep 0 (by kernel_rfl))
          simp only [List.map_toArray, List.map_cons, List.map_nil]
          rw [eval_on (k := 0) (j := 0) rfl (by kernel_rfl) (hdep 0 (by kernel_rfl)) (by kernel_rfl), h0]
          exact (T0.out (e2.thens e).boxed).mono fun r W ⟨B, d, hr, hd, hR, hb⟩ => ⟨_, hr, ⟨B, d, rfl, hd, hR⟩, hb⟩
        · exact BW.loose_row HV (k := 2) rfl rfl rfl rfl rfl 33 rfl (by kernel_rfl) rfl e2.blk rfl rfl rfl (fun e => rfl)
        · refine BW.loose_call HV (k := 3) rfl rfl rfl rfl rfl rfl rfl rfl rfl (fun b e vs hdep hv => ?_)
          have h0 : vs 2 = _ := hv 2 (hdep 2 (by kernel_rfl))
          simp only [List.map_toArray, List.map_cons, List.map_nil]
          rw [eval_on (k := 2) (j := 2) rfl (by kernel_rfl) (hdep 2 (by kernel_rfl)) (by kernel_rfl), h0]
          exact (T1.out (e2.thens e).boxed).mono fun r W ⟨ds, hr, hR, hb⟩ => ⟨_, hr, ⟨ds, rfl, hR⟩, hb⟩
        · refine BW.loose_call HV (k := 4) rfl rfl rfl rfl rfl rfl rfl rfl rfl (fun b e vs hdep hv => ?_)
          obtain ⟨B1, d1, h1, hd1, hr1⟩ : RowV _ _ _ _ := hv 1 (hdep 1 (by kernel_rfl))
          obtain ⟨ds, h3, hk3⟩ : AggV _ _ _ _ := hv 3 (hdep 3 (by kernel_rfl))
          simp only [List.map_toArray, List.map_cons, List.map_nil]
          rw [eval_on (k := 1) (j := 1) rfl (by kernel_rfl) (hdep 1 (by kernel_rfl)) (by kernel_rfl), h1, eval_on (k := 3) (j := 3) rfl (by kernel_rfl) (hdep 3 (by kernel_rfl)) (by kernel_rfl), h3]
          exact (SP.out _ _ _ _ hd1 hr1 hk3).mono fun r W ⟨hr, hb⟩ => ⟨_, hr, rfl, hb⟩
        · refine BW.loose_run HV (k := 5) rfl rfl rfl rfl rfl (fun b e vs hdep hv => ⟨_, rfl, ?_⟩)
          exact (eval_on (k := 4) (j := 4) rfl (by kernel_rfl) (hdep 4 (by kernel_rfl)) (by kernel_rfl)).trans (hv 4 (hdep 4 (by kernel_rfl)))
      · intro e vs hv
        have h0 : vs 0 = _ := hv 0 (by decide)
        have h2 : vs 2 = _ := hv 2 (by decide)
        have h4 : vs 4 = _ := hv 4 (by decide)
        have h5 : vs 5 = _ := hv 5 (by decide)
        simp only [fillL, List.map_cons, List.map_nil, putSel, if_true, Act.put, List.setIfInBounds_toArray, List.set_cons_zero, List.set_cons_succ]
        rw [h0, h2, h4, h5]
        clear hv h0 h2 h4 h5
        clear SP
        obtain ⟨e3, he3⟩ : ∃ e3 : On (w.alloc (.cells #[.int .i64 x1.f0, .slice A2 x1.f1.length c2, .slice A3 x1.f2.length c3] 33)), e.now = e3.now := ⟨e2.thens e, rfl⟩
        rw [he3]
        clear he3 e e2 HV
        go_wp2_with fail
        refine (T0.out e3.boxed).mono ?_
        rintro _ W4 ⟨B4, d4, rfl, hd4, hR4, hb4⟩
        obtain ⟨e4, rfl⟩ := e3.next hb4
        clear hb4
        go_wp2_with fail
        refine (T1.out e4.boxed).mono ?_
        rintro _ W5 ⟨ds5, rfl, hK5, hb5⟩
        obtain ⟨e5, rfl⟩ := e4.next hb5
        have hR5 := Kd.C_below hR4 hb5
        clear hb5 hR4
        have hK5' := hK5
        obtain ⟨A5, c5, A6, c6, rfl, l5, g5, l6, g6⟩ := k36_open hK5
        go_wp2_with fail
        have P0 := On.old (e := e5) (o := .cells #[.int .i64 q.f0, .slice A5 q.f1.length c5, .slice A6 q.f2.length c6] 36) N0
        have P1 := On.old (e := e5) (o := .cells #[.int .i64 q.f0, .slice A5 q.f1.length c5, .slice A6 q.f2.length c6] 36) N1
        have P2 := On.old (e := e5) (o := .cells #[.int .i64 q.f0, .slice A5 q.f1.length c5, .slice A6 q.f2.length c6] 36) N2
        clear N0 N1 N2
        refine BW.call (e := On.here (e5.now.alloc (.cells #[.int .i64 q.f0, .slice A5 q.f1.length c5, .slice A6 q.f2.length c6] 36))) (IM.out _ _ _ _ hd4 (On.row hR5 (On.here _).boxed) (On.val hK5' (On.here _).boxed)) (fun e6 => ?_)
        clear IM
        go_wp2_with fail
        refine (T0.out (e5.up e6).boxed).mono ?_
        rintro _ W7 ⟨B7, d7, rfl, hd7, hR7, hb7⟩
        obtain ⟨e7, rfl⟩ := e6.next hb7
        clear hb7 T0
        go_wp2_with fail
        refine BW.call (EQ.out _ _ _ _ _ hd4 hd7 (On.row hR5 e7.boxed) hR7) (fun e8 => ?_)
        clear EQ
        go_wp2_with fail
        have HV : BW.Lasts (VL [IsV (.agg #[.int .i64 q.f0, .slice A5 q.f1.length c5, .slice A6 q.f2.length c6]), IsV (.agg #[.int .i64 x1.f0, .slice A2 x1.f1.length c2, .slice A3 x1.f2.length c3]), AggV k36 q, IsV (.bool true), IsV (.bool false)]) := lasts_cons (last_is _) (lasts_cons (last_is _) (lasts_cons (last_agg _ _) (lasts_cons (last_is _) (lasts_cons (last_is _) lasts_nil))))
        refine BW.loose (n := 5) (by kernel_rfl) rfl (VL [IsV (.agg #[.int .i64 q.f0, .slice A5 q.f1.length c5, .slice A6 q.f2.length c6]), IsV (.agg #[.int .i64 x1.f0, .slice A2 x1.f1.length c2, .slice A3 x1.f2.length c3]), AggV k36 q, IsV (.bool true), IsV (.bool false)]) HV [(0, 40), (1, 41), (2, 42), (3, 43), (4, 44)] (by kernel_rfl) (by kernel_rfl) (by kernel_rfl) (by rfl) ?_ ?_
        · show ∀ i ∈ [0, 1, 2, 3, 4], _
          refine steps_cons ?_ (steps_cons ?_ (steps_cons ?_ (steps_cons ?_ (steps_cons ?_ steps_nil))))
          · exact BW.loose_row HV (k := 0) rfl rfl rfl rfl rfl 36 rfl (by kernel_rfl) rfl e8.blk rfl rfl rfl (fun e => rfl)
          · exact BW.loose_row HV (k := 1) rfl rfl rfl rfl rfl 33 rfl (by kernel_rfl) rfl (e5.up e8).blk rfl rfl rfl (fun e => rfl)
          · refine BW.loose_call HV (k := 2) rfl rfl rfl rfl rfl rfl rfl rfl rfl (fun b e vs hdep hv => ?_)
            have h0 : vs 1 = _ := hv 1 (hdep 1 (by kernel_rfl))
            simp only [List.map_toArray, List.map_cons, List.map_nil]
            rw [eval_on (k := 1) (j := 1) rfl (by kernel_rfl) (hdep 1 (by kernel_rfl)) (by kernel_rfl), h0]
            exact (T1.out (e5.up (e8.thens e)).boxed).mono fun r W ⟨ds, hr, hR, hb⟩ => ⟨_, hr, ⟨ds, rfl, hR⟩, hb⟩
          · refine BW.loose_call HV (k := 3) rfl rfl rfl rfl rfl rfl rfl rfl rfl (fun b e vs hdep hv => ?_)
            have h0 : vs 0 = _ := hv 0 (hdep 0 (by kernel_rfl))
            obtain ⟨ds, h2, hk2⟩ : AggV _ _ _ _ := hv 2 (hdep 2 (by kernel_rfl))
            simp only [List.map_toArray, List.map_cons, List.map_nil]
            rw [eval_on (k := 0) (j := 0) rfl (by kernel_rfl) (hdep 0 (by kernel_rfl)) (by kernel_rfl), h0, eval_on (k := 2) (j := 2) rfl (by kernel_rfl) (hdep 2 (by kernel_rfl)) (by kernel_rfl), h2]
            exact (EQ1.out _ _ _ (On.val hK5' (e8.thens e).boxed) hk2).mono fun r W ⟨hr, hb⟩ => ⟨_, hr, rfl, hb⟩
          · exact BW.loose_not HV (k := 4) rfl rfl rfl rfl rfl rfl (m := 3) (j := 3) rfl (by kernel_rfl) (by kernel_rfl) (by kernel_rfl) (c := true) (fun W v h => h) (fun W => rfl)
        · intro e vs hv
          have h0 : vs 0 = _ := hv 0 (by decide)
          have h1 : vs 1 = _ := hv 1 (by decide)
          have h3 : vs 3 = _ := hv 3 (by decide)
          have h4 : vs 4 = _ := hv 4 (by decide)
          simp only [fillL, List.map_cons, List.map_nil, putSel, if_true, Act.put, List.setIfInBounds_toArray, List.set_cons_zero, List.set_cons_succ]
          rw [h0, h1, h3, h4]
          clear hv h0 h1 h3 h4
          go_wp2
          go_ret
          exact ⟨rfl, (e5.up (e8.thens e)).boxed.ok⟩

end Go.Proofs.Ytieecjilnaijkaa.F
