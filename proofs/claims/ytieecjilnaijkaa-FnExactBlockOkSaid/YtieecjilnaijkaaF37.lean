/-
Functions of the program, what they come to, and that Go comes to just that: laws_FnExactBlockOk.
Conditions: those that each theorem names.
-/
import Derived.Test.YtieecjilnaijkaaFAbs
import Derived.Test.YtieecjilnaijkaaF31
import Derived.Test.YtieecjilnaijkaaF36
set_option linter.unusedVariables false
set_option linter.unusedSimpArgs false
namespace Go.Proofs.Ytieecjilnaijkaa.F
open Go.RowKit Go.Proofs.YtieecjilnaijkaaW.PrintWords Go.Proofs.YtieecjilnaijkaaW.PrintLast Go.Proofs.Ytieecjilnaijkaa.Base Go.Proofs.Ytieecjilnaijkaa.BW

/-! ### laws_FnExactBlockOk: printed by lawwalk.py -/
set_option maxHeartbeats 4000000 in
set_option maxRecDepth 100000 in
theorem laws_FnExactBlockOk.does {w : World} (x0 : S64) (hw0 : w64 x0) {cs0 : List Value} (hK0 : k64.K w x0 cs0) :
    Calls Try.prog 13 #[.agg cs0.toArray] w fun e w' => e = .returned (.bool true) ∧ Below w.heap.size w w' := by
  have hK0' := hK0
  obtain ⟨A0_6, c0_6, A0_8, c0_8, A0_9, c0_9, A0_10, c0_10, A0_12, c0_12, rfl, l0_6, g0_6, l0_8, g0_8, l0_9, g0_9, l0_10, g0_10, l0_12, g0_12⟩ := k64_open hK0
  have nn0 := hold64.nn x0
  have NB0 := fun e : On (w.alloc (.cells #[.int .i64 x0.f0, .int .i64 x0.f1, .int .i64 x0.f2, .string x0.f3, .int .i64 x0.f4.f0, .int .i64 x0.f4.f1, .slice A0_6 x0.f4.f2.length c0_6, .int .i64 x0.f5.f0, .slice A0_8 x0.f5.f1.length c0_8, .slice A0_9 x0.f5.f2.length c0_9, .slice A0_10 x0.f6.length c0_10, .bool x0.f7, .slice A0_12 x0.f8.length c0_12, .string x0.f9] 64)) => cells14 (On.blk e)
  have N0_0 := fun e => (NB0 e).1
  have N0_1 := fun e => (NB0 e).2.1
  have N0_2 := fun e => (NB0 e).2.2.1
  have N0_3 := fun e => (NB0 e).2.2.2.1
  have N0_4 := fun e => (NB0 e).2.2.2.2.1
  have N0_5 := fun e => (NB0 e).2.2.2.2.2.1
  have N0_6 := fun e => (NB0 e).2.2.2.2.2.2.1
  have N0_7 := fun e => (NB0 e).2.2.2.2.2.2.2.1
  have N0_8 := fun e => (NB0 e).2.2.2.2.2.2.2.2.1
  have N0_9 := fun e => (NB0 e).2.2.2.2.2.2.2.2.2.1
  have N0_10 := fun e => (NB0 e).2.2.2.2.2.2.2.2.2.2.1
  have N0_11 := fun e => (NB0 e).2.2.2.2.2.2.2.2.2.2.2.1
  have N0_12 := fun e => (NB0 e).2.2.2.2.2.2.2.2.2.2.2.2.1
  have N0_13 := fun e => (NB0 e).2.2.2.2.2.2.2.2.2.2.2.2.2
  clear NB0
  have D0 := Aside0.mk (fun e : On (w.alloc (.cells #[.int .i64 x0.f0, .int .i64 x0.f1, .int .i64 x0.f2, .string x0.f3, .int .i64 x0.f4.f0, .int .i64 x0.f4.f1, .slice A0_6 x0.f4.f2.length c0_6, .int .i64 x0.f5.f0, .slice A0_8 x0.f5.f1.length c0_8, .slice A0_9 x0.f5.f2.length c0_9, .slice A0_10 x0.f6.length c0_10, .bool x0.f7, .slice A0_12 x0.f8.length c0_12, .string x0.f9] 64)) => laws_szBlock.does hw0 (left := 1048576) (by omega) (by omega) (On.val hK0' (e.boxed)))
  obtain ⟨left0, hleft0⟩ : ∃ l : Int, l = szR (hold64 x0) 1048576 := ⟨_, rfl⟩
  simp only [On.boxed_now, ← hleft0] at D0
  by_cases hd0 : left0 < 0
  · have hdd : decide (left0 < 0) = true := decide_eq_true hd0
    clear hw0 hK0' nn0 g0_6 l0_6 g0_8 l0_8 g0_9 l0_9 g0_10 l0_10 g0_12 l0_12
    clear hleft0 hd0
    go_enter Try.func13, Try.ntmps13
    go_wp2_with fail
    refine BW.call (e := On.here (w.alloc (.cells #[.int .i64 x0.f0, .int .i64 x0.f1, .int .i64 x0.f2, .string x0.f3, .int .i64 x0.f4.f0, .int .i64 x0.f4.f1, .slice A0_6 x0.f4.f2.length c0_6, .int .i64 x0.f5.f0, .slice A0_8 x0.f5.f1.length c0_8, .slice A0_9 x0.f5.f2.length c0_9, .slice A0_10 x0.f6.length c0_10, .bool x0.f7, .slice A0_12 x0.f8.length c0_12, .string x0.f9] 64))) (D0.out _) (fun e0 => ?_)
    go_wp2
    go_ret
    exact ⟨rfl, (e0.boxed).ok⟩
  · have hdd0 : decide (left0 < 0) = false := decide_eq_false hd0
    have hl0 : left0 ≤ 1048576 := by rw [hleft0]; exact szR_up (by omega) (by omega)
    have hm0 : hold64 x0 ≤ 1048576 := by have := mt (szR_lt (h := hold64 x0) (left := 1048576) (by omega)).2 (by rw [← hleft0]; exact hd0); omega
    have hs0 : s64 x0 := small64 hm0
    have hg0 := long64 hs0
    have hz : blockFit (c64 x0) := blockFit_of hw0
    have T0 := Aside0.mk (fun e : On w => laws_toBlock.does hs0 (On.val hK0' e))
    have SP := Aside0.mk (fun (W : World) ds0 (hK0 : k68.K W (c64 x0) ds0) => spec_BlockOk.does (b := (c64 x0)) hz hK0)
    have IM := Aside0.mk (fun (W : World) ds0 (hK0 : k68.K W (c64 x0) ds0) => impl_BlockOk.does (b := (c64 x0)) hz hK0)
    have EQ0 := Aside0.mk (fun (W : World) ds ds' (hK : k68.K W (c64 x0) ds) (hL : k68.K W (c64 x0) ds') => laws_eqBlock.same hg0 hK hL)
    clear hw0 hK0' nn0 hleft0 hd0 hl0 hm0 hs0 hg0 g0_6 l0_6 g0_8 l0_8 g0_9 l0_9 g0_10 l0_10 g0_12 l0_12 hz
    generalize hb : blockOk (c64 x0) = b at *
    clear hb
    generalize c64 x0 = y0 at *
    go_enter Try.func13, Try.ntmps13
    go_wp2_with fail
    refine BW.call (e := On.here (w.alloc (.cells #[.int .i64 x0.f0, .int .i64 x0.f1, .int .i64 x0.f2, .string x0.f3, .int .i64 x0.f4.f0, .int .i64 x0.f4.f1, .slice A0_6 x0.f4.f2.length c0_6, .int .i64 x0.f5.f0, .slice A0_8 x0.f5.f1.length c0_8, .slice A0_9 x0.f5.f2.length c0_9, .slice A0_10 x0.f6.length c0_10, .bool x0.f7, .slice A0_12 x0.f8.length c0_12, .string x0.f9] 64))) (D0.out _) (fun e0 => ?_)
    go_wp2_with fail
    refine (T0.out e0.boxed).mono ?_
    rintro _ W1 ⟨dz1, rfl, hZ1, hb1⟩
    obtain ⟨e1, rfl⟩ := e0.next hb1
    clear hb1
    go_wp2_with fail
    refine BW.call (e := e1) (SP.out _ _ (On.val hZ1 (On.here _))) (fun e2 => ?_)
    go_wp2_with fail
    refine (T0.out e2.boxed).mono ?_
    rintro _ W3 ⟨dz3, rfl, hZ3, hb3⟩
    obtain ⟨e3, rfl⟩ := e2.next hb3
    clear hb3
    have hG0 := hZ3
    obtain ⟨B0_6, d0_6, B0_8, d0_8, B0_9, d0_9, B0_10, d0_10, B0_12, d0_12, rfl, m0_6, h0_6, m0_8, h0_8, m0_9, h0_9, m0_10, h0_10, m0_12, h0_12⟩ := k68_open hZ3
    clear m0_6 h0_6 m0_8 h0_8 m0_9 h0_9 m0_10 h0_10 m0_12 h0_12
    have MB0 := fun e : On (e3.now.alloc (.cells #[.int .i64 y0.f0, .int .i64 y0.f1, .int .i64 y0.f2, .string y0.f3, .int .i64 y0.f4.f0, .int .i64 y0.f4.f1, .slice B0_6 y0.f4.f2.length d0_6, .int .i64 y0.f5.f0, .slice B0_8 y0.f5.f1.length d0_8, .slice B0_9 y0.f5.f2.length d0_9, .slice B0_10 y0.f6.length d0_10, .bool y0.f7, .slice B0_12 y0.f8.length d0_12, .string y0.f9] 68)) => cells14 (On.blk e)
    have N0_0' := On.oldBy MB0 N0_0
    have N0_1' := On.oldBy MB0 N0_1
    have N0_2' := On.oldBy MB0 N0_2
    have N0_3' := On.oldBy MB0 N0_3
    have N0_4' := On.oldBy MB0 N0_4
    have N0_5' := On.oldBy MB0 N0_5
    have N0_6' := On.oldBy MB0 N0_6
    have N0_7' := On.oldBy MB0 N0_7
    have N0_8' := On.oldBy MB0 N0_8
    have N0_9' := On.oldBy MB0 N0_9
    have N0_10' := On.oldBy MB0 N0_10
    have N0_11' := On.oldBy MB0 N0_11
    have N0_12' := On.oldBy MB0 N0_12
    have N0_13' := On.oldBy MB0 N0_13
    clear N0_0 N0_1 N0_2 N0_3 N0_4 N0_5 N0_6 N0_7 N0_8 N0_9 N0_10 N0_11 N0_12 N0_13
    have M0_0 := fun e => (MB0 e).1
    have M0_1 := fun e => (MB0 e).2.1
    have M0_2 := fun e => (MB0 e).2.2.1
    have M0_3 := fun e => (MB0 e).2.2.2.1
    have M0_4 := fun e => (MB0 e).2.2.2.2.1
    have M0_5 := fun e => (MB0 e).2.2.2.2.2.1
    have M0_6 := fun e => (MB0 e).2.2.2.2.2.2.1
    have M0_7 := fun e => (MB0 e).2.2.2.2.2.2.2.1
    have M0_8 := fun e => (MB0 e).2.2.2.2.2.2.2.2.1
    have M0_9 := fun e => (MB0 e).2.2.2.2.2.2.2.2.2.1
    have M0_10 := fun e => (MB0 e).2.2.2.2.2.2.2.2.2.2.1
    have M0_11 := fun e => (MB0 e).2.2.2.2.2.2.2.2.2.2.2.1
    have M0_12 := fun e => (MB0 e).2.2.2.2.2.2.2.2.2.2.2.2.1
    have M0_13 := fun e => (MB0 e).2.2.2.2.2.2.2.2.2.2.2.2.2
    clear MB0
    go_wp2_with fail
    refine BW.call (e := On.here (e3.now.alloc (.cells #[.int .i64 y0.f0, .int .i64 y0.f1, .int .i64 y0.f2, .string y0.f3, .int .i64 y0.f4.f0, .int .i64 y0.f4.f1, .slice B0_6 y0.f4.f2.length d0_6, .int .i64 y0.f5.f0, .slice B0_8 y0.f5.f1.length d0_8, .slice B0_9 y0.f5.f2.length d0_9, .slice B0_10 y0.f6.length d0_10, .bool y0.f7, .slice B0_12 y0.f8.length d0_12, .string y0.f9] 68))) (IM.out _ _ (On.val hG0 (On.here _).boxed)) (fun e4 => ?_)
    go_wp2_with fail
    have HV : BW.Lasts (VL [IsV (.agg #[.int .i64 y0.f0, .int .i64 y0.f1, .int .i64 y0.f2, .string y0.f3, .int .i64 y0.f4.f0, .int .i64 y0.f4.f1, .slice B0_6 y0.f4.f2.length d0_6, .int .i64 y0.f5.f0, .slice B0_8 y0.f5.f1.length d0_8, .slice B0_9 y0.f5.f2.length d0_9, .slice B0_10 y0.f6.length d0_10, .bool y0.f7, .slice B0_12 y0.f8.length d0_12, .string y0.f9]), IsV (.agg #[.int .i64 x0.f0, .int .i64 x0.f1, .int .i64 x0.f2, .string x0.f3, .int .i64 x0.f4.f0, .int .i64 x0.f4.f1, .slice A0_6 x0.f4.f2.length c0_6, .int .i64 x0.f5.f0, .slice A0_8 x0.f5.f1.length c0_8, .slice A0_9 x0.f5.f2.length c0_9, .slice A0_10 x0.f6.length c0_10, .bool x0.f7, .slice A0_12 x0.f8.length c0_12, .string x0.f9]), AggV k68 y0, IsV (.bool true), IsV (.bool false)]) := lasts_cons (last_is _) (lasts_cons (last_is _) (lasts_cons (last_agg _ _) (lasts_cons (last_is _) (lasts_cons (last_is _) lasts_nil))))
    refine BW.loose (n := 5) (by kernel_rfl) rfl (VL [IsV (.agg #[.int .i64 y0.f0, .int .i64 y0.f1, .int .i64 y0.f2, .string y0.f3, .int .i64 y0.f4.f0, .int .i64 y0.f4.f1, .slice B0_6 y0.f4.f2.length d0_6, .int .i64 y0.f5.f0, .slice B0_8 y0.f5.f1.length d0_8, .slice B0_9 y0.f5.f2.length d0_9, .slice B0_10 y0.f6.length d0_10, .bool y0.f7, .slice B0_12 y0.f8.length d0_12, .string y0.f9]), IsV (.agg #[.int .i64 x0.f0, .int .i64 x0.f1, .int .i64 x0.f2, .string x0.f3, .int .i64 x0.f4.f0, .int .i64 x0.f4.f1, .slice A0_6 x0.f4.f2.length c0_6, .int .i64 x0.f5.f0, .slice A0_8 x0.f5.f1.length c0_8, .slice A0_9 x0.f5.f2.length c0_9, .slice A0_10 x0.f6.length c0_10, .bool x0.f7, .slice A0_12 x0.f8.length c0_12, .string x0.f9]), AggV k68 y0, IsV (.bool true), IsV (.bool false)]) HV [(0, 22), (1, 23), (2, 24), (3, 25), (4, 26)] (by kernel_rfl) (by kernel_rfl) (by kernel_rfl) (by rfl) ?_ ?_
    · show ∀ i ∈ [0, 1, 2, 3, 4], _
      refine steps_cons ?_ (steps_cons ?_ (steps_cons ?_ (steps_cons ?_ (steps_cons ?_ steps_nil))))
      · exact BW.loose_row HV (k := 0) rfl rfl rfl rfl rfl 68 rfl (by kernel_rfl) rfl e4.blk rfl rfl rfl (fun e => rfl)
      · exact BW.loose_row HV (k := 1) rfl rfl rfl rfl rfl 64 rfl (by kernel_rfl) rfl (e3.up e4).blk rfl rfl rfl (fun e => rfl)
      · refine BW.loose_call HV (k := 2) rfl rfl rfl rfl rfl rfl rfl rfl rfl (fun b e vs hdep hv => ?_)
        have h1 : vs 1 = _ := hv 1 (hdep 1 (by kernel_rfl))
        simp only [List.map_toArray, List.map_cons, List.map_nil]
        rw [eval_on (k := 1) (j := 1) rfl (by kernel_rfl) (hdep 1 (by kernel_rfl)) (by kernel_rfl), h1]
        exact (T0.out (e3.up (e4.thens e)).boxed).mono fun r W ⟨ds, hr, hR, hb⟩ => ⟨_, hr, ⟨ds, rfl, hR⟩, hb⟩
      · refine BW.loose_call HV (k := 3) rfl rfl rfl rfl rfl rfl rfl rfl rfl (fun b e vs hdep hv => ?_)
        have h0 : vs 0 = _ := hv 0 (hdep 0 (by kernel_rfl))
        obtain ⟨ds2, h2, hk2⟩ : AggV _ _ _ _ := hv 2 (hdep 2 (by kernel_rfl))
        simp only [List.map_toArray, List.map_cons, List.map_nil]
        rw [eval_on (k := 0) (j := 0) rfl (by kernel_rfl) (hdep 0 (by kernel_rfl)) (by kernel_rfl), h0, eval_on (k := 2) (j := 2) rfl (by kernel_rfl) (hdep 2 (by kernel_rfl)) (by kernel_rfl), h2]
        exact (EQ0.out _ _ _ (On.val hG0 (e4.thens e).boxed) hk2).mono fun r W ⟨hr, hb⟩ => ⟨_, hr, rfl, hb⟩
      · exact BW.loose_not HV (k := 4) rfl rfl rfl rfl rfl rfl (m := 3) (j := 3) rfl (by kernel_rfl) (by kernel_rfl) (by kernel_rfl) (c := true) (fun W v h => h) (fun W => rfl)
    · intro e vs hv
      have h0 : vs 0 = _ := hv 0 (by decide)
      have h1 : vs 1 = _ := hv 1 (by decide)
      have h3 : vs 3 = _ := hv 3 (by decide)
      have h4 : vs 4 = _ := hv 4 (by decide)
      simp only [fillL, List.map_cons, List.map_nil, putSel, if_true, Act.put, List.setIfInBounds_toArray, List.set_cons_zero, List.set_cons_succ]
      rw [h0, h1, h3, h4]
      clear hv HV h0 h1 h3 h4
      obtain ⟨e5, he5⟩ : ∃ e5 : On (e3.now.alloc (.cells #[.int .i64 y0.f0, .int .i64 y0.f1, .int .i64 y0.f2, .string y0.f3, .int .i64 y0.f4.f0, .int .i64 y0.f4.f1, .slice B0_6 y0.f4.f2.length d0_6, .int .i64 y0.f5.f0, .slice B0_8 y0.f5.f1.length d0_8, .slice B0_9 y0.f5.f2.length d0_9, .slice B0_10 y0.f6.length d0_10, .bool y0.f7, .slice B0_12 y0.f8.length d0_12, .string y0.f9] 68)), e.now = e5.now := ⟨e4.thens e, rfl⟩
      rw [he5]
      clear he5 e
      go_wp2
      go_ret
      exact ⟨rfl, ((e3.up e5).boxed).ok⟩

end Go.Proofs.Ytieecjilnaijkaa.F
