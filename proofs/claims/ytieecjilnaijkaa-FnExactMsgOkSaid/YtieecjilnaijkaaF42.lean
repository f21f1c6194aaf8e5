/-
Functions of the program, what they come to, and that Go comes to just that: laws_FnExactMsgOk.
Conditions: those that each theorem names.
-/
import Derived.Test.YtieecjilnaijkaaFAbs
import Derived.Test.YtieecjilnaijkaaF39
import Derived.Test.YtieecjilnaijkaaF40
import Derived.Test.YtieecjilnaijkaaF41
import Derived.Test.YtieecjilnaijkaaFam
import Derived.Test.YtieecjilnaijkaaLaw
set_option linter.unusedVariables false
set_option linter.unusedSimpArgs false
namespace Go.Proofs.Ytieecjilnaijkaa.F
open Go.RowKit Go.Proofs.YtieecjilnaijkaaW.PrintWords Go.Proofs.YtieecjilnaijkaaW.PrintLast Go.Proofs.Ytieecjilnaijkaa.Base Go.Proofs.Ytieecjilnaijkaa.BW
open Go.Proofs.Ytieecjilnaijkaa
open Go.Proofs.Ytieecjilnaijkaa.FamW

/-! ### laws_FnExactMsgOk: printed by compact.py -/
/-! ### laws_FnExactMsgOk: printed by lawgen.py -/
set_option maxHeartbeats 8000000 in
set_option maxRecDepth 100000 in
theorem laws_FnExactMsgOk.does {w : World} (x0 : S79) (hw0 : w79 x0) {cs0 : List Value} (hK0 : k79.K w x0 cs0) :
    Calls Try.prog 14 #[.agg cs0.toArray] w fun e w' => e = .returned (.bool true) ∧ Below w.heap.size w w' := by
  have hm : maxLen = 9223372036854775807 := rfl
  have HK0 := Aside0.mk hK0
  obtain ⟨A0_3, a0_3, A0_12, a0_12, A0_14, a0_14, A0_15, a0_15, rfl, l0_3, g0_3, l0_12, g0_12, l0_14, g0_14, l0_15, g0_15⟩ := k79_open hK0
  have n0 : 0 ≤ (hold79 x0) := (hold79.nn x0)
  have D0 := Aside0.mk (fun (W : World) (hb : Below w.heap.size w W) => laws_szMsg.does (w := W) hw0 (left := 1048576) (by omega) (by omega) (k79.K_below hb HK0.out))
  obtain ⟨m0, hm0⟩ : ∃ m, szR (hold79 x0) 1048576 = m := ⟨_, rfl⟩
  rw [hm0] at D0
  by_cases d0 : m0 < 0
  · have d0' : decide (m0 < 0) = true := decide_eq_true d0
    clear hw0 n0 hK0 l0_3 g0_3 l0_12 g0_12 l0_14 g0_14 l0_15 g0_15 d0 hm0
    go_enter Try.func14, Try.ntmps14
    have HB := Aside0.mk (Below.refl w.heap.size w)
    go_wp2_with fail
    refine (D0.out _ (Law.atop (Below.refl _ _))).mono ?_
    rintro _ W1 ⟨rfl, hb⟩
    have RB0 := Aside0.mk (Law.box hb)
    have hrb := Law.lt hb
    replace hb := Law.boxed hb
    replace HB := Aside0.mk hb
    have zW1 := hb.size
    clear hb
    go_wp2
    go_ret
    exact ⟨rfl, HB.out⟩
  have d0' : decide (m0 < 0) = false := decide_eq_false d0
  have o0 : (hold79 x0) ≤ 1048576 := by have := mt (szR_lt (h := (hold79 x0)) (left := 1048576) (by omega)).2 (by rw [hm0]; exact d0); omega
  have e0 : m0 = 1048576 - (hold79 x0) := by rw [← hm0]; exact szR_ge o0
  have hs0 : s79 x0 := small79 (by omega)
  have T0 := Aside0.mk (fun (W : World) (hb : Below w.heap.size w W) => laws_toMsg.make (w := W) hs0 (k79.K_below hb HK0.out))
  have hf := msgFit_of hw0
  have SP := Aside0.mk (fun (W : World) ds (hK : k86.K W (c79 x0) ds) => spec_MsgOk.does hf hK)
  have IM := Aside0.mk (fun (W : World) ds (hK : k86.K W (c79 x0) ds) => impl_MsgOk.does hf hK)
  have EA0 := Aside0.mk (fun (W : World) ds ds' (hK : k86.K W (c79 x0) ds) (hL : k86.K W (c79 x0) ds') => laws_eqMsg.same (long79 hs0) hK hL)
  clear hw0 n0 hK0 l0_3 g0_3 l0_12 g0_12 l0_14 g0_14 l0_15 g0_15 d0 hm0 o0 e0 hs0 hf
  generalize msgOk (c79 x0) = V at *
  generalize c79 x0 = Y0 at *
  have hVV : (V != V) = false := by simp
  go_enter Try.func14, Try.ntmps14
  have HB := Aside0.mk (Below.refl w.heap.size w)
  go_wp2_with fail
  refine (D0.out _ (Law.atop (Below.refl _ _))).mono ?_
  rintro _ W2 ⟨rfl, hb⟩
  have RB0 := Aside0.mk (Law.box hb)
  have hrb := Law.lt hb
  replace hb := Law.boxed hb
  replace HB := Aside0.mk hb
  have zW2 := hb.size
  clear hb
  obtain ⟨a0_, a1_, a2_, a3_, a4_, a5_, a6_, a7_, a8_, a9_, a10_, a11_, a12_, a13_, a14_, a15_⟩ := cells16 RB0.out
  go_wp2_with fail
  refine (T0.out _ HB.out).mono ?_
  rintro _ W3 ⟨ds_a, rfl, hM_a, hb⟩
  have zW3 := hb.size
  replace RB0 := Aside0.mk (blk_below RB0.out hb)
  replace HB := Aside0.mk (Law.then_ HB.out hb)
  clear hb
  clear a0_ a1_ a2_ a3_ a4_ a5_ a6_ a7_ a8_ a9_ a10_ a11_ a12_ a13_ a14_ a15_
  go_wp2_with fail
  refine (SP.out W3 ds_a (k86.K_of_M hM_a)).mono ?_
  rintro _ W4 ⟨rfl, hb⟩
  have zW4 := hb.size
  replace RB0 := Aside0.mk (blk_below RB0.out hb)
  replace HB := Aside0.mk (Law.then_ HB.out hb)
  clear hb
  clear hM_a SP
  obtain ⟨a0_, a1_, a2_, a3_, a4_, a5_, a6_, a7_, a8_, a9_, a10_, a11_, a12_, a13_, a14_, a15_⟩ := cells16 RB0.out
  go_wp2_with fail
  refine (T0.out _ HB.out).mono ?_
  rintro _ W5 ⟨ds_x, rfl, hM_x, hb⟩
  have zW5 := hb.size
  replace RB0 := Aside0.mk (blk_below RB0.out hb)
  replace HB := Aside0.mk (Law.then_ HB.out hb)
  clear hb
  clear a0_ a1_ a2_ a3_ a4_ a5_ a6_ a7_ a8_ a9_ a10_ a11_ a12_ a13_ a14_ a15_
  have HX := Aside0.mk (k86.M_mono (ok' := fun k => W4.heap.size ≤ k ∧ k < W5.heap.size) (fun k hk => ⟨hk.2.1, hk.2.2.1⟩) (k86.M_bound hM_x))
  obtain ⟨vx3, vx12, vx14, vx15, rfl, hRx3, hRx12, hRx14, hRx15⟩ := k86_openM hM_x
  obtain ⟨Bx3, dx3, rfl⟩ := Kd.R_slice hRx3
  obtain ⟨Bx12, dx12, rfl⟩ := Kd.R_slice hRx12
  obtain ⟨Bx14, dx14, rfl⟩ := Kd.R_slice hRx14
  obtain ⟨Bx15, dx15, rfl⟩ := Kd.R_slice hRx15
  clear hRx3 hRx12 hRx14 hRx15
  clear hM_x
  go_wp2_with (first | ((with_reducible refine gate_ (.store 86 (.tmp 5) (.tmp 16)) rfl ?_); refine FamW.put rfl rfl 86 _ _ rfl (.agg #[.int .i64 Y0.f0, .string Y0.f1, .int .i64 Y0.f2, .slice Bx3 Y0.f3.length dx3, .int .i64 Y0.f4.f0, .int .i64 Y0.f4.f1, .string Y0.f4.f2, .int .i64 Y0.f5.f0, .int .i64 Y0.f5.f1, .string Y0.f5.f2, .int .i64 Y0.f6.f0, .int .i64 Y0.f6.f1, .slice Bx12 Y0.f6.f2.length dx12, .int .i64 Y0.f7.f0, .slice Bx14 Y0.f7.f1.length dx14, .slice Bx15 Y0.f7.f2.length dx15]) [.int .i64 Y0.f0, .string Y0.f1, .int .i64 Y0.f2, .slice Bx3 Y0.f3.length dx3, .int .i64 Y0.f4.f0, .int .i64 Y0.f4.f1, .string Y0.f4.f2, .int .i64 Y0.f5.f0, .int .i64 Y0.f5.f1, .string Y0.f5.f2, .int .i64 Y0.f6.f0, .int .i64 Y0.f6.f1, .slice Bx12 Y0.f6.f2.length dx12, .int .i64 Y0.f7.f0, .slice Bx14 Y0.f7.f1.length dx14, .slice Bx15 Y0.f7.f2.length dx15] rfl rfl rfl (by kernel_rfl) rfl (blk_new _ _) (Nat.le_of_ble_eq_true rfl) ?_; intro W6 q1 q2; simp only [FamW.putSeg, List.setIfInBounds_toArray, List.set_cons_zero, List.set_cons_succ] at q1; have BX := Aside0.mk q1; have lt_BX := blk_lt q1; have hb := FamW.on (FamW.atop (Below.refl W5.heap.size W5)) q2 (Nat.le_refl _); have zW6 := hb.size; replace RB0 := Aside0.mk (blk_below RB0.out hb); replace HB := Aside0.mk (Law.then_ HB.out hb); replace HX := Aside0.mk (Kd.M_below HX.out hb); clear q1 q2 hb) | ((with_reducible refine gate_ (.load 86 (.tmp 5)) rfl ?_); refine wpList_load_row rfl 86 _ rfl _ rfl 86 #[.int .i64 Y0.f0, .string Y0.f1, .int .i64 Y0.f2, .slice Bx3 Y0.f3.length dx3, .int .i64 Y0.f4.f0, .int .i64 Y0.f4.f1, .string Y0.f4.f2, .int .i64 Y0.f5.f0, .int .i64 Y0.f5.f1, .string Y0.f5.f2, .int .i64 Y0.f6.f0, .int .i64 Y0.f6.f1, .slice Bx12 Y0.f6.f2.length dx12, .int .i64 Y0.f7.f0, .slice Bx14 Y0.f7.f1.length dx14, .slice Bx15 Y0.f7.f2.length dx15] (0, 0) _ BX.out Try.underlying86 rfl (by kernel_rfl) ?_))
  refine (IM.out W6 _ (k86.K_of_M HX.out)).mono ?_
  rintro _ W7 ⟨rfl, hb⟩
  have zW7 := hb.size
  replace RB0 := Aside0.mk (blk_below RB0.out hb)
  replace HB := Aside0.mk (Law.then_ HB.out hb)
  replace HX := Aside0.mk (Kd.M_below HX.out hb)
  replace BX := Aside0.mk (blk_below BX.out hb)
  clear hb
  clear IM
  go_wp2_with fail
  have HVL : BW.Lasts (VL [IsV (.agg #[.int .i64 Y0.f0, .string Y0.f1, .int .i64 Y0.f2, .slice Bx3 Y0.f3.length dx3, .int .i64 Y0.f4.f0, .int .i64 Y0.f4.f1, .string Y0.f4.f2, .int .i64 Y0.f5.f0, .int .i64 Y0.f5.f1, .string Y0.f5.f2, .int .i64 Y0.f6.f0, .int .i64 Y0.f6.f1, .slice Bx12 Y0.f6.f2.length dx12, .int .i64 Y0.f7.f0, .slice Bx14 Y0.f7.f1.length dx14, .slice Bx15 Y0.f7.f2.length dx15]), IsV (.agg #[.int .i64 x0.f0, .string x0.f1, .int .i64 x0.f2, .slice A0_3 x0.f3.length a0_3, .int .i64 x0.f4.f0, .int .i64 x0.f4.f1, .string x0.f4.f2, .int .i64 x0.f5.f0, .int .i64 x0.f5.f1, .string x0.f5.f2, .int .i64 x0.f6.f0, .int .i64 x0.f6.f1, .slice A0_12 x0.f6.f2.length a0_12, .int .i64 x0.f7.f0, .slice A0_14 x0.f7.f1.length a0_14, .slice A0_15 x0.f7.f2.length a0_15]), AggV k86 Y0, IsV (.bool true), IsV (.bool false)]) := lasts_cons (last_is _) (lasts_cons (last_is _) (lasts_cons (last_agg _ _) (lasts_cons (last_is _) (lasts_cons (last_is _) lasts_nil))))
  refine BW.loose (n := 5) (by kernel_rfl) rfl _ HVL [(0, 22), (1, 23), (2, 24), (3, 25), (4, 26)] (by kernel_rfl) (by kernel_rfl) (by kernel_rfl) (by rfl) ?_ ?_
  · show ∀ i ∈ [0, 1, 2, 3, 4], _
    refine steps_cons ?_ (steps_cons ?_ (steps_cons ?_ (steps_cons ?_ (steps_cons ?_ steps_nil))))
    · exact BW.loose_row HVL (k := 0) rfl rfl rfl rfl rfl 86 rfl (by kernel_rfl) rfl BX.out rfl rfl rfl (fun e => rfl)
    · exact BW.loose_row HVL (k := 1) rfl rfl rfl rfl rfl 79 rfl (by kernel_rfl) rfl RB0.out rfl rfl rfl (fun e => rfl)
    · refine BW.loose_call HVL (k := 2) rfl rfl rfl rfl rfl rfl rfl rfl rfl (fun b e vs hdep hv => ?_)
      have h0 : vs 1 = _ := hv 1 (hdep 1 (by kernel_rfl))
      simp only [List.map_toArray, List.map_cons, List.map_nil]
      rw [eval_on (k := 1) (j := 1) rfl (by kernel_rfl) (hdep 1 (by kernel_rfl)) (by kernel_rfl), h0]
      exact (T0.out e.now (Law.then_ HB.out e.ok)).mono fun r W ⟨ds, hr, hM, hb⟩ => ⟨_, hr, ⟨ds, rfl, k86.K_of_M hM⟩, hb⟩
    · refine BW.loose_call HVL (k := 3) rfl rfl rfl rfl rfl rfl rfl rfl rfl (fun b e vs hdep hv => ?_)
      have h0 : vs 0 = _ := hv 0 (hdep 0 (by kernel_rfl))
      obtain ⟨ds, h2, hk2⟩ : AggV _ _ _ _ := hv 2 (hdep 2 (by kernel_rfl))
      simp only [List.map_toArray, List.map_cons, List.map_nil]
      rw [eval_on (k := 0) (j := 0) rfl (by kernel_rfl) (hdep 0 (by kernel_rfl)) (by kernel_rfl), h0, eval_on (k := 2) (j := 2) rfl (by kernel_rfl) (hdep 2 (by kernel_rfl)) (by kernel_rfl), h2]
      exact (EA0.out _ _ _ (k86.K_below e.ok (k86.K_of_M HX.out)) hk2).mono fun r W ⟨hr, hb⟩ => ⟨_, hr, rfl, hb⟩
    · exact BW.loose_not HVL (k := 4) rfl rfl rfl rfl rfl rfl (m := 3) (j := 3) rfl (by kernel_rfl) (by kernel_rfl) (by kernel_rfl) (c := true) (fun W v h => h) (fun W => rfl)
  intro e vs hv
  have h0 : vs 0 = _ := hv 0 (by decide)
  have h1 : vs 1 = _ := hv 1 (by decide)
  have h3 : vs 3 = _ := hv 3 (by decide)
  have h4 : vs 4 = _ := hv 4 (by decide)
  simp only [fillL, List.map_cons, List.map_nil, putSel, if_true, Act.put, List.setIfInBounds_toArray, List.set_cons_zero, List.set_cons_succ]
  rw [h0, h1, h3, h4]
  generalize vs 2 = v_507
  obtain ⟨W8, hW, hb⟩ : ∃ W', e.now = W' ∧ Below W7.heap.size W7 W' := ⟨_, rfl, e.ok⟩
  rw [hW]
  clear hv h0 h1 h3 h4 HVL hW vs
  clear e
  have zW8 := hb.size
  replace RB0 := Aside0.mk (blk_below RB0.out hb)
  replace HB := Aside0.mk (Law.then_ HB.out hb)
  replace HX := Aside0.mk (Kd.M_below HX.out hb)
  replace BX := Aside0.mk (blk_below BX.out hb)
  clear hb
  go_wp2
  go_ret
  exact ⟨rfl, HB.out⟩

end Go.Proofs.Ytieecjilnaijkaa.F
