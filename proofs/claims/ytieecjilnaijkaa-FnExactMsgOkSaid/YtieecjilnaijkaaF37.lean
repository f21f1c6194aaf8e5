/-
Functions of the program, what they come to, and that Go comes to just that: spec_l9Qc, spec_l9Tc, spec_BlockOk, impl_txsOk, impl_BlockOk.
Conditions: those that each theorem names.
-/
import Derived.Test.YtieecjilnaijkaaFAbs
import Derived.Test.YtieecjilnaijkaaF4
import Derived.Test.YtieecjilnaijkaaF5
import Derived.Test.YtieecjilnaijkaaF16
import Derived.Test.YtieecjilnaijkaaF20
import Derived.Test.YtieecjilnaijkaaF22
import Derived.Test.YtieecjilnaijkaaF25
import Derived.Test.YtieecjilnaijkaaF27
import Derived.Test.YtieecjilnaijkaaF29
import Derived.Test.YtieecjilnaijkaaFew
import Derived.Test.YtieecjilnaijkaaFam
set_option linter.unusedVariables false
set_option linter.unusedSimpArgs false
namespace Go.Proofs.Ytieecjilnaijkaa.F
open Go.RowKit Go.Proofs.YtieecjilnaijkaaW.PrintWords Go.Proofs.YtieecjilnaijkaaW.PrintLast Go.Proofs.Ytieecjilnaijkaa.Base Go.Proofs.Ytieecjilnaijkaa.BW
open Go.Proofs.Ytieecjilnaijkaa
open Go.Proofs.Ytieecjilnaijkaa.FamW
open Go.Proofs.Ytieecjilnaijkaa.Few

/-! ### spec_l9Qc: walked in this session -/
set_option maxHeartbeats 1000000 in
set_option maxRecDepth 100000 in
theorem spec_l9Qc.does {b : S68} (hn : b.f4.f2.length ≤ maxLen) (hw : ∀ s ∈ b.f4.f2, s.size ≤ maxLen) {cs : List Value} {w : World} (hK : k68.K w b cs) : Calls Try.prog 95 #[.agg cs.toArray] w fun e w' => e = .returned (.bool (qcForm b.f4.f0 b.f4.f1 b.f4.f2 (wrap64 (b.f2 - 1)) (wrap64 (b.f0 - 1)))) ∧ Below w.heap.size w w' := by
  obtain ⟨A6, u6, A8, u8, A9, u9, A10, u10, A12, u12, rfl, l6, g6, l8, g8, l9, g9, l10, g10, l12, g12⟩ := k68_open hK
  have E0 := Aside0.mk (fun (W : World) (hb : Below w.heap.size w W) => spec_l8Root.calls (w := W) (hr0_2 := Kd.C_below g6 hb) (hc0_2 := l6) (h := spec_l8Root.is b.f4.f0 b.f4.f1 b.f4.f2))
  have E1 := Aside0.mk (fun W => spec_l1In.does b.f4.f0 1 (wrap64 (b.f2 - 1)) W)
  have E2 := Aside0.mk (fun W => spec_l1In.does b.f4.f1 0 (wrap64 (b.f0 - 1)) W)
  have E3 := Aside0.mk (fun (W : World) (hb : Below w.heap.size w W) => spec_NamesOk.does (w := W) hn hw (Kd.C_below g6 hb) l6)
  have HF : Aside0 (qcForm b.f4.f0 b.f4.f1 b.f4.f2 (wrap64 (b.f2 - 1)) (wrap64 (b.f0 - 1)) = (rootQ b.f4.f0 b.f4.f1 b.f4.f2 || (inR b.f4.f0 1 (wrap64 (b.f2 - 1)) && (inR b.f4.f1 0 (wrap64 (b.f0 - 1)) && namesOk b.f4.f2)))) := ⟨rfl⟩
  clear hK hn hw l6 g6 l8 g8 l9 g9 l10 g10 l12 g12
  generalize qcForm b.f4.f0 b.f4.f1 b.f4.f2 (wrap64 (b.f2 - 1)) (wrap64 (b.f0 - 1)) = q at *
  generalize rootQ b.f4.f0 b.f4.f1 b.f4.f2 = q0 at *
  generalize inR b.f4.f0 1 (wrap64 (b.f2 - 1)) = q1 at *
  generalize inR b.f4.f1 0 (wrap64 (b.f0 - 1)) = q2 at *
  generalize namesOk b.f4.f2 = q3 at *
  go_enter Try.func95, Try.ntmps95
  go_wp2_with fail
  refine (E0.out _ (FamW.atop (FamW.atop (Below.refl _ _)))).mono ?_
  rintro _ W1 ⟨rfl, hb⟩
  have BX := Aside0.mk (FamW.boxA hb)
  have BY := Aside0.mk (FamW.boxB hb)
  have HB := Aside0.mk (FamW.off1 (FamW.off1 hb))
  obtain ⟨b0, b1, b2, b3, b4, b5, b6, b7, b8, b9, b10, b11, b12, b13⟩ := cells14 BX.out
  obtain ⟨y0, y1, y2⟩ := cells3 BY.out
  clear hb E0
  cases q0
  rotate_left
  · go_wp2
    go_ret
    exact ⟨by rw [HF.out]; rfl, HB.out⟩
  go_wp2_with fail
  refine (E1.out _).mono ?_
  rintro _ W2 ⟨rfl, hb⟩
  replace BX := Aside0.mk (blk_below BX.out hb.below)
  replace BY := Aside0.mk (blk_below BY.out hb.below)
  replace HB := Aside0.mk (FamW.then_ HB.out hb.below)
  clear b0 b1 b2 b3 b4 b5 b6 b7 b8 b9 b10 b11 b12 b13 y0 y1 y2 hb E1
  obtain ⟨b0, b1, b2, b3, b4, b5, b6, b7, b8, b9, b10, b11, b12, b13⟩ := cells14 BX.out
  obtain ⟨y0, y1, y2⟩ := cells3 BY.out
  cases q1
  · go_wp2
    go_ret
    exact ⟨by rw [HF.out]; rfl, HB.out⟩
  go_wp2_with fail
  refine (E2.out _).mono ?_
  rintro _ W3 ⟨rfl, hb⟩
  replace BY := Aside0.mk (blk_below BY.out hb.below)
  replace HB := Aside0.mk (FamW.then_ HB.out hb.below)
  clear b0 b1 b2 b3 b4 b5 b6 b7 b8 b9 b10 b11 b12 b13 y0 y1 y2 hb E2 BX
  obtain ⟨y0, y1, y2⟩ := cells3 BY.out
  cases q2
  · go_wp2
    go_ret
    exact ⟨by rw [HF.out]; rfl, HB.out⟩
  go_wp2_with fail
  refine (E3.out _ HB.out).mono ?_
  rintro _ W4 ⟨rfl, hb⟩
  replace HB := Aside0.mk (FamW.then_ HB.out hb.below)
  clear y0 y1 y2 hb E3 BY
  go_wp2
  go_ret
  exact ⟨by rw [HF.out]; rfl, HB.out⟩

/-! ### spec_l9Tc: walked in this session -/
set_option maxHeartbeats 2000000 in
set_option maxRecDepth 100000 in
theorem spec_l9Tc.does {b : S68} (hn : b.f5.f1.length ≤ maxLen) (hw : ∀ s ∈ b.f5.f1, s.size ≤ maxLen) (hh : b.f5.f2.length ≤ maxLen) {cs : List Value} {w : World} (hK : k68.K w b cs) : Calls Try.prog 96 #[.agg cs.toArray] w fun e w' => e = .returned (.bool (tcForm b.f5.f0 b.f5.f1 b.f5.f2 (wrap64 (b.f2 - 1)))) ∧ Below w.heap.size w w' := by
  have hn' : (b.f5.f1.length : Int) ≤ 9223372036854775807 := by have : maxLen = 9223372036854775807 := rfl; omega
  have hh' : (b.f5.f2.length : Int) ≤ 9223372036854775807 := by have : maxLen = 9223372036854775807 := rfl; omega
  obtain ⟨A6, u6, A8, u8, A9, u9, A10, u10, A12, u12, rfl, l6, g6, l8, g8, l9, g9, l10, g10, l12, g12⟩ := k68_open hK
  have E0 := Aside0.mk (fun (W : World) (hb : Below w.heap.size w W) => spec_l8None.calls (w := W) (hr0_1 := Kd.C_below g8 hb) (hc0_1 := l8) (hr0_2 := Kd.C_below g9 hb) (hc0_2 := l9) (h := spec_l8None.is b.f5.f0 b.f5.f1 b.f5.f2))
  have E1 := Aside0.mk (fun W => spec_l1In.does b.f5.f0 1 (wrap64 (b.f2 - 1)) W)
  have E2 := Aside0.mk (fun (W : World) (hb : Below w.heap.size w W) => spec_NamesOk.does (w := W) hn hw (Kd.C_below g8 hb) l8)
  have HF : Aside0 (tcForm b.f5.f0 b.f5.f1 b.f5.f2 (wrap64 (b.f2 - 1)) = (noneT b.f5.f0 b.f5.f1 b.f5.f2 || (highsOk b.f5.f0 b.f5.f2 && (inR b.f5.f0 1 (wrap64 (b.f2 - 1)) && (namesOk b.f5.f1 && ((b.f5.f2.length : Int) == (b.f5.f1.length : Int))))))) := ⟨rfl⟩
  have HG := Aside0.mk g9
  clear hK hn hw hh l6 g6 l8 g8 l9 g9 l10 g10 l12 g12
  generalize tcForm b.f5.f0 b.f5.f1 b.f5.f2 (wrap64 (b.f2 - 1)) = q at *
  generalize noneT b.f5.f0 b.f5.f1 b.f5.f2 = q0 at *
  generalize inR b.f5.f0 1 (wrap64 (b.f2 - 1)) = q1 at *
  generalize namesOk b.f5.f1 = q2 at *
  go_enter Try.func96, Try.ntmps96
  go_wp2_with fail
  refine (E0.out _ (FamW.atop (FamW.atop (Below.refl _ _)))).mono ?_
  rintro _ W1 ⟨rfl, hb⟩
  have BX := Aside0.mk (FamW.boxA hb)
  have BY := Aside0.mk (FamW.boxB hb)
  have HB := Aside0.mk (FamW.off1 (FamW.off1 hb))
  obtain ⟨b0, b1, b2, b3, b4, b5, b6, b7, b8, b9, b10, b11, b12, b13⟩ := cells14 BX.out
  obtain ⟨y0, y1, y2⟩ := cells3 BY.out
  clear hb E0
  cases q0
  rotate_left
  · go_wp2
    go_ret
    exact ⟨by rw [HF.out]; rfl, HB.out⟩
  go_wp2_with fail
  refine (E1.out _).mono ?_
  rintro _ W2 ⟨rfl, hb⟩
  replace BY := Aside0.mk (blk_below BY.out hb.below)
  replace HB := Aside0.mk (FamW.then_ HB.out hb.below)
  clear b0 b1 b2 b3 b4 b5 b6 b7 b8 b9 b10 b11 b12 b13 y0 y1 y2 hb E1 BX
  obtain ⟨y0, y1, y2⟩ := cells3 BY.out
  cases q1
  · go_wp2
    go_ret
    exact ⟨by rw [HF.out]; simp, HB.out⟩
  go_wp2_with fail
  refine (E2.out _ HB.out).mono ?_
  rintro _ W3 ⟨rfl, hb⟩
  replace BY := Aside0.mk (blk_below BY.out hb.below)
  replace HB := Aside0.mk (FamW.then_ HB.out hb.below)
  clear y0 y1 y2 hb E2
  obtain ⟨y0, y1, y2⟩ := cells3 BY.out
  cases q2
  · go_wp2
    go_ret
    exact ⟨by rw [HF.out]; simp, HB.out⟩
  by_cases he : (b.f5.f2.length : Int) = (b.f5.f1.length : Int)
  rotate_left
  · have he' : ((b.f5.f2.length : Int) != (b.f5.f1.length : Int)) = true := bne_iff_ne.2 he
    have HE : Aside0 (q = false) := ⟨by rw [HF.out, beq_eq_false_iff_ne.2 he]; simp⟩
    clear he
    go_wp2
    go_ret
    exact ⟨by rw [HE.out]; rfl, HB.out⟩
  have he' : ((b.f5.f2.length : Int) != (b.f5.f1.length : Int)) = false := bne_eq_false_iff_eq.2 he
  have HE : Aside0 (q = highsOk b.f5.f0 b.f5.f2) := ⟨by rw [HF.out, beq_iff_eq.2 he]; simp⟩
  clear he HF
  generalize b.f5.f2 = hs at *
  generalize b.f5.f0 = r at *
  have R0 := On.cell y0
  have R2 := On.cell y2
  have HR := Aside0.mk (Kd.C_below HG.out HB.out)
  clear HG
  go_wp2
  clear y0 y1 y2 he'
  go_loopg [4] hs.length (fun g v4 w' => ∃ (i : Int) (e : On W3), v4 = .int .i64 i ∧ w' = e.now ∧ 0 ≤ i ∧ i ≤ hs.length ∧ Aside0 ((hs.length : Int) - i ≤ g) ∧ Aside0 (∀ j, j < i.toNat → inR (hs.getD j 0) 0 (wrap64 (r - 1)) = true))
  case atStart => exact ⟨0, On.here W3, rfl, rfl, Int.le_refl _, by omega, ⟨by omega⟩, ⟨fun j hj => absurd hj (by simp)⟩⟩
  case round =>
    obtain ⟨i, e, rfl, rfl, hi0, hi1, HG, HA⟩ := hrel
    by_cases c1 : i < (hs.length : Int)
    rotate_left
    · have H1 := Aside0.mk (allUpto_yes (n := hs.length) (p := fun i => inR (hs.getD i 0) 0 (wrap64 (r - 1))) (fun j hj => HA.out j (by omega)))
      go_wp2
      go_ret
      exact ⟨by rw [HE.out, highsOk, H1.out]; rfl, FamW.then_ HB.out e.ok⟩
    obtain ⟨ad, e1, h0⟩ := Kd.at_int HR.out i hi0 c1
    cases e1
    have Q0 := On.cell h0
    obtain ⟨y, hy⟩ : ∃ y, rd hs i = y := ⟨_, rfl⟩
    have hz : hs.getD i.toNat 0 = y := hy
    simp only [hy] at Q0
    clear h0 hy
    have E1 := Aside0.mk (fun W => spec_l1In.does y 0 (wrap64 (r - 1)) W)
    cases hv : inR y 0 (wrap64 (r - 1))
    · have H1 := Aside0.mk (allUpto_no (n := hs.length) (p := fun i => inR (hs.getD i 0) 0 (wrap64 (r - 1))) (i := i.toNat) (by omega) (by rw [hz]; exact hv))
      rw [hv] at E1
      clear hz hv
      go_wp2
      refine BW.region (by kernel_rfl) (by kernel_rfl) ?_
      repeat (go_big_quiet_step (first | exact BW.quietD (E1.out _)))
      refine wpQuiet_nil ?_
      rintro _ ⟨e2, rfl⟩
      go_wp2
      go_ret
      exact ⟨by rw [HE.out, highsOk, H1.out]; rfl, FamW.then_ HB.out e2.ok⟩
    · have HT : Aside0 (inR (hs.getD i.toNat 0) 0 (wrap64 (r - 1)) = true) := ⟨by rw [hz]; exact hv⟩
      rw [hv] at E1
      clear hz hv
      go_wp2
      refine BW.region (by kernel_rfl) (by kernel_rfl) ?_
      repeat (go_big_quiet_step (first | exact BW.quietD (E1.out _)))
      refine wpQuiet_nil ?_
      rintro _ ⟨e2, rfl⟩
      go_wp2
      go_roundg (hs.length - i.toNat - 1)
      case measure => have := HG.out; omega
      case rel => exact ⟨i + 1, e2, rfl, rfl, by omega, by omega, ⟨by omega⟩, ⟨upto_next hi0 HA.out HT.out⟩⟩

/-! ### spec_BlockOk: walked in this session -/
set_option maxHeartbeats 2000000 in
set_option maxRecDepth 100000 in
theorem spec_BlockOk.does {b : S68} (hf : blockFit b) {cs : List Value} {w : World} (hK : k68.K w b cs) : Calls Try.prog 53 #[.agg cs.toArray] w fun e w' => e = .returned (.bool (blockOk b)) ∧ Below w.heap.size w w' := by
  obtain ⟨hby, ⟨hq, hqs⟩, ⟨ht, hts⟩, hh, ⟨hx, hxs⟩, hv, hvs⟩ := hf
  have hK' := hK
  obtain ⟨A6, u6, A8, u8, A9, u9, A10, u10, A12, u12, rfl, l6, g6, l8, g8, l9, g9, l10, g10, l12, g12⟩ := k68_open hK
  have NB := fun e : On (w.alloc (.cells #[.int .i64 b.f0, .int .i64 b.f1, .int .i64 b.f2, .string b.f3, .int .i64 b.f4.f0, .int .i64 b.f4.f1, .slice A6 b.f4.f2.length u6, .int .i64 b.f5.f0, .slice A8 b.f5.f1.length u8, .slice A9 b.f5.f2.length u9, .slice A10 b.f6.length u10, .bool b.f7, .slice A12 b.f8.length u12, .string b.f9] 68)) => cells14 (On.blk e)
  have N0 := fun e => (NB e).1
  have N1 := fun e => (NB e).2.1
  have N2 := fun e => (NB e).2.2.1
  have N3 := fun e => (NB e).2.2.2.1
  have N4 := fun e => (NB e).2.2.2.2.1
  have N5 := fun e => (NB e).2.2.2.2.2.1
  have N6 := fun e => (NB e).2.2.2.2.2.2.1
  have N7 := fun e => (NB e).2.2.2.2.2.2.2.1
  have N8 := fun e => (NB e).2.2.2.2.2.2.2.2.1
  have N9 := fun e => (NB e).2.2.2.2.2.2.2.2.2.1
  have N10 := fun e => (NB e).2.2.2.2.2.2.2.2.2.2.1
  have N11 := fun e => (NB e).2.2.2.2.2.2.2.2.2.2.2.1
  have N12 := fun e => (NB e).2.2.2.2.2.2.2.2.2.2.2.2.1
  have N13 := fun e => (NB e).2.2.2.2.2.2.2.2.2.2.2.2.2
  clear NB
  have E1 := Aside0.mk (fun W => spec_l1In.does b.f0 0 100000 W)
  have E2 := Aside0.mk (fun W => spec_l1In.does b.f1 0 900 W)
  have E3 := Aside0.mk (fun W => spec_l1In.does b.f2 1 10000 W)
  have E4 := Aside0.mk (fun W => spec_NameOk.does hby W)
  have E5 := Aside0.mk (fun e : On (w.alloc (.cells #[.int .i64 b.f0, .int .i64 b.f1, .int .i64 b.f2, .string b.f3, .int .i64 b.f4.f0, .int .i64 b.f4.f1, .slice A6 b.f4.f2.length u6, .int .i64 b.f5.f0, .slice A8 b.f5.f1.length u8, .slice A9 b.f5.f2.length u9, .slice A10 b.f6.length u10, .bool b.f7, .slice A12 b.f8.length u12, .string b.f9] 68)) => spec_l9Qc.does hq hqs (On.val hK' e.boxed))
  have E6 := Aside0.mk (fun e : On (w.alloc (.cells #[.int .i64 b.f0, .int .i64 b.f1, .int .i64 b.f2, .string b.f3, .int .i64 b.f4.f0, .int .i64 b.f4.f1, .slice A6 b.f4.f2.length u6, .int .i64 b.f5.f0, .slice A8 b.f5.f1.length u8, .slice A9 b.f5.f2.length u9, .slice A10 b.f6.length u10, .bool b.f7, .slice A12 b.f8.length u12, .string b.f9] 68)) => spec_l9Tc.does ht hts hh (On.val hK' e.boxed))
  have E9 := Aside0.mk (fun e : On (w.alloc (.cells #[.int .i64 b.f0, .int .i64 b.f1, .int .i64 b.f2, .string b.f3, .int .i64 b.f4.f0, .int .i64 b.f4.f1, .slice A6 b.f4.f2.length u6, .int .i64 b.f5.f0, .slice A8 b.f5.f1.length u8, .slice A9 b.f5.f2.length u9, .slice A10 b.f6.length u10, .bool b.f7, .slice A12 b.f8.length u12, .string b.f9] 68)) => spec_SetOk.does hv hvs (On.row g12 e.boxed) l12)
  simp only [On.boxed_now] at E5 E6 E9
  have hat : blockOk b = (inR b.f0 0 100000 && (inR b.f1 0 900 && (inR b.f2 1 10000 && (nameOk b.f3 && (qcForm b.f4.f0 b.f4.f1 b.f4.f2 (wrap64 (b.f2 - 1)) (wrap64 (b.f0 - 1)) && (tcForm b.f5.f0 b.f5.f1 b.f5.f2 (wrap64 (b.f2 - 1)) && (!decide ((b.f6.length : Int) > 4) && (allUpto b.f6.length (fun i => txOk (rd_T106 b.f6 (i : Int))) && (if b.f7 = true then (setOk b.f8 && ((b.f9.size : Int) == 32)) else (decide ((b.f8.length : Int) = 0) && (b.f9.toList == ([] : List UInt8)))))))))))) := rfl
  have hn : (b.f6.length : Int) ≤ 9223372036854775807 := by have : maxLen = 9223372036854775807 := rfl; omega
  have HR := Aside0.mk g10
  have HX := Aside0.mk hxs
  clear hby hq hqs ht hts hh hx hxs hv hvs hK hK' l6 g6 l8 g8 l9 g9 l10 g10 l12 g12
  generalize inR b.f0 0 100000 = b1 at *
  generalize inR b.f1 0 900 = b2 at *
  generalize inR b.f2 1 10000 = b3 at *
  generalize nameOk b.f3 = b4 at *
  generalize qcForm b.f4.f0 b.f4.f1 b.f4.f2 (wrap64 (b.f2 - 1)) (wrap64 (b.f0 - 1)) = b5 at *
  generalize tcForm b.f5.f0 b.f5.f1 b.f5.f2 (wrap64 (b.f2 - 1)) = b6 at *
  generalize b.f7 = vE at *
  generalize b.f8 = s8 at *
  cases b1
  · skip
    clear HR HX
    go_enter Try.func53, Try.ntmps53
    go_wp2_with fail
    refine BW.callD (e := On.hereOf N0) (E1.out _) (fun e1 => ?_)
    go_wp2
    go_ret
    exact ⟨by first | (rw [hat]; rfl) | rfl, e1.boxed.ok⟩
  · skip
    cases b2
    · skip
      clear HR HX
      go_enter Try.func53, Try.ntmps53
      go_wp2_with fail
      refine BW.callD (e := On.hereOf N0) (E1.out _) (fun e1 => ?_)
      go_wp2_with fail
      refine BW.callD (E2.out _) (fun e2 => ?_)
      go_wp2
      go_ret
      exact ⟨by first | (rw [hat]; rfl) | rfl, e2.boxed.ok⟩
    · skip
      cases b3
      · skip
        clear HR HX
        go_enter Try.func53, Try.ntmps53
        go_wp2_with fail
        refine BW.callD (e := On.hereOf N0) (E1.out _) (fun e1 => ?_)
        go_wp2_with fail
        refine BW.callD (E2.out _) (fun e2 => ?_)
        go_wp2_with fail
        refine BW.callD (E3.out _) (fun e3 => ?_)
        go_wp2
        go_ret
        exact ⟨by first | (rw [hat]; rfl) | rfl, e3.boxed.ok⟩
      · skip
        cases b4
        · skip
          clear HR HX
          go_enter Try.func53, Try.ntmps53
          go_wp2_with fail
          refine BW.callD (e := On.hereOf N0) (E1.out _) (fun e1 => ?_)
          go_wp2_with fail
          refine BW.callD (E2.out _) (fun e2 => ?_)
          go_wp2_with fail
          refine BW.callD (E3.out _) (fun e3 => ?_)
          go_wp2_with fail
          refine BW.callD (E4.out _) (fun e4 => ?_)
          go_wp2
          go_ret
          exact ⟨by first | (rw [hat]; rfl) | rfl, e4.boxed.ok⟩
        · skip
          cases b5
          · skip
            clear HR HX
            go_enter Try.func53, Try.ntmps53
            go_wp2_with fail
            refine BW.callD (e := On.hereOf N0) (E1.out _) (fun e1 => ?_)
            go_wp2_with fail
            refine BW.callD (E2.out _) (fun e2 => ?_)
            go_wp2_with fail
            refine BW.callD (E3.out _) (fun e3 => ?_)
            go_wp2_with fail
            refine BW.callD (E4.out _) (fun e4 => ?_)
            go_wp2_with fail
            refine BW.call (E5.out _) (fun e5 => ?_)
            go_wp2
            go_ret
            exact ⟨by first | (rw [hat]; rfl) | rfl, e5.boxed.ok⟩
          · skip
            cases b6
            · skip
              clear HR HX
              go_enter Try.func53, Try.ntmps53
              go_wp2_with fail
              refine BW.callD (e := On.hereOf N0) (E1.out _) (fun e1 => ?_)
              go_wp2_with fail
              refine BW.callD (E2.out _) (fun e2 => ?_)
              go_wp2_with fail
              refine BW.callD (E3.out _) (fun e3 => ?_)
              go_wp2_with fail
              refine BW.callD (E4.out _) (fun e4 => ?_)
              go_wp2_with fail
              refine BW.call (E5.out _) (fun e5 => ?_)
              go_wp2_with fail
              refine BW.call (E6.out _) (fun e6 => ?_)
              go_wp2
              go_ret
              exact ⟨by first | (rw [hat]; rfl) | rfl, e6.boxed.ok⟩
            · skip
              by_cases c7 : (b.f6.length : Int) > 4
              · skip
                have c7' : decide ((b.f6.length : Int) > 4) = true := decide_eq_true c7
                rw [c7'] at hat
                go_enter Try.func53, Try.ntmps53
                go_wp2_with fail
                refine BW.callD (e := On.hereOf N0) (E1.out _) (fun e1 => ?_)
                go_wp2_with fail
                refine BW.callD (E2.out _) (fun e2 => ?_)
                go_wp2_with fail
                refine BW.callD (E3.out _) (fun e3 => ?_)
                go_wp2_with fail
                refine BW.callD (E4.out _) (fun e4 => ?_)
                go_wp2_with fail
                refine BW.call (E5.out _) (fun e5 => ?_)
                go_wp2_with fail
                refine BW.call (E6.out _) (fun e6 => ?_)
                go_wp2
                go_ret
                exact ⟨by first | (rw [hat]; rfl) | rfl, e6.boxed.ok⟩
              · skip
                have c7' : decide ((b.f6.length : Int) > 4) = false := decide_eq_false c7
                rw [c7'] at hat
                simp only [Bool.not_false, Bool.true_and] at hat
                go_enter Try.func53, Try.ntmps53
                go_wp2_with fail
                refine BW.callD (e := On.hereOf N0) (E1.out _) (fun e1 => ?_)
                go_wp2_with fail
                refine BW.callD (E2.out _) (fun e2 => ?_)
                go_wp2_with fail
                refine BW.callD (E3.out _) (fun e3 => ?_)
                go_wp2_with fail
                refine BW.callD (E4.out _) (fun e4 => ?_)
                go_wp2_with fail
                refine BW.call (E5.out _) (fun e5 => ?_)
                go_wp2_with fail
                refine BW.call (E6.out _) (fun e6 => ?_)
                go_wp2
                go_loopg [3] b.f6.length (fun g v3 w' => ∃ (i : Int) (e : On (w.alloc (.cells #[.int .i64 b.f0, .int .i64 b.f1, .int .i64 b.f2, .string b.f3, .int .i64 b.f4.f0, .int .i64 b.f4.f1, .slice A6 b.f4.f2.length u6, .int .i64 b.f5.f0, .slice A8 b.f5.f1.length u8, .slice A9 b.f5.f2.length u9, .slice A10 b.f6.length u10, .bool vE, .slice A12 s8.length u12, .string b.f9] 68))), v3 = .int .i64 i ∧ w' = e.now ∧ 0 ≤ i ∧ i ≤ b.f6.length ∧ Aside0 ((b.f6.length : Int) - i ≤ g) ∧ Aside0 (∀ j, j < i.toNat → txOk (rd_T106 b.f6 (j : Int)) = true))
                case atStart => exact ⟨0, e6, rfl, rfl, Int.le_refl _, by omega, ⟨by omega⟩, ⟨fun j hj => absurd hj (by simp)⟩⟩
                case round =>
                  obtain ⟨i, e, rfl, rfl, hi0, hi1, HG, HA⟩ := hrel
                  by_cases c1 : i < (b.f6.length : Int)
                  · obtain ⟨ad, q1, r0, r1, r2, r3, r4⟩ := at_T106 HR.out i hi0 c1
                    subst q1
                    have R0 := On.cellBox N0 r0
                    have R1 := On.cellBox N0 r1
                    have R2 := On.cellBox N0 r2
                    have R3 := On.cellBox N0 r3
                    have R4 := On.cellBox N0 r4
                    clear r0 r1 r2 r3 r4
                    have hm := HX.out (rd_T106 b.f6 i) (getD_mem (by omega) _)
                    have F1 := Aside0.mk (fun W => spec_TxOk.does (t := rd_T106 b.f6 i) hm.1 hm.2 W)
                    clear hm
                    cases ht : txOk (rd_T106 b.f6 i)
                    · rw [ht] at F1
                      have HF := Aside0.mk (hat.trans (by rw [allUpto_no (p := fun i => txOk (rd_T106 b.f6 (i : Int))) (by omega : i.toNat < b.f6.length) (by show txOk (rd_T106 b.f6 (i.toNat : Int)) = false; rw [Int.toNat_of_nonneg hi0]; exact ht)]; rfl : _ = false))
                      clear ht hat
                      go_wp2_with fail
                      refine BW.call (F1.out _) (fun e2 => ?_)
                      go_wp2
                      go_ret
                      exact ⟨by first | (rw [HF.out]; rfl) | rfl, e2.boxed.ok⟩
                    · rw [ht] at F1
                      have HT := Aside0.mk ht
                      clear ht
                      go_wp2_with fail
                      refine BW.call (F1.out _) (fun e2 => ?_)
                      go_wp2
                      go_roundg (b.f6.length - i.toNat - 1)
                      case measure => have := HG.out; omega
                      case rel => exact ⟨i + 1, e2, rfl, rfl, by omega, by omega, ⟨by omega⟩, ⟨upto_next hi0 HA.out (by rw [Int.toNat_of_nonneg hi0]; exact HT.out)⟩⟩
                  · skip
                    rw [allUpto_yes (p := fun i => txOk (rd_T106 b.f6 (i : Int))) (fun j hj => HA.out j (by omega)), Bool.true_and] at hat
                    clear HA HG HX HR
                    cases vE
                    case true =>
                      rw [if_pos rfl] at hat
                      generalize setOk s8 = b9 at *
                      cases b9
                      · skip
                        go_wp2_with fail
                        refine BW.call (E9.out _) (fun e9 => ?_)
                        go_wp2
                        go_ret
                        exact ⟨by first | (rw [hat]; rfl) | rfl, e9.boxed.ok⟩
                      · by_cases c9 : (b.f9.size : Int) = 32
                        · skip
                          have c9' : decide ((b.f9.size : Int) = 32) = true := decide_eq_true c9
                          have c9'' : ((b.f9.size : Int) == 32) = true := c9'
                          rw [c9''] at hat
                          clear c9
                          go_wp2_with fail
                          refine BW.call (E9.out _) (fun e9 => ?_)
                          go_wp2
                          go_ret
                          exact ⟨by first | (rw [hat]; rfl) | rfl, e9.boxed.ok⟩
                        · skip
                          have c9' : decide ((b.f9.size : Int) = 32) = false := decide_eq_false c9
                          have c9'' : ((b.f9.size : Int) == 32) = false := c9'
                          rw [c9''] at hat
                          clear c9
                          go_wp2_with fail
                          refine BW.call (E9.out _) (fun e9 => ?_)
                          go_wp2
                          go_ret
                          exact ⟨by first | (rw [hat]; rfl) | rfl, e9.boxed.ok⟩
                    case false =>
                      rw [if_neg (by decide)] at hat
                      by_cases c9 : (s8.length : Int) = 0
                      · skip
                        have c9' : decide ((s8.length : Int) = 0) = true := decide_eq_true c9
                        rw [c9'] at hat
                        obtain rfl : s8 = [] := List.length_eq_zero_iff.1 (by omega)
                        by_cases c8 : b.f9.toList = []
                        · skip
                          have c8' : (b.f9.toList == ([] : List UInt8)) = true := by rw [c8]; rfl
                          rw [c8'] at hat
                          clear c9
                          go_wp2
                          go_ret
                          exact ⟨by first | (rw [hat]; rfl) | rfl, e.boxed.ok⟩
                        · skip
                          have c8' : (b.f9.toList == ([] : List UInt8)) = false := by simp [c8]
                          rw [c8'] at hat
                          clear c9
                          go_wp2
                          go_ret
                          exact ⟨by first | (rw [hat]; rfl) | rfl, e.boxed.ok⟩
                      · skip
                        have c9' : decide ((s8.length : Int) = 0) = false := decide_eq_false c9
                        rw [c9'] at hat
                        have c9e : ¬ s8 = [] := fun h => c9 (by rw [h]; rfl)
                        clear c9
                        go_wp2
                        go_ret
                        exact ⟨by first | (rw [hat]; rfl) | rfl, e.boxed.ok⟩

/-- What it comes to, told as the printer tells it (the function is walked by hand above). -/
def spec_BlockOk.f (_k : Nat) (a0_0 : Int) (a0_1 : Int) (a0_2 : Int) (a0_3 : ByteArray) (a0_4 : Int) (a0_5 : Int) (l0_6 : List ByteArray) (a0_7 : Int) (l0_8 : List ByteArray) (l0_9 : List Int) (l0_10 : List (S106)) (a0_11 : Bool) (l0_12 : List (S93)) (a0_13 : ByteArray) : Option Bool := if blockFit (⟨a0_0, a0_1, a0_2, a0_3, ⟨a0_4, a0_5, l0_6⟩, ⟨a0_7, l0_8, l0_9⟩, l0_10, a0_11, l0_12, a0_13⟩ : S68) then some (blockOk (⟨a0_0, a0_1, a0_2, a0_3, ⟨a0_4, a0_5, l0_6⟩, ⟨a0_7, l0_8, l0_9⟩, l0_10, a0_11, l0_12, a0_13⟩ : S68)) else none
theorem spec_BlockOk.mono : ∀ a0 a1 a2 a3 a4 a5 a6 a7 a8 a9 a10 a11 a12 a13 k, LeO (spec_BlockOk.f k a0 a1 a2 a3 a4 a5 a6 a7 a8 a9 a10 a11 a12 a13) (spec_BlockOk.f (k + 1) a0 a1 a2 a3 a4 a5 a6 a7 a8 a9 a10 a11 a12 a13) := fun _ _ _ _ _ _ _ _ _ _ _ _ _ _ _ => LeO.refl _
theorem spec_BlockOk.calls (k : Nat) (a0_0 : Int) (a0_1 : Int) (a0_2 : Int) (a0_3 : ByteArray) (a0_4 : Int) (a0_5 : Int) (A0_6 : Option Addr) (c0_6 : Nat) (l0_6 : List ByteArray) (a0_7 : Int) (A0_8 : Option Addr) (c0_8 : Nat) (l0_8 : List ByteArray) (A0_9 : Option Addr) (c0_9 : Nat) (l0_9 : List Int) (A0_10 : Option Addr) (c0_10 : Nat) (l0_10 : List (S106)) (a0_11 : Bool) (A0_12 : Option Addr) (c0_12 : Nat) (l0_12 : List (S93)) (a0_13 : ByteArray) (r : Bool) (w : World) (hr0_6 : Kd.C Kd.string w A0_6 l0_6.length l0_6) (hc0_6 : l0_6.length ≤ c0_6) (hr0_8 : Kd.C Kd.string w A0_8 l0_8.length l0_8) (hc0_8 : l0_8.length ≤ c0_8) (hr0_9 : Kd.C (Kd.int .i64) w A0_9 l0_9.length l0_9) (hc0_9 : l0_9.length ≤ c0_9) (hr0_10 : Kd.C k106 w A0_10 l0_10.length l0_10) (hc0_10 : l0_10.length ≤ c0_10) (hr0_12 : Kd.C k93 w A0_12 l0_12.length l0_12) (hc0_12 : l0_12.length ≤ c0_12) (h : spec_BlockOk.f k a0_0 a0_1 a0_2 a0_3 a0_4 a0_5 l0_6 a0_7 l0_8 l0_9 l0_10 a0_11 l0_12 a0_13 = some r) :
    Calls Try.prog 53 #[.agg #[.int .i64 a0_0, .int .i64 a0_1, .int .i64 a0_2, .string a0_3, .int .i64 a0_4, .int .i64 a0_5, .slice A0_6 l0_6.length c0_6, .int .i64 a0_7, .slice A0_8 l0_8.length c0_8, .slice A0_9 l0_9.length c0_9, .slice A0_10 l0_10.length c0_10, .bool a0_11, .slice A0_12 l0_12.length c0_12, .string a0_13]] w fun e w' => e = .returned (.bool r) ∧ Below w.heap.size w w' := by
  unfold spec_BlockOk.f at h
  split at h
  · next hf =>
    cases h
    exact spec_BlockOk.does hf (k68_mk w (⟨a0_0, a0_1, a0_2, a0_3, ⟨a0_4, a0_5, l0_6⟩, ⟨a0_7, l0_8, l0_9⟩, l0_10, a0_11, l0_12, a0_13⟩ : S68) hc0_6 hr0_6 hc0_8 hr0_8 hc0_9 hr0_9 hc0_10 hr0_10 hc0_12 hr0_12)
  · cases h
theorem spec_BlockOk.is {b : S68} (hf : blockFit b) : Ev (fun k => spec_BlockOk.f k b.f0 b.f1 b.f2 b.f3 b.f4.f0 b.f4.f1 b.f4.f2 b.f5.f0 b.f5.f1 b.f5.f2 b.f6 b.f7 b.f8 b.f9) (blockOk b) := by
  unfold spec_BlockOk.f
  rw [if_pos (show blockFit b from hf)]
  exact Ev.now _

/-! ### impl_txsOk: function 97 -/
def impl_txsOk.l0 : Nat → List (S106) → Int → Int → Option (Bool)
  | 0, _, _, _ => none
  | k + 1, x5, x6, x7 => if x7 < x6 then (if 0 ≤ x7 then (if x7 < (x5.length : Int) then ((impl_TxOk.f k ((rd_T106 x5 x7).f0) ((rd_T106 x5 x7).f1) ((rd_T106 x5 x7).f2) ((rd_T106 x5 x7).f3) ((rd_T106 x5 x7).f4)).bind fun t838 => (if t838 = true then (impl_txsOk.l0 k x5 x6 (wrap64 (x7 + 1))) else (some false))) else (none)) else (none)) else (some true)
def impl_txsOk.f (k : Nat) (l0 : List (S106)) : Option (Bool) := impl_txsOk.l0 k l0 (l0.length : Int) 0
theorem impl_txsOk.mono_l : ∀ k, (∀ y0 y1 y2, LeO (impl_txsOk.l0 k y0 y1 y2) (impl_txsOk.l0 (k + 1) y0 y1 y2))
  | 0 => fun _ _ _ r h => by simp [impl_txsOk.l0] at h
  | k + 1 => by
    have ih0 := impl_txsOk.mono_l k
    · intro y0 y1 y2
      unfold impl_txsOk.l0
      repeat' first
      | (with_reducible exact ih0 _ _ _)
      | (with_reducible exact impl_TxOk.mono _ _ _ _ _ _)
      | (with_reducible exact LeO.refl _)
      | (with_reducible exact LeO.none _)
      | (with_reducible refine LeO.ite ?_ ?_)
      | (with_reducible refine LeO.bind ?_ (fun _ => ?_))
      | exact ih0 _ _ _
      | exact impl_TxOk.mono _ _ _ _ _ _
      | exact LeO.none _
      | refine LeO.ite ?_ ?_
      | refine LeO.bind ?_ (fun _ => ?_)
theorem impl_txsOk.mono : ∀ a0 k, LeO (impl_txsOk.f k a0) (impl_txsOk.f (k + 1) a0) := by
  intro a0 k
  have ih0 := impl_txsOk.mono_l k
  unfold impl_txsOk.f
  repeat' first
      | (with_reducible exact ih0 _ _ _)
      | (with_reducible exact impl_TxOk.mono _ _ _ _ _ _)
      | (with_reducible exact LeO.refl _)
      | (with_reducible exact LeO.none _)
      | (with_reducible refine LeO.ite ?_ ?_)
      | (with_reducible refine LeO.bind ?_ (fun _ => ?_))
      | exact ih0 _ _ _
      | exact impl_TxOk.mono _ _ _ _ _ _
      | exact LeO.none _
      | refine LeO.ite ?_ ?_
      | refine LeO.bind ?_ (fun _ => ?_)
set_option maxHeartbeats 8000000 in
set_option maxRecDepth 100000 in
theorem impl_txsOk.calls (k : Nat) (A0 : Option Addr) (c0 : Nat) (l0 : List (S106)) (r : Bool) (w : World) (hr0 : Kd.C k106 w A0 l0.length l0) (hc0 : l0.length ≤ c0) (h : impl_txsOk.f k l0 = some r) :
    Calls Try.prog 97 #[.slice A0 l0.length c0] w fun e w' => e = .returned (.bool r) ∧ Below w.heap.size w w' := by
  have hu106 := Try.underlying106
  have HR0 := Aside0.mk hr0
  have HC0 := Aside0.mk hc0
  clear hr0 hc0
  have HB := Aside0.mk (Below.refl w.heap.size w)
  have H : (impl_txsOk.l0 k l0 (l0.length : Int) 0) = some r := h
  clear h
  have H' := Aside0.mk H
  clear H
  go_enter Try.func97, Try.ntmps97
  go_wp2
  go_loopg [7] k (fun kq v7 w' => ∃ (x7_1 : Int), v7 = .int .i64 x7_1 ∧ Aside0 (impl_txsOk.l0 kq l0 (l0.length : Int) x7_1 = some r) ∧ Aside0 (kq ≤ k) ∧ Aside0 (Below w.heap.size w w'))
  case atStart => exact ⟨(0), (by first | rfl | (simp; done) | (simp [*]; done)), H', ⟨Nat.le_refl _⟩, ⟨by repeat (first | (with_reducible first | exact HB.out | apply below_alloc | apply pw_below_drewN | apply below_drew1) | exact HB.out)⟩⟩
  case round =>
    clear H'
    obtain ⟨x7_1, rfl, HA, HK1, HB⟩ := hrel
    cases gk with
    | zero => exact absurd HA.out (by simp [impl_txsOk.l0])
    | succ k1 =>
      have H := HA.out
      clear HA
      simp only [impl_txsOk.l0] at H
      by_cases c2 : x7_1 < (l0.length : Int)
      · rw [if_pos c2] at H
        have c2b0 : decide (x7_1 < (l0.length : Int)) = true := decide_eq_true c2
        clear c2
        by_cases c3 : 0 ≤ x7_1
        · rw [if_pos c3] at H
          have c3b0 : decide (0 ≤ x7_1) = true := decide_eq_true c3
          clear c3
          by_cases c4 : x7_1 < (l0.length : Int)
          · rw [if_pos c4] at H
            have c4b0 : decide (x7_1 < (l0.length : Int)) = true := decide_eq_true c4
            clear c4
            replace H := Option.bind_eq_some_iff.mp H
            obtain ⟨t838, A50, H⟩ := H
            replace H : (if t838 = true then (impl_txsOk.l0 k1 l0 (l0.length : Int) (wrap64 (x7_1 + 1))) else (some false)) = some r := H
            have A5 := Aside0.mk A50
            clear A50
            by_cases c6 : t838 = true
            · subst c6
              have H1 : (impl_txsOk.l0 k1 l0 (l0.length : Int) (wrap64 (x7_1 + 1))) = some r := by rw [if_pos rfl] at H; exact H
              clear H
              have H := H1
              clear H1
              have H' := Aside0.mk H
              clear H
              have p836 : 0 ≤ (x7_1 : Int) := of_decide_eq_true (by first | (with_reducible assumption) | assumption)
              have q836 : x7_1 < (l0.length : Int) := of_decide_eq_true (by first | (with_reducible assumption) | assumption)
              obtain ⟨ad836, e836, hx836_0, hx836_1, hx836_2, hx836_3, hx836_4⟩ := at_T106 HR0.out x7_1 p836 q836
              cases e836
              replace hx836_0 := (HB.out.cell (World.block_lt_of_cell? w _ hx836_0)).trans hx836_0
              replace hx836_1 := (HB.out.cell (World.block_lt_of_cell? w _ hx836_1)).trans hx836_1
              replace hx836_2 := (HB.out.cell (World.block_lt_of_cell? w _ hx836_2)).trans hx836_2
              replace hx836_3 := (HB.out.cell (World.block_lt_of_cell? w _ hx836_3)).trans hx836_3
              replace hx836_4 := (HB.out.cell (World.block_lt_of_cell? w _ hx836_4)).trans hx836_4
              replace p836 := eq_true p836
              replace q836 := eq_true q836
              go_wp2_with (first | ((with_reducible refine gate_dst (N := 4) rfl ?_); refine box_event ?hg (N := 4) ?hd (cs := #[.int .i64 0, .string (⟨#[]⟩ : ByteArray), .string (⟨#[]⟩ : ByteArray), .int .i64 0, .int .i64 0]) (t := 106) ?hr ?_; (case hd => rfl); (case hg => rfl); (case hr => first | (go_simp; done) | (go_simp; rfl)); intro gb837 hg w7 hbox hb; have n0_ := Aside0.mk (below_step (by repeat (first | (with_reducible first | exact HB.out | apply below_alloc | apply pw_below_drewN | apply below_drew1) | exact HB.out)) hb); have n1_ := Aside0.mk (hbox); have n2_ := Aside0.mk ((by rw [hg]; exact (below_size (by repeat (first | (with_reducible first | exact HB.out | apply below_alloc | apply pw_below_drewN | apply below_drew1) | exact HB.out))) : w.heap.size ≤ gb837)); have n3_ := n2_; clear HB; have HB := n0_; have BK837 := n1_; have GW837 := n2_; have GE837 := n3_; clear n0_ n1_ n2_ n3_; clear hb hbox hg; obtain ⟨hcz8_0, hcz8_1, hcz8_2, hcz8_3, hcz8_4⟩ := cells5 BK837.out; obtain ⟨hfz8_0, hfz8_1, hfz8_2, hfz8_3, hfz8_4⟩ := frozens5 BK837.out) | ((with_reducible refine gate_callee (f := 76) rfl ?_); refine goesL_ (some 12) rfl rfl Try.func76 (by kernel_rfl) rfl #[.agg #[.int .i64 ((rd_T106 l0 x7_1).f0), .string ((rd_T106 l0 x7_1).f1), .string ((rd_T106 l0 x7_1).f2), .int .i64 ((rd_T106 l0 x7_1).f3), .int .i64 ((rd_T106 l0 x7_1).f4)]] rfl (by (try simp only [List.map_toArray, List.map_cons, List.map_nil]); first | done | rfl | (simp only [List.length_drop, List.length_take]; rfl)) ?_; (with_reducible refine (impl_TxOk.calls k1 ((rd_T106 l0 x7_1).f0) ((rd_T106 l0 x7_1).f1) ((rd_T106 l0 x7_1).f2) ((rd_T106 l0 x7_1).f3) ((rd_T106 l0 x7_1).f4) true _ A5.out).mono ?_); rintro e w9 ⟨rfl, hb⟩; refine ⟨_, rfl, ?_⟩; have n0_ := Aside0.mk (blk_below (g := gb837) (o := .cells #[.int .i64 ((rd_T106 l0 x7_1).f0), .string ((rd_T106 l0 x7_1).f1), .string ((rd_T106 l0 x7_1).f2), .int .i64 ((rd_T106 l0 x7_1).f3), .int .i64 ((rd_T106 l0 x7_1).f4)] 106 (0, 0)) (by (with_reducible repeat (first | refine blk_drewN ?_ _ | refine blk_drew ?_ | refine blk_alloc ?_ _)); refine blk_put (cs := #[.int .i64 ((rd_T106 l0 x7_1).f0), .string ((rd_T106 l0 x7_1).f1), .string ((rd_T106 l0 x7_1).f2), .int .i64 ((rd_T106 l0 x7_1).f3), .int .i64 0]) ?_ 4 _ rfl; (with_reducible repeat (first | refine blk_drewN ?_ _ | refine blk_drew ?_ | refine blk_alloc ?_ _)); refine blk_put (cs := #[.int .i64 ((rd_T106 l0 x7_1).f0), .string ((rd_T106 l0 x7_1).f1), .string ((rd_T106 l0 x7_1).f2), .int .i64 0, .int .i64 0]) ?_ 3 _ rfl; (with_reducible repeat (first | refine blk_drewN ?_ _ | refine blk_drew ?_ | refine blk_alloc ?_ _)); refine blk_put (cs := #[.int .i64 ((rd_T106 l0 x7_1).f0), .string ((rd_T106 l0 x7_1).f1), .string (⟨#[]⟩ : ByteArray), .int .i64 0, .int .i64 0]) ?_ 2 _ rfl; (with_reducible repeat (first | refine blk_drewN ?_ _ | refine blk_drew ?_ | refine blk_alloc ?_ _)); refine blk_put (cs := #[.int .i64 ((rd_T106 l0 x7_1).f0), .string (⟨#[]⟩ : ByteArray), .string (⟨#[]⟩ : ByteArray), .int .i64 0, .int .i64 0]) ?_ 1 _ rfl; (with_reducible repeat (first | refine blk_drewN ?_ _ | refine blk_drew ?_ | refine blk_alloc ?_ _)); refine blk_put (cs := #[.int .i64 0, .string (⟨#[]⟩ : ByteArray), .string (⟨#[]⟩ : ByteArray), .int .i64 0, .int .i64 0]) ?_ 0 _ rfl; (with_reducible repeat (first | refine blk_drewN ?_ _ | refine blk_drew ?_ | refine blk_alloc ?_ _)); exact BK837.out) hb); have n1_ := Aside0.mk (below_step (by repeat (first | (with_reducible first | exact HB.out | apply below_alloc | apply pw_below_drewN | apply below_drew1 | refine below_set ?_ GE837.out) | exact HB.out)) hb); clear BK837; clear HB; have BK837 := n0_; have HB := n1_; clear n0_ n1_; (try clear hb); (try clear hb2); (try clear hk); (try clear hi)))
              go_roundg k1
              case measure => have := HK1.out; omega
              case rel => exact ⟨(wrap64 (x7_1 + 1)), (by first | rfl | (simp; done) | (simp [*]; done)), H', ⟨by have := HK1.out; omega⟩, ⟨by repeat (first | (with_reducible first | exact HB.out | apply below_alloc | apply pw_below_drewN | apply below_drew1 | refine below_set ?_ GE837.out) | exact HB.out)⟩⟩
            · replace c6 := Bool.eq_false_iff.mpr c6
              subst c6
              have H1 : (some false) = some r := by rw [if_neg (show ¬ (false = true) by decide)] at H; exact H
              clear H
              have H := H1
              clear H1
              obtain rfl := Option.some.inj H
              have p836 : 0 ≤ (x7_1 : Int) := of_decide_eq_true (by first | (with_reducible assumption) | assumption)
              have q836 : x7_1 < (l0.length : Int) := of_decide_eq_true (by first | (with_reducible assumption) | assumption)
              obtain ⟨ad836, e836, hx836_0, hx836_1, hx836_2, hx836_3, hx836_4⟩ := at_T106 HR0.out x7_1 p836 q836
              cases e836
              replace hx836_0 := (HB.out.cell (World.block_lt_of_cell? w _ hx836_0)).trans hx836_0
              replace hx836_1 := (HB.out.cell (World.block_lt_of_cell? w _ hx836_1)).trans hx836_1
              replace hx836_2 := (HB.out.cell (World.block_lt_of_cell? w _ hx836_2)).trans hx836_2
              replace hx836_3 := (HB.out.cell (World.block_lt_of_cell? w _ hx836_3)).trans hx836_3
              replace hx836_4 := (HB.out.cell (World.block_lt_of_cell? w _ hx836_4)).trans hx836_4
              replace p836 := eq_true p836
              replace q836 := eq_true q836
              go_wp2_with (first | ((with_reducible refine gate_dst (N := 4) rfl ?_); refine box_event ?hg (N := 4) ?hd (cs := #[.int .i64 0, .string (⟨#[]⟩ : ByteArray), .string (⟨#[]⟩ : ByteArray), .int .i64 0, .int .i64 0]) (t := 106) ?hr ?_; (case hd => rfl); (case hg => rfl); (case hr => first | (go_simp; done) | (go_simp; rfl)); intro gb837 hg w10 hbox hb; have n0_ := Aside0.mk (below_step (by repeat (first | (with_reducible first | exact HB.out | apply below_alloc | apply pw_below_drewN | apply below_drew1) | exact HB.out)) hb); have n1_ := Aside0.mk (hbox); have n2_ := Aside0.mk ((by rw [hg]; exact (below_size (by repeat (first | (with_reducible first | exact HB.out | apply below_alloc | apply pw_below_drewN | apply below_drew1) | exact HB.out))) : w.heap.size ≤ gb837)); have n3_ := n2_; clear HB; have HB := n0_; have BK837 := n1_; have GW837 := n2_; have GE837 := n3_; clear n0_ n1_ n2_ n3_; clear hb hbox hg; obtain ⟨hcz11_0, hcz11_1, hcz11_2, hcz11_3, hcz11_4⟩ := cells5 BK837.out; obtain ⟨hfz11_0, hfz11_1, hfz11_2, hfz11_3, hfz11_4⟩ := frozens5 BK837.out) | ((with_reducible refine gate_callee (f := 76) rfl ?_); refine goesL_ (some 12) rfl rfl Try.func76 (by kernel_rfl) rfl #[.agg #[.int .i64 ((rd_T106 l0 x7_1).f0), .string ((rd_T106 l0 x7_1).f1), .string ((rd_T106 l0 x7_1).f2), .int .i64 ((rd_T106 l0 x7_1).f3), .int .i64 ((rd_T106 l0 x7_1).f4)]] rfl (by (try simp only [List.map_toArray, List.map_cons, List.map_nil]); first | done | rfl | (simp only [List.length_drop, List.length_take]; rfl)) ?_; (with_reducible refine (impl_TxOk.calls k1 ((rd_T106 l0 x7_1).f0) ((rd_T106 l0 x7_1).f1) ((rd_T106 l0 x7_1).f2) ((rd_T106 l0 x7_1).f3) ((rd_T106 l0 x7_1).f4) false _ A5.out).mono ?_); rintro e w12 ⟨rfl, hb⟩; refine ⟨_, rfl, ?_⟩; have n0_ := Aside0.mk (blk_below (g := gb837) (o := .cells #[.int .i64 ((rd_T106 l0 x7_1).f0), .string ((rd_T106 l0 x7_1).f1), .string ((rd_T106 l0 x7_1).f2), .int .i64 ((rd_T106 l0 x7_1).f3), .int .i64 ((rd_T106 l0 x7_1).f4)] 106 (0, 0)) (by (with_reducible repeat (first | refine blk_drewN ?_ _ | refine blk_drew ?_ | refine blk_alloc ?_ _)); refine blk_put (cs := #[.int .i64 ((rd_T106 l0 x7_1).f0), .string ((rd_T106 l0 x7_1).f1), .string ((rd_T106 l0 x7_1).f2), .int .i64 ((rd_T106 l0 x7_1).f3), .int .i64 0]) ?_ 4 _ rfl; (with_reducible repeat (first | refine blk_drewN ?_ _ | refine blk_drew ?_ | refine blk_alloc ?_ _)); refine blk_put (cs := #[.int .i64 ((rd_T106 l0 x7_1).f0), .string ((rd_T106 l0 x7_1).f1), .string ((rd_T106 l0 x7_1).f2), .int .i64 0, .int .i64 0]) ?_ 3 _ rfl; (with_reducible repeat (first | refine blk_drewN ?_ _ | refine blk_drew ?_ | refine blk_alloc ?_ _)); refine blk_put (cs := #[.int .i64 ((rd_T106 l0 x7_1).f0), .string ((rd_T106 l0 x7_1).f1), .string (⟨#[]⟩ : ByteArray), .int .i64 0, .int .i64 0]) ?_ 2 _ rfl; (with_reducible repeat (first | refine blk_drewN ?_ _ | refine blk_drew ?_ | refine blk_alloc ?_ _)); refine blk_put (cs := #[.int .i64 ((rd_T106 l0 x7_1).f0), .string (⟨#[]⟩ : ByteArray), .string (⟨#[]⟩ : ByteArray), .int .i64 0, .int .i64 0]) ?_ 1 _ rfl; (with_reducible repeat (first | refine blk_drewN ?_ _ | refine blk_drew ?_ | refine blk_alloc ?_ _)); refine blk_put (cs := #[.int .i64 0, .string (⟨#[]⟩ : ByteArray), .string (⟨#[]⟩ : ByteArray), .int .i64 0, .int .i64 0]) ?_ 0 _ rfl; (with_reducible repeat (first | refine blk_drewN ?_ _ | refine blk_drew ?_ | refine blk_alloc ?_ _)); exact BK837.out) hb); have n1_ := Aside0.mk (below_step (by repeat (first | (with_reducible first | exact HB.out | apply below_alloc | apply pw_below_drewN | apply below_drew1 | refine below_set ?_ GE837.out) | exact HB.out)) hb); clear BK837; clear HB; have BK837 := n0_; have HB := n1_; clear n0_ n1_; (try clear hb); (try clear hb2); (try clear hk); (try clear hi)))
              go_ret
              exact ⟨by first | rfl | (simp [errW_none, errW_some] <;> rfl) | (simp [*, errW_none, errW_some] <;> rfl), by repeat (first | (with_reducible first | exact HB.out | apply below_alloc | apply pw_below_drewN | apply below_drew1 | refine below_set ?_ GE837.out) | exact HB.out)⟩
          · rw [if_neg c4] at H
            exact absurd H (by simp)
        · rw [if_neg c3] at H
          exact absurd H (by simp)
      · rw [if_neg c2] at H
        have c2b0 : decide (x7_1 < (l0.length : Int)) = false := decide_eq_false c2
        clear c2
        obtain rfl := Option.some.inj H
        go_wp2
        go_ret
        exact ⟨by first | rfl | (simp [errW_none, errW_some] <;> rfl) | (simp [*, errW_none, errW_some] <;> rfl), by repeat (first | (with_reducible first | exact HB.out | apply below_alloc | apply pw_below_drewN | apply below_drew1) | exact HB.out)⟩

theorem impl_txsOk.is {l : List S106} (hx : l.length ≤ maxLen) (hxs : ∀ t ∈ l, t.f1.size ≤ maxLen ∧ t.f2.size ≤ maxLen) : Ev (fun k => impl_txsOk.f k l) (allUpto l.length (fun i => txOk (rd_T106 l (i : Int)))) := by
  have hm : maxLen = 9223372036854775807 := rfl
  unfold impl_txsOk.f
  refine Ev.to (ev_all (tail := true) (fun k i => impl_txsOk.l0 k l l.length i) ?_ (fun i hi r' ih => ?_)) (Bool.and_true _)
  · simp only [impl_txsOk.l0]
    exact Ev.no (by omega) (Ev.now _)
  · simp only [impl_txsOk.l0]
    refine Ev.yes (by omega) (Ev.yes (by omega) (Ev.yes (by omega) ?_))
    rw [unw (x := (i : Int) + 1) (by omega) (by omega)]
    have hmem := hxs (rd_T106 l (i : Int)) (getD_mem (by omega) _)
    refine Ev.bind (impl_TxOk.is hmem.1 hmem.2) (Ev.cond (fun hc => Ev.to ih (by rw [hc]; simp)) (fun hc => Ev.is (by rw [Bool.eq_false_iff.2 hc]; simp)))
theorem impl_txsOk.does {l : List S106} (hx : l.length ≤ maxLen) (hxs : ∀ t ∈ l, t.f1.size ≤ maxLen ∧ t.f2.size ≤ maxLen) {B : Option Addr} {c : Nat} {w : World} (hr : Kd.C k106 w B l.length l) (hc : l.length ≤ c) : Calls Try.prog 97 #[.slice B l.length c] w fun e w' => e = .returned (.bool (allUpto l.length (fun i => txOk (rd_T106 l (i : Int))))) ∧ Below w.heap.size w w' := by
  obtain ⟨k, h⟩ := (impl_txsOk.is hx hxs).rounds
  exact (impl_txsOk.calls (hr0 := hr) (hc0 := hc) (h := h)).mono fun _ _ ⟨a, b⟩ => ⟨a, b⟩

/-! ### impl_BlockOk: walked in this session -/
set_option maxHeartbeats 2000000 in
set_option maxRecDepth 100000 in
theorem impl_BlockOk.does {b : S68} (hf : blockFit b) {cs : List Value} {w : World} (hK : k68.K w b cs) : Calls Try.prog 54 #[.agg cs.toArray] w fun e w' => e = .returned (.bool (blockOk b)) ∧ Below w.heap.size w w' := by
  obtain ⟨hby, ⟨hq, hqs⟩, ⟨ht, hts⟩, hh, ⟨hx, hxs⟩, hv, hvs⟩ := hf
  have hK' := hK
  obtain ⟨A6, u6, A8, u8, A9, u9, A10, u10, A12, u12, rfl, l6, g6, l8, g8, l9, g9, l10, g10, l12, g12⟩ := k68_open hK
  have NB := fun e : On (w.alloc (.cells #[.int .i64 b.f0, .int .i64 b.f1, .int .i64 b.f2, .string b.f3, .int .i64 b.f4.f0, .int .i64 b.f4.f1, .slice A6 b.f4.f2.length u6, .int .i64 b.f5.f0, .slice A8 b.f5.f1.length u8, .slice A9 b.f5.f2.length u9, .slice A10 b.f6.length u10, .bool b.f7, .slice A12 b.f8.length u12, .string b.f9] 68)) => cells14 (On.blk e)
  have N0 := fun e => (NB e).1
  have N1 := fun e => (NB e).2.1
  have N2 := fun e => (NB e).2.2.1
  have N3 := fun e => (NB e).2.2.2.1
  have N4 := fun e => (NB e).2.2.2.2.1
  have N5 := fun e => (NB e).2.2.2.2.2.1
  have N6 := fun e => (NB e).2.2.2.2.2.2.1
  have N7 := fun e => (NB e).2.2.2.2.2.2.2.1
  have N8 := fun e => (NB e).2.2.2.2.2.2.2.2.1
  have N9 := fun e => (NB e).2.2.2.2.2.2.2.2.2.1
  have N10 := fun e => (NB e).2.2.2.2.2.2.2.2.2.2.1
  have N11 := fun e => (NB e).2.2.2.2.2.2.2.2.2.2.2.1
  have N12 := fun e => (NB e).2.2.2.2.2.2.2.2.2.2.2.2.1
  have N13 := fun e => (NB e).2.2.2.2.2.2.2.2.2.2.2.2.2
  clear NB
  have E1 := Aside0.mk (fun W => impl_inRange.does b.f0 0 100000 W)
  have E2 := Aside0.mk (fun W => impl_inRange.does b.f1 0 900 W)
  have E3 := Aside0.mk (fun W => impl_inRange.does b.f2 1 10000 W)
  have E4 := Aside0.mk (fun W => impl_NameOk.does hby W)
  have E5 := Aside0.mk (fun e : On (w.alloc (.cells #[.int .i64 b.f0, .int .i64 b.f1, .int .i64 b.f2, .string b.f3, .int .i64 b.f4.f0, .int .i64 b.f4.f1, .slice A6 b.f4.f2.length u6, .int .i64 b.f5.f0, .slice A8 b.f5.f1.length u8, .slice A9 b.f5.f2.length u9, .slice A10 b.f6.length u10, .bool b.f7, .slice A12 b.f8.length u12, .string b.f9] 68)) => impl_qcForm.does (q := b.f4) (wrap64 (b.f2 - 1)) (wrap64 (b.f0 - 1)) hq hqs (On.val (k57_mk w b.f4 l6 g6) e.boxed))
  have E6 := Aside0.mk (fun e : On (w.alloc (.cells #[.int .i64 b.f0, .int .i64 b.f1, .int .i64 b.f2, .string b.f3, .int .i64 b.f4.f0, .int .i64 b.f4.f1, .slice A6 b.f4.f2.length u6, .int .i64 b.f5.f0, .slice A8 b.f5.f1.length u8, .slice A9 b.f5.f2.length u9, .slice A10 b.f6.length u10, .bool b.f7, .slice A12 b.f8.length u12, .string b.f9] 68)) => impl_tcForm.does (t := b.f5) (wrap64 (b.f2 - 1)) ht hts hh (On.val (k36_mk w b.f5 l8 g8 l9 g9) e.boxed))
  have E7 := Aside0.mk (fun e : On (w.alloc (.cells #[.int .i64 b.f0, .int .i64 b.f1, .int .i64 b.f2, .string b.f3, .int .i64 b.f4.f0, .int .i64 b.f4.f1, .slice A6 b.f4.f2.length u6, .int .i64 b.f5.f0, .slice A8 b.f5.f1.length u8, .slice A9 b.f5.f2.length u9, .slice A10 b.f6.length u10, .bool b.f7, .slice A12 b.f8.length u12, .string b.f9] 68)) => impl_txsOk.does hx hxs (On.row g10 e.boxed) l10)
  have E9 := Aside0.mk (fun e : On (w.alloc (.cells #[.int .i64 b.f0, .int .i64 b.f1, .int .i64 b.f2, .string b.f3, .int .i64 b.f4.f0, .int .i64 b.f4.f1, .slice A6 b.f4.f2.length u6, .int .i64 b.f5.f0, .slice A8 b.f5.f1.length u8, .slice A9 b.f5.f2.length u9, .slice A10 b.f6.length u10, .bool b.f7, .slice A12 b.f8.length u12, .string b.f9] 68)) => impl_SetOk.does hv hvs (On.row g12 e.boxed) l12)
  simp only [On.boxed_now] at E5 E6 E7 E9
  have hat : blockOk b = (inR b.f0 0 100000 && (inR b.f1 0 900 && (inR b.f2 1 10000 && (nameOk b.f3 && (qcForm b.f4.f0 b.f4.f1 b.f4.f2 (wrap64 (b.f2 - 1)) (wrap64 (b.f0 - 1)) && (tcForm b.f5.f0 b.f5.f1 b.f5.f2 (wrap64 (b.f2 - 1)) && (!decide ((b.f6.length : Int) > 4) && (allUpto b.f6.length (fun i => txOk (rd_T106 b.f6 (i : Int))) && (if b.f7 = true then (setOk b.f8 && ((b.f9.size : Int) == 32)) else (decide ((b.f8.length : Int) = 0) && (b.f9.toList == ([] : List UInt8)))))))))))) := rfl
  clear hby hq hqs ht hts hh hx hxs hv hvs hK hK' l6 g6 l8 g8 l9 g9 l10 g10 l12 g12
  generalize inR b.f0 0 100000 = b1 at *
  generalize inR b.f1 0 900 = b2 at *
  generalize inR b.f2 1 10000 = b3 at *
  generalize nameOk b.f3 = b4 at *
  generalize qcForm b.f4.f0 b.f4.f1 b.f4.f2 (wrap64 (b.f2 - 1)) (wrap64 (b.f0 - 1)) = b5 at *
  generalize tcForm b.f5.f0 b.f5.f1 b.f5.f2 (wrap64 (b.f2 - 1)) = b6 at *
  generalize allUpto b.f6.length (fun i => txOk (rd_T106 b.f6 (i : Int))) = b7 at *
  generalize b.f7 = vE at *
  generalize b.f8 = s8 at *
  cases b1
  · skip
    go_enter Try.func54, Try.ntmps54
    go_wp2_with fail
    refine BW.callD (e := On.hereOf N0) (E1.out _) (fun e1 => ?_)
    go_wp2
    go_ret
    exact ⟨by first | (rw [hat]; rfl) | rfl, e1.boxed.ok⟩
  · skip
    cases b2
    · skip
      go_enter Try.func54, Try.ntmps54
      go_wp2_with fail
      refine BW.callD (e := On.hereOf N0) (E1.out _) (fun e1 => ?_)
      go_wp2_with fail
      refine BW.callD (E2.out _) (fun e2 => ?_)
      go_wp2
      go_ret
      exact ⟨by first | (rw [hat]; rfl) | rfl, e2.boxed.ok⟩
    · skip
      cases b3
      · skip
        go_enter Try.func54, Try.ntmps54
        go_wp2_with fail
        refine BW.callD (e := On.hereOf N0) (E1.out _) (fun e1 => ?_)
        go_wp2_with fail
        refine BW.callD (E2.out _) (fun e2 => ?_)
        go_wp2_with fail
        refine BW.callD (E3.out _) (fun e3 => ?_)
        go_wp2
        go_ret
        exact ⟨by first | (rw [hat]; rfl) | rfl, e3.boxed.ok⟩
      · skip
        cases b4
        · skip
          go_enter Try.func54, Try.ntmps54
          go_wp2_with fail
          refine BW.callD (e := On.hereOf N0) (E1.out _) (fun e1 => ?_)
          go_wp2_with fail
          refine BW.callD (E2.out _) (fun e2 => ?_)
          go_wp2_with fail
          refine BW.callD (E3.out _) (fun e3 => ?_)
          go_wp2_with fail
          refine BW.callD (E4.out _) (fun e4 => ?_)
          go_wp2
          go_ret
          exact ⟨by first | (rw [hat]; rfl) | rfl, e4.boxed.ok⟩
        · skip
          cases b5
          · skip
            go_enter Try.func54, Try.ntmps54
            go_wp2_with fail
            refine BW.callD (e := On.hereOf N0) (E1.out _) (fun e1 => ?_)
            go_wp2_with fail
            refine BW.callD (E2.out _) (fun e2 => ?_)
            go_wp2_with fail
            refine BW.callD (E3.out _) (fun e3 => ?_)
            go_wp2_with fail
            refine BW.callD (E4.out _) (fun e4 => ?_)
            go_wp2_with fail
            refine BW.call (E5.out _) (fun e5 => ?_)
            go_wp2
            go_ret
            exact ⟨by first | (rw [hat]; rfl) | rfl, e5.boxed.ok⟩
          · skip
            cases b6
            · skip
              go_enter Try.func54, Try.ntmps54
              go_wp2_with fail
              refine BW.callD (e := On.hereOf N0) (E1.out _) (fun e1 => ?_)
              go_wp2_with fail
              refine BW.callD (E2.out _) (fun e2 => ?_)
              go_wp2_with fail
              refine BW.callD (E3.out _) (fun e3 => ?_)
              go_wp2_with fail
              refine BW.callD (E4.out _) (fun e4 => ?_)
              go_wp2_with fail
              refine BW.call (E5.out _) (fun e5 => ?_)
              go_wp2_with fail
              refine BW.call (E6.out _) (fun e6 => ?_)
              go_wp2
              go_ret
              exact ⟨by first | (rw [hat]; rfl) | rfl, e6.boxed.ok⟩
            · skip
              by_cases c7 : (b.f6.length : Int) > 4
              · skip
                have c7' : decide ((b.f6.length : Int) > 4) = true := decide_eq_true c7
                rw [c7'] at hat
                go_enter Try.func54, Try.ntmps54
                go_wp2_with fail
                refine BW.callD (e := On.hereOf N0) (E1.out _) (fun e1 => ?_)
                go_wp2_with fail
                refine BW.callD (E2.out _) (fun e2 => ?_)
                go_wp2_with fail
                refine BW.callD (E3.out _) (fun e3 => ?_)
                go_wp2_with fail
                refine BW.callD (E4.out _) (fun e4 => ?_)
                go_wp2_with fail
                refine BW.call (E5.out _) (fun e5 => ?_)
                go_wp2_with fail
                refine BW.call (E6.out _) (fun e6 => ?_)
                go_wp2
                go_ret
                exact ⟨by first | (rw [hat]; rfl) | rfl, e6.boxed.ok⟩
              · skip
                have c7' : decide ((b.f6.length : Int) > 4) = false := decide_eq_false c7
                rw [c7'] at hat
                cases b7
                · skip
                  go_enter Try.func54, Try.ntmps54
                  go_wp2_with fail
                  refine BW.callD (e := On.hereOf N0) (E1.out _) (fun e1 => ?_)
                  go_wp2_with fail
                  refine BW.callD (E2.out _) (fun e2 => ?_)
                  go_wp2_with fail
                  refine BW.callD (E3.out _) (fun e3 => ?_)
                  go_wp2_with fail
                  refine BW.callD (E4.out _) (fun e4 => ?_)
                  go_wp2_with fail
                  refine BW.call (E5.out _) (fun e5 => ?_)
                  go_wp2_with fail
                  refine BW.call (E6.out _) (fun e6 => ?_)
                  go_wp2_with fail
                  refine BW.call (E7.out _) (fun e7 => ?_)
                  go_wp2
                  go_ret
                  exact ⟨by first | (rw [hat]; rfl) | rfl, e7.boxed.ok⟩
                · skip
                  cases vE
                  case true =>
                    rw [if_pos rfl] at hat
                    generalize setOk s8 = b9 at *
                    cases b9
                    · skip
                      go_enter Try.func54, Try.ntmps54
                      go_wp2_with fail
                      refine BW.callD (e := On.hereOf N0) (E1.out _) (fun e1 => ?_)
                      go_wp2_with fail
                      refine BW.callD (E2.out _) (fun e2 => ?_)
                      go_wp2_with fail
                      refine BW.callD (E3.out _) (fun e3 => ?_)
                      go_wp2_with fail
                      refine BW.callD (E4.out _) (fun e4 => ?_)
                      go_wp2_with fail
                      refine BW.call (E5.out _) (fun e5 => ?_)
                      go_wp2_with fail
                      refine BW.call (E6.out _) (fun e6 => ?_)
                      go_wp2_with fail
                      refine BW.call (E7.out _) (fun e7 => ?_)
                      go_wp2_with fail
                      refine BW.call (E9.out _) (fun e9 => ?_)
                      go_wp2
                      go_ret
                      exact ⟨by first | (rw [hat]; rfl) | rfl, e9.boxed.ok⟩
                    · by_cases c9 : (b.f9.size : Int) = 32
                      · skip
                        have c9' : decide ((b.f9.size : Int) = 32) = true := decide_eq_true c9
                        have c9'' : ((b.f9.size : Int) == 32) = true := c9'
                        rw [c9''] at hat
                        clear c9
                        go_enter Try.func54, Try.ntmps54
                        go_wp2_with fail
                        refine BW.callD (e := On.hereOf N0) (E1.out _) (fun e1 => ?_)
                        go_wp2_with fail
                        refine BW.callD (E2.out _) (fun e2 => ?_)
                        go_wp2_with fail
                        refine BW.callD (E3.out _) (fun e3 => ?_)
                        go_wp2_with fail
                        refine BW.callD (E4.out _) (fun e4 => ?_)
                        go_wp2_with fail
                        refine BW.call (E5.out _) (fun e5 => ?_)
                        go_wp2_with fail
                        refine BW.call (E6.out _) (fun e6 => ?_)
                        go_wp2_with fail
                        refine BW.call (E7.out _) (fun e7 => ?_)
                        go_wp2_with fail
                        refine BW.call (E9.out _) (fun e9 => ?_)
                        go_wp2
                        go_ret
                        exact ⟨by first | (rw [hat]; rfl) | rfl, e9.boxed.ok⟩
                      · skip
                        have c9' : decide ((b.f9.size : Int) = 32) = false := decide_eq_false c9
                        have c9'' : ((b.f9.size : Int) == 32) = false := c9'
                        rw [c9''] at hat
                        clear c9
                        go_enter Try.func54, Try.ntmps54
                        go_wp2_with fail
                        refine BW.callD (e := On.hereOf N0) (E1.out _) (fun e1 => ?_)
                        go_wp2_with fail
                        refine BW.callD (E2.out _) (fun e2 => ?_)
                        go_wp2_with fail
                        refine BW.callD (E3.out _) (fun e3 => ?_)
                        go_wp2_with fail
                        refine BW.callD (E4.out _) (fun e4 => ?_)
                        go_wp2_with fail
                        refine BW.call (E5.out _) (fun e5 => ?_)
                        go_wp2_with fail
                        refine BW.call (E6.out _) (fun e6 => ?_)
                        go_wp2_with fail
                        refine BW.call (E7.out _) (fun e7 => ?_)
                        go_wp2_with fail
                        refine BW.call (E9.out _) (fun e9 => ?_)
                        go_wp2
                        go_ret
                        exact ⟨by first | (rw [hat]; rfl) | rfl, e9.boxed.ok⟩
                  case false =>
                    rw [if_neg (by decide)] at hat
                    by_cases c9 : (s8.length : Int) = 0
                    · skip
                      have c9' : decide ((s8.length : Int) = 0) = true := decide_eq_true c9
                      rw [c9'] at hat
                      obtain rfl : s8 = [] := List.length_eq_zero_iff.1 (by omega)
                      by_cases c8 : b.f9.toList = []
                      · skip
                        have c8' : (b.f9.toList == ([] : List UInt8)) = true := by rw [c8]; rfl
                        rw [c8'] at hat
                        clear c9
                        go_enter Try.func54, Try.ntmps54
                        go_wp2_with fail
                        refine BW.callD (e := On.hereOf N0) (E1.out _) (fun e1 => ?_)
                        go_wp2_with fail
                        refine BW.callD (E2.out _) (fun e2 => ?_)
                        go_wp2_with fail
                        refine BW.callD (E3.out _) (fun e3 => ?_)
                        go_wp2_with fail
                        refine BW.callD (E4.out _) (fun e4 => ?_)
                        go_wp2_with fail
                        refine BW.call (E5.out _) (fun e5 => ?_)
                        go_wp2_with fail
                        refine BW.call (E6.out _) (fun e6 => ?_)
                        go_wp2_with fail
                        refine BW.call (E7.out _) (fun e7 => ?_)
                        go_wp2
                        go_ret
                        exact ⟨by first | (rw [hat]; rfl) | rfl, e7.boxed.ok⟩
                      · skip
                        have c8' : (b.f9.toList == ([] : List UInt8)) = false := by simp [c8]
                        rw [c8'] at hat
                        clear c9
                        go_enter Try.func54, Try.ntmps54
                        go_wp2_with fail
                        refine BW.callD (e := On.hereOf N0) (E1.out _) (fun e1 => ?_)
                        go_wp2_with fail
                        refine BW.callD (E2.out _) (fun e2 => ?_)
                        go_wp2_with fail
                        refine BW.callD (E3.out _) (fun e3 => ?_)
                        go_wp2_with fail
                        refine BW.callD (E4.out _) (fun e4 => ?_)
                        go_wp2_with fail
                        refine BW.call (E5.out _) (fun e5 => ?_)
                        go_wp2_with fail
                        refine BW.call (E6.out _) (fun e6 => ?_)
                        go_wp2_with fail
                        refine BW.call (E7.out _) (fun e7 => ?_)
                        go_wp2
                        go_ret
                        exact ⟨by first | (rw [hat]; rfl) | rfl, e7.boxed.ok⟩
                    · skip
                      have c9' : decide ((s8.length : Int) = 0) = false := decide_eq_false c9
                      rw [c9'] at hat
                      have c9e : ¬ s8 = [] := fun h => c9 (by rw [h]; rfl)
                      clear c9
                      go_enter Try.func54, Try.ntmps54
                      go_wp2_with fail
                      refine BW.callD (e := On.hereOf N0) (E1.out _) (fun e1 => ?_)
                      go_wp2_with fail
                      refine BW.callD (E2.out _) (fun e2 => ?_)
                      go_wp2_with fail
                      refine BW.callD (E3.out _) (fun e3 => ?_)
                      go_wp2_with fail
                      refine BW.callD (E4.out _) (fun e4 => ?_)
                      go_wp2_with fail
                      refine BW.call (E5.out _) (fun e5 => ?_)
                      go_wp2_with fail
                      refine BW.call (E6.out _) (fun e6 => ?_)
                      go_wp2_with fail
                      refine BW.call (E7.out _) (fun e7 => ?_)
                      go_wp2
                      go_ret
                      exact ⟨by first | (rw [hat]; rfl) | rfl, e7.boxed.ok⟩

/-- What it comes to, told as the printer tells it (the function is walked by hand above). -/
def impl_BlockOk.f (_k : Nat) (a0_0 : Int) (a0_1 : Int) (a0_2 : Int) (a0_3 : ByteArray) (a0_4 : Int) (a0_5 : Int) (l0_6 : List ByteArray) (a0_7 : Int) (l0_8 : List ByteArray) (l0_9 : List Int) (l0_10 : List (S106)) (a0_11 : Bool) (l0_12 : List (S93)) (a0_13 : ByteArray) : Option Bool := if blockFit (⟨a0_0, a0_1, a0_2, a0_3, ⟨a0_4, a0_5, l0_6⟩, ⟨a0_7, l0_8, l0_9⟩, l0_10, a0_11, l0_12, a0_13⟩ : S68) then some (blockOk (⟨a0_0, a0_1, a0_2, a0_3, ⟨a0_4, a0_5, l0_6⟩, ⟨a0_7, l0_8, l0_9⟩, l0_10, a0_11, l0_12, a0_13⟩ : S68)) else none
theorem impl_BlockOk.mono : ∀ a0 a1 a2 a3 a4 a5 a6 a7 a8 a9 a10 a11 a12 a13 k, LeO (impl_BlockOk.f k a0 a1 a2 a3 a4 a5 a6 a7 a8 a9 a10 a11 a12 a13) (impl_BlockOk.f (k + 1) a0 a1 a2 a3 a4 a5 a6 a7 a8 a9 a10 a11 a12 a13) := fun _ _ _ _ _ _ _ _ _ _ _ _ _ _ _ => LeO.refl _
theorem impl_BlockOk.calls (k : Nat) (a0_0 : Int) (a0_1 : Int) (a0_2 : Int) (a0_3 : ByteArray) (a0_4 : Int) (a0_5 : Int) (A0_6 : Option Addr) (c0_6 : Nat) (l0_6 : List ByteArray) (a0_7 : Int) (A0_8 : Option Addr) (c0_8 : Nat) (l0_8 : List ByteArray) (A0_9 : Option Addr) (c0_9 : Nat) (l0_9 : List Int) (A0_10 : Option Addr) (c0_10 : Nat) (l0_10 : List (S106)) (a0_11 : Bool) (A0_12 : Option Addr) (c0_12 : Nat) (l0_12 : List (S93)) (a0_13 : ByteArray) (r : Bool) (w : World) (hr0_6 : Kd.C Kd.string w A0_6 l0_6.length l0_6) (hc0_6 : l0_6.length ≤ c0_6) (hr0_8 : Kd.C Kd.string w A0_8 l0_8.length l0_8) (hc0_8 : l0_8.length ≤ c0_8) (hr0_9 : Kd.C (Kd.int .i64) w A0_9 l0_9.length l0_9) (hc0_9 : l0_9.length ≤ c0_9) (hr0_10 : Kd.C k106 w A0_10 l0_10.length l0_10) (hc0_10 : l0_10.length ≤ c0_10) (hr0_12 : Kd.C k93 w A0_12 l0_12.length l0_12) (hc0_12 : l0_12.length ≤ c0_12) (h : impl_BlockOk.f k a0_0 a0_1 a0_2 a0_3 a0_4 a0_5 l0_6 a0_7 l0_8 l0_9 l0_10 a0_11 l0_12 a0_13 = some r) :
    Calls Try.prog 54 #[.agg #[.int .i64 a0_0, .int .i64 a0_1, .int .i64 a0_2, .string a0_3, .int .i64 a0_4, .int .i64 a0_5, .slice A0_6 l0_6.length c0_6, .int .i64 a0_7, .slice A0_8 l0_8.length c0_8, .slice A0_9 l0_9.length c0_9, .slice A0_10 l0_10.length c0_10, .bool a0_11, .slice A0_12 l0_12.length c0_12, .string a0_13]] w fun e w' => e = .returned (.bool r) ∧ Below w.heap.size w w' := by
  unfold impl_BlockOk.f at h
  split at h
  · next hf =>
    cases h
    exact impl_BlockOk.does hf (k68_mk w (⟨a0_0, a0_1, a0_2, a0_3, ⟨a0_4, a0_5, l0_6⟩, ⟨a0_7, l0_8, l0_9⟩, l0_10, a0_11, l0_12, a0_13⟩ : S68) hc0_6 hr0_6 hc0_8 hr0_8 hc0_9 hr0_9 hc0_10 hr0_10 hc0_12 hr0_12)
  · cases h
theorem impl_BlockOk.is {b : S68} (hf : blockFit b) : Ev (fun k => impl_BlockOk.f k b.f0 b.f1 b.f2 b.f3 b.f4.f0 b.f4.f1 b.f4.f2 b.f5.f0 b.f5.f1 b.f5.f2 b.f6 b.f7 b.f8 b.f9) (blockOk b) := by
  unfold impl_BlockOk.f
  rw [if_pos (show blockFit b from hf)]
  exact Ev.now _

end Go.Proofs.Ytieecjilnaijkaa.F
