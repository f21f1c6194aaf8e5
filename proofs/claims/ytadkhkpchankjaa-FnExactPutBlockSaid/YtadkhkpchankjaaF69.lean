/-
Functions of the program, what they come to, and that Go comes to just that: spec_l9Qc, spec_l9Tc, spec_TxOk, spec_SetOk, spec_BlockOk, spec_PutNum, spec_PutText, spec_PutNames, spec_l9PutTc, spec_l9PutQc, spec_l5Put, impl_TxOk, impl_txsOk.
Conditions: those that each theorem names.
-/
import Derived.Test.YtadkhkpchankjaaFAbs
import Derived.Test.YtadkhkpchankjaaF14
import Derived.Test.YtadkhkpchankjaaF23
import Derived.Test.YtadkhkpchankjaaF24
import Derived.Test.YtadkhkpchankjaaF31
import Derived.Test.YtadkhkpchankjaaWMore
import Derived.Test.YtadkhkpchankjaaFam
set_option linter.unusedVariables false
set_option linter.unusedSimpArgs false
namespace Go.Proofs.Ytadkhkpchankjaa.F
open Go.RowKit Go.Proofs.YtadkhkpchankjaaW.PrintWords Go.Proofs.YtadkhkpchankjaaW.PrintLast Go.Proofs.Ytadkhkpchankjaa.Base Go.Proofs.Ytadkhkpchankjaa.BW
open Go.Proofs.Ytadkhkpchankjaa
open Go.Proofs.Ytadkhkpchankjaa.FamW
open Go.Proofs.YtadkhkpchankjaaW.PrintMore
attribute [local go_sem] max2_int min2_int max_two min_two max_three min_three max_four min_four   -- for this text's walks alone

/-! ### spec_l9Qc: walked in this session -/
set_option maxHeartbeats 1000000 in
set_option maxRecDepth 100000 in
theorem spec_l9Qc.does {b : S113} (hn : b.f4.f2.length ≤ maxLen) (hw : ∀ s ∈ b.f4.f2, s.size ≤ maxLen) {cs : List Value} {w : World} (hK : k113.K w b cs) : Calls Try.prog 194 #[.agg cs.toArray] w fun e w' => e = .returned (.bool (qcForm b.f4.f0 b.f4.f1 b.f4.f2 (wrap64 (b.f2 - 1)) (wrap64 (b.f0 - 1)))) ∧ Below w.heap.size w w' := by
  obtain ⟨A6, u6, A8, u8, A9, u9, A10, u10, A12, u12, rfl, l6, g6, l8, g8, l9, g9, l10, g10, l12, g12⟩ := k113_open hK
  have E0 := Aside0.mk (fun (W : World) (hb : Below w.heap.size w W) => spec_l8Root.calls (w := W) (hr0_2 := Kd.C_below g6 hb) (hc0_2 := l6) (h := spec_l8Root.is b.f4.f0 b.f4.f1 b.f4.f2))
  have E1 := Aside0.mk (fun W => spec_l1In.does b.f4.f0 1 (wrap64 (b.f2 - 1)) W)
  have E2 := Aside0.mk (fun W => spec_l1In.does b.f4.f1 0 (wrap64 (b.f0 - 1)) W)
  have E3 := Aside0.mk (fun (W : World) (hb : Below w.heap.size w W) => spec_NamesOk.does (w := W) hn hw (Kd.C_below g6 hb) l6)
  have HF : Aside0 (qcForm b.f4.f0 b.f4.f1 b.f4.f2 (wrap64 (b.f2 - 1)) (wrap64 (b.f0 - 1)) = (rootQ b.f4.f0 b.f4.f1 b.f4.f2 || (inR b.f4.f0 1 (wrap64 (b.f2 - 1)) && (inR b.f4.f1 0 (wrap64 (b.f0 - 1)) && namesOk b.f4.f2)))) := ⟨rfl⟩
  clear hK hn hw l6 g6 l8 g8 l9 g9 l10 g10 l12 g12
  generalize qcForm b.f4.f0 b.f4.f1 b.f4.f2 (wrap64 (b.f2 - 1)) (wrap64 (b.f0 - 1)) = q at *
  generalize rootQ b.f4.f0 b.f4.f1 b.f4.f2 = q0 at *
  generalize inR b.f4.f0 1 (wrap64 (b.f2 - 1)) = q1 at *
  generalize inR b.f4.f1 0 (wrap64 (b.f0 - 1)) = q2 at *
  generalize namesOk b.f4.f2 = q3 at *
  go_enter Try.func194, Try.ntmps194
  go_wp2_with fail
  refine (E0.out _ (FamW.atop (FamW.atop (Below.refl _ _)))).mono ?_
  rintro _ W1 ⟨rfl, hb⟩
  have BX := Aside0.mk (FamW.boxA hb)
  have BY := Aside0.mk (FamW.boxB hb)
  have HB := Aside0.mk (FamW.off1 (FamW.off1 hb))
  obtain ⟨b0, b1, b2, b3, b4, b5, b6, b7, b8, b9, b10, b11, b12, b13⟩ := cells14 BX.out
  obtain ⟨y0, y1, y2⟩ := cells3 BY.out
  clear hb E0
  cases q0
  rotate_left
  · go_wp2
    go_ret
    exact ⟨by rw [HF.out]; rfl, HB.out⟩
  go_wp2_with fail
  refine (E1.out _).mono ?_
  rintro _ W2 ⟨rfl, hb⟩
  replace BX := Aside0.mk (blk_below BX.out hb.below)
  replace BY := Aside0.mk (blk_below BY.out hb.below)
  replace HB := Aside0.mk (FamW.then_ HB.out hb.below)
  clear b0 b1 b2 b3 b4 b5 b6 b7 b8 b9 b10 b11 b12 b13 y0 y1 y2 hb E1
  obtain ⟨b0, b1, b2, b3, b4, b5, b6, b7, b8, b9, b10, b11, b12, b13⟩ := cells14 BX.out
  obtain ⟨y0, y1, y2⟩ := cells3 BY.out
  cases q1
  · go_wp2
    go_ret
    exact ⟨by rw [HF.out]; rfl, HB.out⟩
  go_wp2_with fail
  refine (E2.out _).mono ?_
  rintro _ W3 ⟨rfl, hb⟩
  replace BY := Aside0.mk (blk_below BY.out hb.below)
  replace HB := Aside0.mk (FamW.then_ HB.out hb.below)
  clear b0 b1 b2 b3 b4 b5 b6 b7 b8 b9 b10 b11 b12 b13 y0 y1 y2 hb E2 BX
  obtain ⟨y0, y1, y2⟩ := cells3 BY.out
  cases q2
  · go_wp2
    go_ret
    exact ⟨by rw [HF.out]; rfl, HB.out⟩
  go_wp2_with fail
  refine (E3.out _ HB.out).mono ?_
  rintro _ W4 ⟨rfl, hb⟩
  replace HB := Aside0.mk (FamW.then_ HB.out hb.below)
  clear y0 y1 y2 hb E3 BY
  go_wp2
  go_ret
  exact ⟨by rw [HF.out]; rfl, HB.out⟩

/-! ### spec_l9Tc: walked in this session -/
set_option maxHeartbeats 2000000 in
set_option maxRecDepth 100000 in
theorem spec_l9Tc.does {b : S113} (hn : b.f5.f1.length ≤ maxLen) (hw : ∀ s ∈ b.f5.f1, s.size ≤ maxLen) (hh : b.f5.f2.length ≤ maxLen) {cs : List Value} {w : World} (hK : k113.K w b cs) : Calls Try.prog 195 #[.agg cs.toArray] w fun e w' => e = .returned (.bool (tcForm b.f5.f0 b.f5.f1 b.f5.f2 (wrap64 (b.f2 - 1)))) ∧ Below w.heap.size w w' := by
  have hn' : (b.f5.f1.length : Int) ≤ 9223372036854775807 := by have : maxLen = 9223372036854775807 := rfl; omega
  have hh' : (b.f5.f2.length : Int) ≤ 9223372036854775807 := by have : maxLen = 9223372036854775807 := rfl; omega
  obtain ⟨A6, u6, A8, u8, A9, u9, A10, u10, A12, u12, rfl, l6, g6, l8, g8, l9, g9, l10, g10, l12, g12⟩ := k113_open hK
  have E0 := Aside0.mk (fun (W : World) (hb : Below w.heap.size w W) => spec_l8None.calls (w := W) (hr0_1 := Kd.C_below g8 hb) (hc0_1 := l8) (hr0_2 := Kd.C_below g9 hb) (hc0_2 := l9) (h := spec_l8None.is b.f5.f0 b.f5.f1 b.f5.f2))
  have E1 := Aside0.mk (fun W => spec_l1In.does b.f5.f0 1 (wrap64 (b.f2 - 1)) W)
  have E2 := Aside0.mk (fun (W : World) (hb : Below w.heap.size w W) => spec_NamesOk.does (w := W) hn hw (Kd.C_below g8 hb) l8)
  have HF : Aside0 (tcForm b.f5.f0 b.f5.f1 b.f5.f2 (wrap64 (b.f2 - 1)) = (noneT b.f5.f0 b.f5.f1 b.f5.f2 || (highsOk b.f5.f0 b.f5.f2 && (inR b.f5.f0 1 (wrap64 (b.f2 - 1)) && (namesOk b.f5.f1 && ((b.f5.f2.length : Int) == (b.f5.f1.length : Int))))))) := ⟨rfl⟩
  have HG := Aside0.mk g9
  clear hK hn hw hh l6 g6 l8 g8 l9 g9 l10 g10 l12 g12
  generalize tcForm b.f5.f0 b.f5.f1 b.f5.f2 (wrap64 (b.f2 - 1)) = q at *
  generalize noneT b.f5.f0 b.f5.f1 b.f5.f2 = q0 at *
  generalize inR b.f5.f0 1 (wrap64 (b.f2 - 1)) = q1 at *
  generalize namesOk b.f5.f1 = q2 at *
  go_enter Try.func195, Try.ntmps195
  go_wp2_with fail
  refine (E0.out _ (FamW.atop (FamW.atop (Below.refl _ _)))).mono ?_
  rintro _ W1 ⟨rfl, hb⟩
  have BX := Aside0.mk (FamW.boxA hb)
  have BY := Aside0.mk (FamW.boxB hb)
  have HB := Aside0.mk (FamW.off1 (FamW.off1 hb))
  obtain ⟨b0, b1, b2, b3, b4, b5, b6, b7, b8, b9, b10, b11, b12, b13⟩ := cells14 BX.out
  obtain ⟨y0, y1, y2⟩ := cells3 BY.out
  clear hb E0
  cases q0
  rotate_left
  · go_wp2
    go_ret
    exact ⟨by rw [HF.out]; rfl, HB.out⟩
  go_wp2_with fail
  refine (E1.out _).mono ?_
  rintro _ W2 ⟨rfl, hb⟩
  replace BY := Aside0.mk (blk_below BY.out hb.below)
  replace HB := Aside0.mk (FamW.then_ HB.out hb.below)
  clear b0 b1 b2 b3 b4 b5 b6 b7 b8 b9 b10 b11 b12 b13 y0 y1 y2 hb E1 BX
  obtain ⟨y0, y1, y2⟩ := cells3 BY.out
  cases q1
  · go_wp2
    go_ret
    exact ⟨by rw [HF.out]; simp, HB.out⟩
  go_wp2_with fail
  refine (E2.out _ HB.out).mono ?_
  rintro _ W3 ⟨rfl, hb⟩
  replace BY := Aside0.mk (blk_below BY.out hb.below)
  replace HB := Aside0.mk (FamW.then_ HB.out hb.below)
  clear y0 y1 y2 hb E2
  obtain ⟨y0, y1, y2⟩ := cells3 BY.out
  cases q2
  · go_wp2
    go_ret
    exact ⟨by rw [HF.out]; simp, HB.out⟩
  by_cases he : (b.f5.f2.length : Int) = (b.f5.f1.length : Int)
  rotate_left
  · have he' : ((b.f5.f2.length : Int) != (b.f5.f1.length : Int)) = true := bne_iff_ne.2 he
    have HE : Aside0 (q = false) := ⟨by rw [HF.out, beq_eq_false_iff_ne.2 he]; simp⟩
    clear he
    go_wp2
    go_ret
    exact ⟨by rw [HE.out]; rfl, HB.out⟩
  have he' : ((b.f5.f2.length : Int) != (b.f5.f1.length : Int)) = false := bne_eq_false_iff_eq.2 he
  have HE : Aside0 (q = highsOk b.f5.f0 b.f5.f2) := ⟨by rw [HF.out, beq_iff_eq.2 he]; simp⟩
  clear he HF
  generalize b.f5.f2 = hs at *
  generalize b.f5.f0 = r at *
  have R0 := On.cell y0
  have R2 := On.cell y2
  have HR := Aside0.mk (Kd.C_below HG.out HB.out)
  clear HG
  go_wp2
  clear y0 y1 y2 he'
  go_loopg [4] hs.length (fun g v4 w' => ∃ (i : Int) (e : On W3), v4 = .int .i64 i ∧ w' = e.now ∧ 0 ≤ i ∧ i ≤ hs.length ∧ Aside0 ((hs.length : Int) - i ≤ g) ∧ Aside0 (∀ j, j < i.toNat → inR (hs.getD j 0) 0 (wrap64 (r - 1)) = true))
  case atStart => exact ⟨0, On.here W3, rfl, rfl, Int.le_refl _, by omega, ⟨by omega⟩, ⟨fun j hj => absurd hj (by simp)⟩⟩
  case round =>
    obtain ⟨i, e, rfl, rfl, hi0, hi1, HG, HA⟩ := hrel
    by_cases c1 : i < (hs.length : Int)
    rotate_left
    · have H1 := Aside0.mk (allUpto_yes (n := hs.length) (p := fun i => inR (hs.getD i 0) 0 (wrap64 (r - 1))) (fun j hj => HA.out j (by omega)))
      go_wp2
      go_ret
      exact ⟨by rw [HE.out, highsOk, H1.out]; rfl, FamW.then_ HB.out e.ok⟩
    obtain ⟨ad, e1, h0⟩ := Kd.at_int HR.out i hi0 c1
    cases e1
    have Q0 := On.cell h0
    obtain ⟨y, hy⟩ : ∃ y, rd hs i = y := ⟨_, rfl⟩
    have hz : hs.getD i.toNat 0 = y := hy
    simp only [hy] at Q0
    clear h0 hy
    have E1 := Aside0.mk (fun W => spec_l1In.does y 0 (wrap64 (r - 1)) W)
    cases hv : inR y 0 (wrap64 (r - 1))
    · have H1 := Aside0.mk (allUpto_no (n := hs.length) (p := fun i => inR (hs.getD i 0) 0 (wrap64 (r - 1))) (i := i.toNat) (by omega) (by rw [hz]; exact hv))
      rw [hv] at E1
      clear hz hv
      go_wp2
      refine BW.region (by kernel_rfl) (by kernel_rfl) ?_
      repeat (go_big_quiet_step (first | exact BW.quietD (E1.out _)))
      refine wpQuiet_nil ?_
      rintro _ ⟨e2, rfl⟩
      go_wp2
      go_ret
      exact ⟨by rw [HE.out, highsOk, H1.out]; rfl, FamW.then_ HB.out e2.ok⟩
    · have HT : Aside0 (inR (hs.getD i.toNat 0) 0 (wrap64 (r - 1)) = true) := ⟨by rw [hz]; exact hv⟩
      rw [hv] at E1
      clear hz hv
      go_wp2
      refine BW.region (by kernel_rfl) (by kernel_rfl) ?_
      repeat (go_big_quiet_step (first | exact BW.quietD (E1.out _)))
      refine wpQuiet_nil ?_
      rintro _ ⟨e2, rfl⟩
      go_wp2
      go_roundg (hs.length - i.toNat - 1)
      case measure => have := HG.out; omega
      case rel => exact ⟨i + 1, e2, rfl, rfl, by omega, by omega, ⟨by omega⟩, ⟨upto_next hi0 HA.out HT.out⟩⟩

/-! ### spec_TxOk: function 196 -/
def spec_TxOk.j0 : Nat → Bool → Int → ByteArray → ByteArray → Int → Int → Option (Bool)
  | 0, _, _, _, _, _, _ => none
  | k + 1, x18, x1418000, x1418001, x1418002, x1418003, x1418004 => if x18 = true then (some false) else (if x1418000 = 1 then ((spec_NameOk.f k x1418002).bind fun t1421 => (some t1421)) else ((spec_l1In.f x1418000 2 3).bind fun t1422 => (if t1422 = true then (some (x1418002.toList == ([] : List UInt8))) else (some false))))
def spec_TxOk.f (k : Nat) (a0_0 : Int) (a0_1 : ByteArray) (a0_2 : ByteArray) (a0_3 : Int) (a0_4 : Int) : Option (Bool) := (spec_NameOk.f k a0_1).bind fun t1418 => (if t1418 = true then ((spec_l1In.f a0_3 1 1000000).bind fun t1419 => (if t1419 = true then ((spec_l1In.f a0_4 0 10000).bind fun t1420 => (spec_TxOk.j0 k (!t1420) a0_0 a0_1 a0_2 a0_3 a0_4)) else (spec_TxOk.j0 k true a0_0 a0_1 a0_2 a0_3 a0_4))) else (spec_TxOk.j0 k true a0_0 a0_1 a0_2 a0_3 a0_4))
theorem spec_TxOk.mono_l : ∀ k, (∀ y0 y1 y2 y3 y4 y5, LeO (spec_TxOk.j0 k y0 y1 y2 y3 y4 y5) (spec_TxOk.j0 (k + 1) y0 y1 y2 y3 y4 y5))
  | 0 => fun _ _ _ _ _ _ r h => by simp [spec_TxOk.j0] at h
  | k + 1 => by
    have ih0 := spec_TxOk.mono_l k
    · intro y0 y1 y2 y3 y4 y5
      unfold spec_TxOk.j0
      repeat' first
      | (with_reducible exact ih0 _ _ _ _ _ _)
      | (with_reducible exact spec_NameOk.mono _ _)
      | (with_reducible exact LeO.refl _)
      | (with_reducible exact LeO.none _)
      | (with_reducible refine LeO.ite ?_ ?_)
      | (with_reducible refine LeO.bind ?_ (fun _ => ?_))
      | exact ih0 _ _ _ _ _ _
      | exact spec_NameOk.mono _ _
      | exact LeO.none _
      | refine LeO.ite ?_ ?_
      | refine LeO.bind ?_ (fun _ => ?_)
theorem spec_TxOk.mono : ∀ a0 a1 a2 a3 a4 k, LeO (spec_TxOk.f k a0 a1 a2 a3 a4) (spec_TxOk.f (k + 1) a0 a1 a2 a3 a4) := by
  intro a0 a1 a2 a3 a4 k
  have ih0 := spec_TxOk.mono_l k
  unfold spec_TxOk.f
  repeat' first
      | (with_reducible exact ih0 _ _ _ _ _ _)
      | (with_reducible exact spec_NameOk.mono _ _)
      | (with_reducible exact LeO.refl _)
      | (with_reducible exact LeO.none _)
      | (with_reducible refine LeO.ite ?_ ?_)
      | (with_reducible refine LeO.bind ?_ (fun _ => ?_))
      | exact ih0 _ _ _ _ _ _
      | exact spec_NameOk.mono _ _
      | exact LeO.none _
      | refine LeO.ite ?_ ?_
      | refine LeO.bind ?_ (fun _ => ?_)
set_option maxHeartbeats 8000000 in
set_option maxRecDepth 100000 in
theorem spec_TxOk.calls (k : Nat) (a0_0 : Int) (a0_1 : ByteArray) (a0_2 : ByteArray) (a0_3 : Int) (a0_4 : Int) (r : Bool) (w : World) (h : spec_TxOk.f k a0_0 a0_1 a0_2 a0_3 a0_4 = some r) :
    Calls Try.prog 196 #[.agg #[.int .i64 a0_0, .string a0_1, .string a0_2, .int .i64 a0_3, .int .i64 a0_4]] w fun e w' => e = .returned (.bool r) ∧ Below w.heap.size w w' := by
  have hu186 := Try.underlying186
  have HB := Aside0.mk (Below.refl w.heap.size w)
  have H : ((spec_NameOk.f k a0_1).bind fun t1418 => (if t1418 = true then ((spec_l1In.f a0_3 1 1000000).bind fun t1419 => (if t1419 = true then ((spec_l1In.f a0_4 0 10000).bind fun t1420 => (spec_TxOk.j0 k (!t1420) a0_0 a0_1 a0_2 a0_3 a0_4)) else (spec_TxOk.j0 k true a0_0 a0_1 a0_2 a0_3 a0_4))) else (spec_TxOk.j0 k true a0_0 a0_1 a0_2 a0_3 a0_4))) = some r := h
  clear h
  have HC2 := Aside0.mk H
  clear H
  go_enter Try.func196, Try.ntmps196
  go_upto_region 1 with (first | ((with_reducible refine gate_dst (N := 1) rfl ?_); refine box_event ?hg (N := 1) ?hd (cs := #[.int .i64 a0_0, .string a0_1, .string a0_2, .int .i64 a0_3, .int .i64 a0_4]) (t := 186) ?hr ?_; (case hd => rfl); (case hg => rfl); (case hr => first | (go_simp; done) | (go_simp; rfl)); intro gb1417 hg w3 hbox hb; have n0_ := Aside0.mk (below_step (by repeat (first | (with_reducible first | exact HB.out | apply below_alloc | apply pw_below_drewN | apply below_drew1) | exact HB.out)) hb); have n1_ := Aside0.mk (hbox); have n2_ := Aside0.mk ((by rw [hg]; exact (below_size (by repeat (first | (with_reducible first | exact HB.out | apply below_alloc | apply pw_below_drewN | apply below_drew1) | exact HB.out))) : w.heap.size ≤ gb1417)); have n3_ := n2_; clear HB; have HB := n0_; have BK1417 := n1_; have GW1417 := n2_; have GE1417 := n3_; clear n0_ n1_ n2_ n3_; clear hb hbox hg))
  (try simp only [Act.put, List.setIfInBounds_toArray, List.set_cons_zero, List.set_cons_succ])
  go_cut [18] (fun v18 wc => ∃ (kq : Nat) (x18_1 : Bool), v18 = .bool x18_1 ∧ Aside0 (spec_TxOk.j0 kq x18_1 a0_0 a0_1 a0_2 a0_3 a0_4 = some r) ∧ Aside0 (kq ≤ k) ∧ Aside0 (wc.heap[gb1417]? = some (.cells #[.int .i64 a0_0, .string a0_1, .string a0_2, .int .i64 a0_3, .int .i64 a0_4] 186 (0, 0))) ∧ Aside0 (Below w.heap.size w wc))
  case first =>
    have H := HC2.out
    clear HC2
    replace H := Option.bind_eq_some_iff.mp H
    obtain ⟨t1418, A40, H⟩ := H
    replace H : (if t1418 = true then ((spec_l1In.f a0_3 1 1000000).bind fun t1419 => (if t1419 = true then ((spec_l1In.f a0_4 0 10000).bind fun t1420 => (spec_TxOk.j0 k (!t1420) a0_0 a0_1 a0_2 a0_3 a0_4)) else (spec_TxOk.j0 k true a0_0 a0_1 a0_2 a0_3 a0_4))) else (spec_TxOk.j0 k true a0_0 a0_1 a0_2 a0_3 a0_4)) = some r := H
    have A4 := Aside0.mk A40
    clear A40
    by_cases c5 : t1418 = true
    · subst c5
      have H1 : ((spec_l1In.f a0_3 1 1000000).bind fun t1419 => (if t1419 = true then ((spec_l1In.f a0_4 0 10000).bind fun t1420 => (spec_TxOk.j0 k (!t1420) a0_0 a0_1 a0_2 a0_3 a0_4)) else (spec_TxOk.j0 k true a0_0 a0_1 a0_2 a0_3 a0_4))) = some r := by rw [if_pos rfl] at H; exact H
      clear H
      have H := H1
      clear H1
      replace H := Option.bind_eq_some_iff.mp H
      obtain ⟨t1419, A60, H⟩ := H
      replace H : (if t1419 = true then ((spec_l1In.f a0_4 0 10000).bind fun t1420 => (spec_TxOk.j0 k (!t1420) a0_0 a0_1 a0_2 a0_3 a0_4)) else (spec_TxOk.j0 k true a0_0 a0_1 a0_2 a0_3 a0_4)) = some r := H
      have A6 := Aside0.mk A60
      clear A60
      by_cases c7 : t1419 = true
      · subst c7
        have H1 : ((spec_l1In.f a0_4 0 10000).bind fun t1420 => (spec_TxOk.j0 k (!t1420) a0_0 a0_1 a0_2 a0_3 a0_4)) = some r := by rw [if_pos rfl] at H; exact H
        clear H
        have H := H1
        clear H1
        replace H := Option.bind_eq_some_iff.mp H
        obtain ⟨t1420, A80, H⟩ := H
        replace H : (spec_TxOk.j0 k (!t1420) a0_0 a0_1 a0_2 a0_3 a0_4) = some r := H
        have A8 := Aside0.mk A80
        clear A80
        have H' := Aside0.mk H
        clear H
        obtain ⟨hcz9_0, hcz9_1, hcz9_2, hcz9_3, hcz9_4⟩ := cells5 BK1417.out
        obtain ⟨hfz9_0, hfz9_1, hfz9_2, hfz9_3, hfz9_4⟩ := frozens5 BK1417.out
        go_wp2_with (first | ((with_reducible refine gate_callee (f := 138) rfl ?_); refine goesL_ (some 5) rfl rfl Try.func138 (by kernel_rfl) rfl #[.string a0_1] rfl (by (try simp only [List.map_toArray, List.map_cons, List.map_nil]); first | done | rfl | (simp only [List.length_drop, List.length_take]; rfl)) ?_; (with_reducible refine (spec_NameOk.calls k a0_1 true _ A4.out).mono ?_); rintro e w' ⟨rfl, ⟨nd, rfl⟩⟩; refine ⟨_, rfl, ?_⟩) | (go_at_call 98; (with_reducible refine (spec_l1In.calls a0_3 1 1000000 true _ A6.out).mono ?_); rintro e w' ⟨rfl, ⟨nd, rfl⟩⟩) | (go_at_call 98; (with_reducible refine (spec_l1In.calls a0_4 0 10000 t1420 _ A8.out).mono ?_); rintro e w' ⟨rfl, ⟨nd, rfl⟩⟩))
        go_meet
        case rel => exact ⟨_, (!t1420), (by first | rfl | (simp; done) | (simp [*]; done)), H', ⟨by first | omega | exact Nat.le_refl _⟩, ⟨by (with_reducible repeat (first | refine blk_drewN ?_ _ | refine blk_drew ?_ | refine blk_alloc ?_ _)); exact BK1417.out⟩, ⟨by repeat (first | (with_reducible first | exact HB.out | apply below_alloc | apply pw_below_drewN | apply below_drew1 | refine below_set ?_ GE1417.out) | exact HB.out)⟩⟩
      · replace c7 := Bool.eq_false_iff.mpr c7
        subst c7
        have H1 : (spec_TxOk.j0 k true a0_0 a0_1 a0_2 a0_3 a0_4) = some r := by rw [if_neg (show ¬ (false = true) by decide)] at H; exact H
        clear H
        have H := H1
        clear H1
        have H' := Aside0.mk H
        clear H
        obtain ⟨hcz10_0, hcz10_1, hcz10_2, hcz10_3, hcz10_4⟩ := cells5 BK1417.out
        obtain ⟨hfz10_0, hfz10_1, hfz10_2, hfz10_3, hfz10_4⟩ := frozens5 BK1417.out
        go_wp2_with (first | ((with_reducible refine gate_callee (f := 138) rfl ?_); refine goesL_ (some 5) rfl rfl Try.func138 (by kernel_rfl) rfl #[.string a0_1] rfl (by (try simp only [List.map_toArray, List.map_cons, List.map_nil]); first | done | rfl | (simp only [List.length_drop, List.length_take]; rfl)) ?_; (with_reducible refine (spec_NameOk.calls k a0_1 true _ A4.out).mono ?_); rintro e w' ⟨rfl, ⟨nd, rfl⟩⟩; refine ⟨_, rfl, ?_⟩) | (go_at_call 98; (with_reducible refine (spec_l1In.calls a0_3 1 1000000 false _ A6.out).mono ?_); rintro e w' ⟨rfl, ⟨nd, rfl⟩⟩))
        go_meet
        case rel => exact ⟨_, (true), (by first | rfl | (simp; done) | (simp [*]; done)), H', ⟨by first | omega | exact Nat.le_refl _⟩, ⟨by (with_reducible repeat (first | refine blk_drewN ?_ _ | refine blk_drew ?_ | refine blk_alloc ?_ _)); exact BK1417.out⟩, ⟨by repeat (first | (with_reducible first | exact HB.out | apply below_alloc | apply pw_below_drewN | apply below_drew1 | refine below_set ?_ GE1417.out) | exact HB.out)⟩⟩
    · replace c5 := Bool.eq_false_iff.mpr c5
      subst c5
      have H1 : (spec_TxOk.j0 k true a0_0 a0_1 a0_2 a0_3 a0_4) = some r := by rw [if_neg (show ¬ (false = true) by decide)] at H; exact H
      clear H
      have H := H1
      clear H1
      have H' := Aside0.mk H
      clear H
      obtain ⟨hcz11_0, hcz11_1, hcz11_2, hcz11_3, hcz11_4⟩ := cells5 BK1417.out
      obtain ⟨hfz11_0, hfz11_1, hfz11_2, hfz11_3, hfz11_4⟩ := frozens5 BK1417.out
      go_wp2_with (first | ((with_reducible refine gate_callee (f := 138) rfl ?_); refine goesL_ (some 5) rfl rfl Try.func138 (by kernel_rfl) rfl #[.string a0_1] rfl (by (try simp only [List.map_toArray, List.map_cons, List.map_nil]); first | done | rfl | (simp only [List.length_drop, List.length_take]; rfl)) ?_; (with_reducible refine (spec_NameOk.calls k a0_1 false _ A4.out).mono ?_); rintro e w' ⟨rfl, ⟨nd, rfl⟩⟩; refine ⟨_, rfl, ?_⟩))
      go_meet
      case rel => exact ⟨_, (true), (by first | rfl | (simp; done) | (simp [*]; done)), H', ⟨by first | omega | exact Nat.le_refl _⟩, ⟨by (with_reducible repeat (first | refine blk_drewN ?_ _ | refine blk_drew ?_ | refine blk_alloc ?_ _)); exact BK1417.out⟩, ⟨by repeat (first | (with_reducible first | exact HB.out | apply below_alloc | apply pw_below_drewN | apply below_drew1 | refine below_set ?_ GE1417.out) | exact HB.out)⟩⟩
  case rest =>
    clear HC2
    try clear c1
    try clear p2
    try clear c5
    try clear c7
    try clear hcz10_0
    try clear hcz10_1
    try clear hcz10_2
    try clear hcz10_3
    try clear hcz10_4
    try clear hcz11_0
    try clear hcz11_1
    try clear hcz11_2
    try clear hcz11_3
    try clear hcz11_4
    try clear hcz9_0
    try clear hcz9_1
    try clear hcz9_2
    try clear hcz9_3
    try clear hcz9_4
    try clear hfz10_0
    try clear hfz10_1
    try clear hfz10_2
    try clear hfz10_3
    try clear hfz10_4
    try clear hfz11_0
    try clear hfz11_1
    try clear hfz11_2
    try clear hfz11_3
    try clear hfz11_4
    try clear hfz9_0
    try clear hfz9_1
    try clear hfz9_2
    try clear hfz9_3
    try clear hfz9_4
    obtain ⟨kq, x18_1, rfl, HA, HJ1, BK1417, HB⟩ := hcut
    cases kq with
    | zero => exact absurd HA.out (by simp [spec_TxOk.j0])
    | succ kj1 =>
      have H := HA.out
      clear HA
      simp only [spec_TxOk.j0] at H
      by_cases c12 : x18_1 = true
      · subst c12
        have H1 : (some false) = some r := by rw [if_pos rfl] at H; exact H
        clear H
        have H := H1
        clear H1
        obtain rfl := Option.some.inj H
        go_wp2
        go_ret
        exact ⟨by first | rfl | (simp [errW_none, errW_some] <;> rfl) | (simp [*, errW_none, errW_some] <;> rfl), by repeat (first | (with_reducible first | exact HB.out | apply below_alloc | apply pw_below_drewN | apply below_drew1 | refine below_set ?_ GE1417.out) | exact HB.out)⟩
      · replace c12 := Bool.eq_false_iff.mpr c12
        subst c12
        have H1 : (if a0_0 = 1 then ((spec_NameOk.f kj1 a0_2).bind fun t1421 => (some t1421)) else ((spec_l1In.f a0_0 2 3).bind fun t1422 => (if t1422 = true then (some (a0_2.toList == ([] : List UInt8))) else (some false)))) = some r := by rw [if_neg (show ¬ (false = true) by decide)] at H; exact H
        clear H
        have H := H1
        clear H1
        by_cases c13 : a0_0 = 1
        · rw [if_pos c13] at H
          have c13b0 : (a0_0 == 1) = true := beq_iff_eq.mpr c13
          have c13b1 : (a0_0 != 1) = false := bne_eq_false_iff_eq.mpr c13
          clear c13
          replace H := Option.bind_eq_some_iff.mp H
          obtain ⟨t1421, A140, H⟩ := H
          replace H : (some t1421) = some r := H
          have A14 := Aside0.mk A140
          clear A140
          obtain rfl := Option.some.inj H
          obtain ⟨hcz15_0, hcz15_1, hcz15_2, hcz15_3, hcz15_4⟩ := cells5 BK1417.out
          obtain ⟨hfz15_0, hfz15_1, hfz15_2, hfz15_3, hfz15_4⟩ := frozens5 BK1417.out
          go_wp2_with (first | ((with_reducible refine gate_callee (f := 138) rfl ?_); refine goesL_ (some 24) rfl rfl Try.func138 (by kernel_rfl) rfl #[.string a0_2] rfl (by (try simp only [List.map_toArray, List.map_cons, List.map_nil]); first | done | rfl | (simp only [List.length_drop, List.length_take]; rfl)) ?_; (with_reducible refine (spec_NameOk.calls kj1 a0_2 t1421 _ A14.out).mono ?_); rintro e w' ⟨rfl, ⟨nd, rfl⟩⟩; refine ⟨_, rfl, ?_⟩))
          go_ret
          exact ⟨by first | rfl | (simp [errW_none, errW_some] <;> rfl) | (simp [*, errW_none, errW_some] <;> rfl), by repeat (first | (with_reducible first | exact HB.out | apply below_alloc | apply pw_below_drewN | apply below_drew1 | refine below_set ?_ GE1417.out) | exact HB.out)⟩
        · rw [if_neg c13] at H
          have c13b0 : (a0_0 == 1) = false := beq_eq_false_iff_ne.mpr c13
          have c13b1 : (a0_0 != 1) = true := bne_iff_ne.mpr c13
          replace H := Option.bind_eq_some_iff.mp H
          obtain ⟨t1422, A160, H⟩ := H
          replace H : (if t1422 = true then (some (a0_2.toList == ([] : List UInt8))) else (some false)) = some r := H
          have A16 := Aside0.mk A160
          clear A160
          by_cases c17 : t1422 = true
          · subst c17
            have H1 : (some (a0_2.toList == ([] : List UInt8))) = some r := by rw [if_pos rfl] at H; exact H
            clear H
            have H := H1
            clear H1
            obtain rfl := Option.some.inj H
            obtain ⟨hcz18_0, hcz18_1, hcz18_2, hcz18_3, hcz18_4⟩ := cells5 BK1417.out
            obtain ⟨hfz18_0, hfz18_1, hfz18_2, hfz18_3, hfz18_4⟩ := frozens5 BK1417.out
            go_wp2_with (first | ((with_reducible refine gate_callee (f := 98) rfl ?_); refine goesL_ (some 27) rfl rfl Try.func98 (by kernel_rfl) rfl #[.int .i64 a0_0, .int .i64 2, .int .i64 3] rfl (by (try simp only [List.map_toArray, List.map_cons, List.map_nil]); first | done | rfl | (simp only [List.length_drop, List.length_take]; rfl)) ?_; (with_reducible refine (spec_l1In.calls a0_0 2 3 true _ A16.out).mono ?_); rintro e w' ⟨rfl, ⟨nd, rfl⟩⟩; refine ⟨_, rfl, ?_⟩))
            go_ret
            exact ⟨by first | rfl | (simp [errW_none, errW_some] <;> rfl) | (simp [*, errW_none, errW_some] <;> rfl), by repeat (first | (with_reducible first | exact HB.out | apply below_alloc | apply pw_below_drewN | apply below_drew1 | refine below_set ?_ GE1417.out) | exact HB.out)⟩
          · replace c17 := Bool.eq_false_iff.mpr c17
            subst c17
            have H1 : (some false) = some r := by rw [if_neg (show ¬ (false = true) by decide)] at H; exact H
            clear H
            have H := H1
            clear H1
            obtain rfl := Option.some.inj H
            obtain ⟨hcz19_0, hcz19_1, hcz19_2, hcz19_3, hcz19_4⟩ := cells5 BK1417.out
            obtain ⟨hfz19_0, hfz19_1, hfz19_2, hfz19_3, hfz19_4⟩ := frozens5 BK1417.out
            go_wp2_with (first | ((with_reducible refine gate_callee (f := 98) rfl ?_); refine goesL_ (some 27) rfl rfl Try.func98 (by kernel_rfl) rfl #[.int .i64 a0_0, .int .i64 2, .int .i64 3] rfl (by (try simp only [List.map_toArray, List.map_cons, List.map_nil]); first | done | rfl | (simp only [List.length_drop, List.length_take]; rfl)) ?_; (with_reducible refine (spec_l1In.calls a0_0 2 3 false _ A16.out).mono ?_); rintro e w' ⟨rfl, ⟨nd, rfl⟩⟩; refine ⟨_, rfl, ?_⟩))
            go_ret
            exact ⟨by first | rfl | (simp [errW_none, errW_some] <;> rfl) | (simp [*, errW_none, errW_some] <;> rfl), by repeat (first | (with_reducible first | exact HB.out | apply below_alloc | apply pw_below_drewN | apply below_drew1 | refine below_set ?_ GE1417.out) | exact HB.out)⟩

theorem spec_TxOk.is {t : S186} (h1 : t.f1.size ≤ maxLen) (h2 : t.f2.size ≤ maxLen) : Ev (fun k => spec_TxOk.f k t.f0 t.f1 t.f2 t.f3 t.f4) (txOk t) := by
  have no : Ev (fun k => spec_TxOk.j0 k true t.f0 t.f1 t.f2 t.f3 t.f4) false := Ev.up (by simp only [spec_TxOk.j0]; exact Ev.yes (by first | trivial | rfl) (Ev.now _))
  unfold spec_TxOk.f txOk
  simp only [spec_l1In.is, Option.bind_some]
  refine Ev.bind (spec_NameOk.is h1) ?_
  cases nameOk t.f1
  · exact Ev.no (by simp) (Ev.to no (by simp))
  · refine Ev.yes rfl ?_
    cases inR t.f3 1 1000000
    · exact Ev.no (by simp) (Ev.to no (by simp))
    · refine Ev.yes rfl ?_
      cases inR t.f4 0 10000
      · exact Ev.to no (by simp)
      · refine Ev.up ?_
        simp only [spec_TxOk.j0, Bool.not_true, spec_l1In.is, Option.bind_some]
        refine Ev.no (by simp) (Ev.cond (fun hk => ?_) (fun hk => ?_))
        · refine Ev.bind (spec_NameOk.is h2) (Ev.is ?_)
          rw [if_pos hk, hk]
          simp [inR]
        · rw [if_neg hk, inR_23 hk]
          cases inR t.f0 2 3
          · exact Ev.no (by simp) (Ev.now _)
          · exact Ev.yes rfl (Ev.now _)
theorem spec_TxOk.does {t : S186} (h1 : t.f1.size ≤ maxLen) (h2 : t.f2.size ≤ maxLen) (w : World) : Calls Try.prog 196 #[.agg #[.int .i64 t.f0, .string t.f1, .string t.f2, .int .i64 t.f3, .int .i64 t.f4]] w fun e w' => e = .returned (.bool (txOk t)) ∧ Below w.heap.size w w' := by
  obtain ⟨k, h⟩ := (spec_TxOk.is h1 h2).rounds
  exact spec_TxOk.calls k _ _ _ _ _ _ w h

/-! ### spec_SetOk: walked in this session -/
set_option maxHeartbeats 1000000 in
set_option maxRecDepth 100000 in
theorem spec_SetOk.does {l : List S138} (hl : l.length ≤ maxLen) (hw : ∀ v ∈ l, v.f0.size ≤ maxLen) {B : Option Addr} {c : Nat} {w : World} (hr : Kd.C k138 w B l.length l) (hc : l.length ≤ c) :
    Calls Try.prog 197 #[.slice B l.length c] w fun e w' => e = .returned (.bool (setOk l)) ∧ Below w.heap.size w w' := by
  have hn : (l.length : Int) ≤ 9223372036854775807 := by have : maxLen = 9223372036854775807 := rfl; omega
  have HR := Aside0.mk hr
  have HW := Aside0.mk hw
  clear hr hw hl
  go_enter Try.func197, Try.ntmps197
  go_wp2
  go_loopg [3] l.length (fun g v3 w' => ∃ (i : Int) (e : On w), v3 = .int .i64 i ∧ w' = e.now ∧ 0 ≤ i ∧ i ≤ l.length ∧ Aside0 ((l.length : Int) - i ≤ g) ∧ Aside0 (∀ j, j < i.toNat → setAt l j = true))
  case atStart => exact ⟨0, On.here w, rfl, rfl, Int.le_refl _, by omega, ⟨by omega⟩, ⟨fun j hj => absurd hj (by simp)⟩⟩
  case round =>
    obtain ⟨i, e, rfl, rfl, hi0, hi1, HG, HA⟩ := hrel
    by_cases c1 : i < (l.length : Int)
    · obtain ⟨ad, e1, h0, h1⟩ := at_T138 HR.out i hi0 c1
      cases e1
      have R0 := On.cell h0
      have R1 := On.cell h1
      clear h0 h1
      have hsz := HW.out (rd_T138 l i) (getD_mem (by omega) _)
      have E1 := Aside0.mk (fun W => spec_NameOk.does (s := (rd_T138 l i).f0) hsz W)
      have E2 := Aside0.mk (fun W => spec_l1In.does (rd_T138 l i).f1 1 1000000 W)
      have hat : setAt l i.toNat = ((nameOk (rd_T138 l i).f0 && inR (rd_T138 l i).f1 1 1000000) && (decide (i.toNat = 0) || bless (l.getD (i.toNat - 1) z138).f0 (rd_T138 l i).f0)) := rfl
      clear hsz
      cases hb1 : nameOk (rd_T138 l i).f0
      · rw [hb1] at E1
        rw [hb1, Bool.false_and, Bool.false_and] at hat
        have HF := Aside0.mk (setOk_no (by omega) hat)
        clear hat hb1
        go_wp2
        refine BW.region (by kernel_rfl) (by kernel_rfl) ?_
        repeat (go_big_quiet_step (first | exact BW.quietD (E1.out _)))
        refine wpQuiet_nil ?_
        rintro _ ⟨e2, rfl⟩
        go_wp2
        go_ret
        exact ⟨by rw [HF.out]; rfl, e2.ok⟩
      · rw [hb1] at E1
        rw [hb1, Bool.true_and] at hat
        clear hb1
        cases hb2 : inR (rd_T138 l i).f1 1 1000000
        · rw [hb2] at E2
          rw [hb2, Bool.false_and] at hat
          have HF := Aside0.mk (setOk_no (by omega) hat)
          clear hat hb2
          go_wp2
          refine BW.region (by kernel_rfl) (by kernel_rfl) ?_
          repeat (go_big_quiet_step (first | exact BW.quietD (E1.out _) | exact BW.quietD (E2.out _)))
          refine wpQuiet_nil ?_
          rintro _ ⟨e2, rfl⟩
          go_wp2
          go_ret
          exact ⟨by rw [HF.out]; rfl, e2.ok⟩
        · rw [hb2] at E2
          rw [hb2, Bool.true_and] at hat
          clear hb2
          by_cases c3 : 0 < i
          · rw [decide_eq_false (by omega : ¬ i.toNat = 0), Bool.false_or] at hat
            have hp := at_T138 HR.out (i - 1) (by omega) (by omega)
            obtain ⟨y, hy⟩ : ∃ y, rd_T138 l (i - 1) = y := ⟨_, rfl⟩
            rw [hy, show (i - 1).toNat = i.toNat - 1 by omega] at hp
            rw [show l.getD (i.toNat - 1) z138 = y by rw [← hy]; unfold rd_T138; rw [show (i - 1).toNat = i.toNat - 1 by omega]] at hat
            clear hy
            obtain ⟨ad', e1', h0', h1'⟩ := hp
            cases e1'
            have R2 := On.cell h0'
            clear h0' h1'
            have c3' : decide (0 < i) = true := decide_eq_true c3
            cases hb3 : bless y.f0 (rd_T138 l i).f0
            · rw [hb3] at hat
              have HF := Aside0.mk (setOk_no (by omega) hat)
              have c4 : Op.bytesLess y.f0.toList (rd_T138 l i).f0.toList = false := hb3
              clear hat hb3
              go_wp2
              refine BW.region (by kernel_rfl) (by kernel_rfl) ?_
              repeat (go_big_quiet_step (first | exact BW.quietD (E1.out _) | exact BW.quietD (E2.out _)))
              refine wpQuiet_nil ?_
              rintro _ ⟨e2, rfl⟩
              go_wp2
              go_ret
              exact ⟨by rw [HF.out]; rfl, e2.ok⟩
            · rw [hb3] at hat
              have HT := Aside0.mk hat
              have c4 : Op.bytesLess y.f0.toList (rd_T138 l i).f0.toList = true := hb3
              clear hat hb3
              go_wp2
              refine BW.region (by kernel_rfl) (by kernel_rfl) ?_
              repeat (go_big_quiet_step (first | exact BW.quietD (E1.out _) | exact BW.quietD (E2.out _)))
              refine wpQuiet_nil ?_
              rintro _ ⟨e2, rfl⟩
              go_wp2
              go_roundg (l.length - i.toNat - 1)
              case measure => have := HG.out; omega
              case rel => exact ⟨i + 1, e2, rfl, rfl, by omega, by omega, ⟨by omega⟩, ⟨upto_next hi0 HA.out HT.out⟩⟩
          · rw [decide_eq_true (by omega : i.toNat = 0), Bool.true_or] at hat
            have HT := Aside0.mk hat
            have c3' : decide (0 < i) = false := decide_eq_false c3
            clear hat c3
            go_wp2
            refine BW.region (by kernel_rfl) (by kernel_rfl) ?_
            repeat (go_big_quiet_step (first | exact BW.quietD (E1.out _) | exact BW.quietD (E2.out _)))
            refine wpQuiet_nil ?_
            rintro _ ⟨e2, rfl⟩
            go_wp2
            go_roundg (l.length - i.toNat - 1)
            case measure => have := HG.out; omega
            case rel => exact ⟨i + 1, e2, rfl, rfl, by omega, by omega, ⟨by omega⟩, ⟨upto_next hi0 HA.out HT.out⟩⟩
    · have HF := Aside0.mk (setOk_end (l := l) (fun j hj => HA.out j (by omega)))
      go_wp2_with (go_at_call 98; refine BW.callD (spec_l1In.does _ _ _ _) (fun e2 => ?_))
      go_ret
      exact ⟨by rw [HF.out]; rfl, e2.ok⟩

/-- What it comes to, told as the printer tells it (the function is walked by hand above). -/
def spec_SetOk.f (_k : Nat) (l0 : List S138) : Option Bool := if l0.length ≤ maxLen ∧ ∀ v ∈ l0, v.f0.size ≤ maxLen then some (setOk l0) else none
theorem spec_SetOk.mono : ∀ a0 k, LeO (spec_SetOk.f k a0) (spec_SetOk.f (k + 1) a0) := fun _ _ => LeO.refl _
theorem spec_SetOk.calls (k : Nat) (A0 : Option Addr) (c0 : Nat) (l0 : List S138) (r : Bool) (w : World) (hr0 : Kd.C k138 w A0 l0.length l0) (hc0 : l0.length ≤ c0) (h : spec_SetOk.f k l0 = some r) :
    Calls Try.prog 197 #[.slice A0 l0.length c0] w fun e w' => e = .returned (.bool r) ∧ Below w.heap.size w w' := by
  unfold spec_SetOk.f at h
  split at h
  · next hf =>
    cases h
    exact spec_SetOk.does hf.1 hf.2 hr0 hc0
  · cases h
theorem spec_SetOk.is {l : List S138} (hl : l.length ≤ maxLen) (hw : ∀ v ∈ l, v.f0.size ≤ maxLen) : Ev (fun k => spec_SetOk.f k l) (setOk l) := by
  unfold spec_SetOk.f
  rw [if_pos ⟨hl, hw⟩]
  exact Ev.now _

/-! ### spec_BlockOk: walked in this session -/
set_option maxHeartbeats 2000000 in
set_option maxRecDepth 100000 in
theorem spec_BlockOk.does {b : S113} (hf : blockFit b) {cs : List Value} {w : World} (hK : k113.K w b cs) : Calls Try.prog 151 #[.agg cs.toArray] w fun e w' => e = .returned (.bool (blockOk b)) ∧ Below w.heap.size w w' := by
  obtain ⟨hby, ⟨hq, hqs⟩, ⟨ht, hts⟩, hh, ⟨hx, hxs⟩, hv, hvs⟩ := hf
  have hK' := hK
  obtain ⟨A6, u6, A8, u8, A9, u9, A10, u10, A12, u12, rfl, l6, g6, l8, g8, l9, g9, l10, g10, l12, g12⟩ := k113_open hK
  have NB := fun e : On (w.alloc (.cells #[.int .i64 b.f0, .int .i64 b.f1, .int .i64 b.f2, .string b.f3, .int .i64 b.f4.f0, .int .i64 b.f4.f1, .slice A6 b.f4.f2.length u6, .int .i64 b.f5.f0, .slice A8 b.f5.f1.length u8, .slice A9 b.f5.f2.length u9, .slice A10 b.f6.length u10, .bool b.f7, .slice A12 b.f8.length u12, .string b.f9] 113)) => cells14 (On.blk e)
  have N0 := fun e => (NB e).1
  have N1 := fun e => (NB e).2.1
  have N2 := fun e => (NB e).2.2.1
  have N3 := fun e => (NB e).2.2.2.1
  have N4 := fun e => (NB e).2.2.2.2.1
  have N5 := fun e => (NB e).2.2.2.2.2.1
  have N6 := fun e => (NB e).2.2.2.2.2.2.1
  have N7 := fun e => (NB e).2.2.2.2.2.2.2.1
  have N8 := fun e => (NB e).2.2.2.2.2.2.2.2.1
  have N9 := fun e => (NB e).2.2.2.2.2.2.2.2.2.1
  have N10 := fun e => (NB e).2.2.2.2.2.2.2.2.2.2.1
  have N11 := fun e => (NB e).2.2.2.2.2.2.2.2.2.2.2.1
  have N12 := fun e => (NB e).2.2.2.2.2.2.2.2.2.2.2.2.1
  have N13 := fun e => (NB e).2.2.2.2.2.2.2.2.2.2.2.2.2
  clear NB
  have E1 := Aside0.mk (fun W => spec_l1In.does b.f0 0 100000 W)
  have E2 := Aside0.mk (fun W => spec_l1In.does b.f1 0 900 W)
  have E3 := Aside0.mk (fun W => spec_l1In.does b.f2 1 10000 W)
  have E4 := Aside0.mk (fun W => spec_NameOk.does hby W)
  have E5 := Aside0.mk (fun e : On (w.alloc (.cells #[.int .i64 b.f0, .int .i64 b.f1, .int .i64 b.f2, .string b.f3, .int .i64 b.f4.f0, .int .i64 b.f4.f1, .slice A6 b.f4.f2.length u6, .int .i64 b.f5.f0, .slice A8 b.f5.f1.length u8, .slice A9 b.f5.f2.length u9, .slice A10 b.f6.length u10, .bool b.f7, .slice A12 b.f8.length u12, .string b.f9] 113)) => spec_l9Qc.does hq hqs (On.val hK' e.boxed))
  have E6 := Aside0.mk (fun e : On (w.alloc (.cells #[.int .i64 b.f0, .int .i64 b.f1, .int .i64 b.f2, .string b.f3, .int .i64 b.f4.f0, .int .i64 b.f4.f1, .slice A6 b.f4.f2.length u6, .int .i64 b.f5.f0, .slice A8 b.f5.f1.length u8, .slice A9 b.f5.f2.length u9, .slice A10 b.f6.length u10, .bool b.f7, .slice A12 b.f8.length u12, .string b.f9] 113)) => spec_l9Tc.does ht hts hh (On.val hK' e.boxed))
  have E9 := Aside0.mk (fun e : On (w.alloc (.cells #[.int .i64 b.f0, .int .i64 b.f1, .int .i64 b.f2, .string b.f3, .int .i64 b.f4.f0, .int .i64 b.f4.f1, .slice A6 b.f4.f2.length u6, .int .i64 b.f5.f0, .slice A8 b.f5.f1.length u8, .slice A9 b.f5.f2.length u9, .slice A10 b.f6.length u10, .bool b.f7, .slice A12 b.f8.length u12, .string b.f9] 113)) => spec_SetOk.does hv hvs (On.row g12 e.boxed) l12)
  simp only [On.boxed_now] at E5 E6 E9
  have hat : blockOk b = (inR b.f0 0 100000 && (inR b.f1 0 900 && (inR b.f2 1 10000 && (nameOk b.f3 && (qcForm b.f4.f0 b.f4.f1 b.f4.f2 (wrap64 (b.f2 - 1)) (wrap64 (b.f0 - 1)) && (tcForm b.f5.f0 b.f5.f1 b.f5.f2 (wrap64 (b.f2 - 1)) && (!decide ((b.f6.length : Int) > 4) && (allUpto b.f6.length (fun i => txOk (rd_T186 b.f6 (i : Int))) && (if b.f7 = true then (setOk b.f8 && ((b.f9.size : Int) == 32)) else (decide ((b.f8.length : Int) = 0) && (b.f9.toList == ([] : List UInt8)))))))))))) := rfl
  have hn : (b.f6.length : Int) ≤ 9223372036854775807 := by have : maxLen = 9223372036854775807 := rfl; omega
  have HR := Aside0.mk g10
  have HX := Aside0.mk hxs
  clear hby hq hqs ht hts hh hx hxs hv hvs hK hK' l6 g6 l8 g8 l9 g9 l10 g10 l12 g12
  generalize inR b.f0 0 100000 = b1 at *
  generalize inR b.f1 0 900 = b2 at *
  generalize inR b.f2 1 10000 = b3 at *
  generalize nameOk b.f3 = b4 at *
  generalize qcForm b.f4.f0 b.f4.f1 b.f4.f2 (wrap64 (b.f2 - 1)) (wrap64 (b.f0 - 1)) = b5 at *
  generalize tcForm b.f5.f0 b.f5.f1 b.f5.f2 (wrap64 (b.f2 - 1)) = b6 at *
  generalize b.f7 = vE at *
  generalize b.f8 = s8 at *
  cases b1
  · skip
    clear HR HX
    go_enter Try.func151, Try.ntmps151
    go_wp2_with fail
    refine BW.callD (e := On.hereOf N0) (E1.out _) (fun e1 => ?_)
    go_wp2
    go_ret
    exact ⟨by first | (rw [hat]; rfl) | rfl, e1.boxed.ok⟩
  · skip
    cases b2
    · skip
      clear HR HX
      go_enter Try.func151, Try.ntmps151
      go_wp2_with fail
      refine BW.callD (e := On.hereOf N0) (E1.out _) (fun e1 => ?_)
      go_wp2_with fail
      refine BW.callD (E2.out _) (fun e2 => ?_)
      go_wp2
      go_ret
      exact ⟨by first | (rw [hat]; rfl) | rfl, e2.boxed.ok⟩
    · skip
      cases b3
      · skip
        clear HR HX
        go_enter Try.func151, Try.ntmps151
        go_wp2_with fail
        refine BW.callD (e := On.hereOf N0) (E1.out _) (fun e1 => ?_)
        go_wp2_with fail
        refine BW.callD (E2.out _) (fun e2 => ?_)
        go_wp2_with fail
        refine BW.callD (E3.out _) (fun e3 => ?_)
        go_wp2
        go_ret
        exact ⟨by first | (rw [hat]; rfl) | rfl, e3.boxed.ok⟩
      · skip
        cases b4
        · skip
          clear HR HX
          go_enter Try.func151, Try.ntmps151
          go_wp2_with fail
          refine BW.callD (e := On.hereOf N0) (E1.out _) (fun e1 => ?_)
          go_wp2_with fail
          refine BW.callD (E2.out _) (fun e2 => ?_)
          go_wp2_with fail
          refine BW.callD (E3.out _) (fun e3 => ?_)
          go_wp2_with fail
          refine BW.callD (E4.out _) (fun e4 => ?_)
          go_wp2
          go_ret
          exact ⟨by first | (rw [hat]; rfl) | rfl, e4.boxed.ok⟩
        · skip
          cases b5
          · skip
            clear HR HX
            go_enter Try.func151, Try.ntmps151
            go_wp2_with fail
            refine BW.callD (e := On.hereOf N0) (E1.out _) (fun e1 => ?_)
            go_wp2_with fail
            refine BW.callD (E2.out _) (fun e2 => ?_)
            go_wp2_with fail
            refine BW.callD (E3.out _) (fun e3 => ?_)
            go_wp2_with fail
            refine BW.callD (E4.out _) (fun e4 => ?_)
            go_wp2_with fail
            refine BW.call (E5.out _) (fun e5 => ?_)
            go_wp2
            go_ret
            exact ⟨by first | (rw [hat]; rfl) | rfl, e5.boxed.ok⟩
          · skip
            cases b6
            · skip
              clear HR HX
              go_enter Try.func151, Try.ntmps151
              go_wp2_with fail
              refine BW.callD (e := On.hereOf N0) (E1.out _) (fun e1 => ?_)
              go_wp2_with fail
              refine BW.callD (E2.out _) (fun e2 => ?_)
              go_wp2_with fail
              refine BW.callD (E3.out _) (fun e3 => ?_)
              go_wp2_with fail
              refine BW.callD (E4.out _) (fun e4 => ?_)
              go_wp2_with fail
              refine BW.call (E5.out _) (fun e5 => ?_)
              go_wp2_with fail
              refine BW.call (E6.out _) (fun e6 => ?_)
              go_wp2
              go_ret
              exact ⟨by first | (rw [hat]; rfl) | rfl, e6.boxed.ok⟩
            · skip
              by_cases c7 : (b.f6.length : Int) > 4
              · skip
                have c7' : decide ((b.f6.length : Int) > 4) = true := decide_eq_true c7
                rw [c7'] at hat
                go_enter Try.func151, Try.ntmps151
                go_wp2_with fail
                refine BW.callD (e := On.hereOf N0) (E1.out _) (fun e1 => ?_)
                go_wp2_with fail
                refine BW.callD (E2.out _) (fun e2 => ?_)
                go_wp2_with fail
                refine BW.callD (E3.out _) (fun e3 => ?_)
                go_wp2_with fail
                refine BW.callD (E4.out _) (fun e4 => ?_)
                go_wp2_with fail
                refine BW.call (E5.out _) (fun e5 => ?_)
                go_wp2_with fail
                refine BW.call (E6.out _) (fun e6 => ?_)
                go_wp2
                go_ret
                exact ⟨by first | (rw [hat]; rfl) | rfl, e6.boxed.ok⟩
              · skip
                have c7' : decide ((b.f6.length : Int) > 4) = false := decide_eq_false c7
                rw [c7'] at hat
                simp only [Bool.not_false, Bool.true_and] at hat
                go_enter Try.func151, Try.ntmps151
                go_wp2_with fail
                refine BW.callD (e := On.hereOf N0) (E1.out _) (fun e1 => ?_)
                go_wp2_with fail
                refine BW.callD (E2.out _) (fun e2 => ?_)
                go_wp2_with fail
                refine BW.callD (E3.out _) (fun e3 => ?_)
                go_wp2_with fail
                refine BW.callD (E4.out _) (fun e4 => ?_)
                go_wp2_with fail
                refine BW.call (E5.out _) (fun e5 => ?_)
                go_wp2_with fail
                refine BW.call (E6.out _) (fun e6 => ?_)
                go_wp2
                go_loopg [3] b.f6.length (fun g v3 w' => ∃ (i : Int) (e : On (w.alloc (.cells #[.int .i64 b.f0, .int .i64 b.f1, .int .i64 b.f2, .string b.f3, .int .i64 b.f4.f0, .int .i64 b.f4.f1, .slice A6 b.f4.f2.length u6, .int .i64 b.f5.f0, .slice A8 b.f5.f1.length u8, .slice A9 b.f5.f2.length u9, .slice A10 b.f6.length u10, .bool vE, .slice A12 s8.length u12, .string b.f9] 113))), v3 = .int .i64 i ∧ w' = e.now ∧ 0 ≤ i ∧ i ≤ b.f6.length ∧ Aside0 ((b.f6.length : Int) - i ≤ g) ∧ Aside0 (∀ j, j < i.toNat → txOk (rd_T186 b.f6 (j : Int)) = true))
                case atStart => exact ⟨0, e6, rfl, rfl, Int.le_refl _, by omega, ⟨by omega⟩, ⟨fun j hj => absurd hj (by simp)⟩⟩
                case round =>
                  obtain ⟨i, e, rfl, rfl, hi0, hi1, HG, HA⟩ := hrel
                  by_cases c1 : i < (b.f6.length : Int)
                  · obtain ⟨ad, q1, r0, r1, r2, r3, r4⟩ := at_T186 HR.out i hi0 c1
                    subst q1
                    have R0 := On.cellBox N0 r0
                    have R1 := On.cellBox N0 r1
                    have R2 := On.cellBox N0 r2
                    have R3 := On.cellBox N0 r3
                    have R4 := On.cellBox N0 r4
                    clear r0 r1 r2 r3 r4
                    have hm := HX.out (rd_T186 b.f6 i) (getD_mem (by omega) _)
                    have F1 := Aside0.mk (fun W => spec_TxOk.does (t := rd_T186 b.f6 i) hm.1 hm.2 W)
                    clear hm
                    cases ht : txOk (rd_T186 b.f6 i)
                    · rw [ht] at F1
                      have HF := Aside0.mk (hat.trans (by rw [allUpto_no (p := fun i => txOk (rd_T186 b.f6 (i : Int))) (by omega : i.toNat < b.f6.length) (by show txOk (rd_T186 b.f6 (i.toNat : Int)) = false; rw [Int.toNat_of_nonneg hi0]; exact ht)]; rfl : _ = false))
                      clear ht hat
                      go_wp2_with fail
                      refine BW.call (F1.out _) (fun e2 => ?_)
                      go_wp2
                      go_ret
                      exact ⟨by first | (rw [HF.out]; rfl) | rfl, e2.boxed.ok⟩
                    · rw [ht] at F1
                      have HT := Aside0.mk ht
                      clear ht
                      go_wp2_with fail
                      refine BW.call (F1.out _) (fun e2 => ?_)
                      go_wp2
                      go_roundg (b.f6.length - i.toNat - 1)
                      case measure => have := HG.out; omega
                      case rel => exact ⟨i + 1, e2, rfl, rfl, by omega, by omega, ⟨by omega⟩, ⟨upto_next hi0 HA.out (by rw [Int.toNat_of_nonneg hi0]; exact HT.out)⟩⟩
                  · skip
                    rw [allUpto_yes (p := fun i => txOk (rd_T186 b.f6 (i : Int))) (fun j hj => HA.out j (by omega)), Bool.true_and] at hat
                    clear HA HG HX HR
                    cases vE
                    case true =>
                      rw [if_pos rfl] at hat
                      generalize setOk s8 = b9 at *
                      cases b9
                      · skip
                        go_wp2_with fail
                        refine BW.call (E9.out _) (fun e9 => ?_)
                        go_wp2
                        go_ret
                        exact ⟨by first | (rw [hat]; rfl) | rfl, e9.boxed.ok⟩
                      · by_cases c9 : (b.f9.size : Int) = 32
                        · skip
                          have c9' : decide ((b.f9.size : Int) = 32) = true := decide_eq_true c9
                          have c9'' : ((b.f9.size : Int) == 32) = true := c9'
                          rw [c9''] at hat
                          clear c9
                          go_wp2_with fail
                          refine BW.call (E9.out _) (fun e9 => ?_)
                          go_wp2
                          go_ret
                          exact ⟨by first | (rw [hat]; rfl) | rfl, e9.boxed.ok⟩
                        · skip
                          have c9' : decide ((b.f9.size : Int) = 32) = false := decide_eq_false c9
                          have c9'' : ((b.f9.size : Int) == 32) = false := c9'
                          rw [c9''] at hat
                          clear c9
                          go_wp2_with fail
                          refine BW.call (E9.out _) (fun e9 => ?_)
                          go_wp2
                          go_ret
                          exact ⟨by first | (rw [hat]; rfl) | rfl, e9.boxed.ok⟩
                    case false =>
                      rw [if_neg (by decide)] at hat
                      by_cases c9 : (s8.length : Int) = 0
                      · skip
                        have c9' : decide ((s8.length : Int) = 0) = true := decide_eq_true c9
                        rw [c9'] at hat
                        obtain rfl : s8 = [] := List.length_eq_zero_iff.1 (by omega)
                        by_cases c8 : b.f9.toList = []
                        · skip
                          have c8' : (b.f9.toList == ([] : List UInt8)) = true := by rw [c8]; rfl
                          rw [c8'] at hat
                          clear c9
                          go_wp2
                          go_ret
                          exact ⟨by first | (rw [hat]; rfl) | rfl, e.boxed.ok⟩
                        · skip
                          have c8' : (b.f9.toList == ([] : List UInt8)) = false := by simp [c8]
                          rw [c8'] at hat
                          clear c9
                          go_wp2
                          go_ret
                          exact ⟨by first | (rw [hat]; rfl) | rfl, e.boxed.ok⟩
                      · skip
                        have c9' : decide ((s8.length : Int) = 0) = false := decide_eq_false c9
                        rw [c9'] at hat
                        have c9e : ¬ s8 = [] := fun h => c9 (by rw [h]; rfl)
                        clear c9
                        go_wp2
                        go_ret
                        exact ⟨by first | (rw [hat]; rfl) | rfl, e.boxed.ok⟩

/-- What it comes to, told as the printer tells it (the function is walked by hand above). -/
def spec_BlockOk.f (_k : Nat) (a0_0 : Int) (a0_1 : Int) (a0_2 : Int) (a0_3 : ByteArray) (a0_4 : Int) (a0_5 : Int) (l0_6 : List ByteArray) (a0_7 : Int) (l0_8 : List ByteArray) (l0_9 : List Int) (l0_10 : List (S186)) (a0_11 : Bool) (l0_12 : List (S138)) (a0_13 : ByteArray) : Option Bool := if blockFit (⟨a0_0, a0_1, a0_2, a0_3, ⟨a0_4, a0_5, l0_6⟩, ⟨a0_7, l0_8, l0_9⟩, l0_10, a0_11, l0_12, a0_13⟩ : S113) then some (blockOk (⟨a0_0, a0_1, a0_2, a0_3, ⟨a0_4, a0_5, l0_6⟩, ⟨a0_7, l0_8, l0_9⟩, l0_10, a0_11, l0_12, a0_13⟩ : S113)) else none
theorem spec_BlockOk.mono : ∀ a0 a1 a2 a3 a4 a5 a6 a7 a8 a9 a10 a11 a12 a13 k, LeO (spec_BlockOk.f k a0 a1 a2 a3 a4 a5 a6 a7 a8 a9 a10 a11 a12 a13) (spec_BlockOk.f (k + 1) a0 a1 a2 a3 a4 a5 a6 a7 a8 a9 a10 a11 a12 a13) := fun _ _ _ _ _ _ _ _ _ _ _ _ _ _ _ => LeO.refl _
theorem spec_BlockOk.calls (k : Nat) (a0_0 : Int) (a0_1 : Int) (a0_2 : Int) (a0_3 : ByteArray) (a0_4 : Int) (a0_5 : Int) (A0_6 : Option Addr) (c0_6 : Nat) (l0_6 : List ByteArray) (a0_7 : Int) (A0_8 : Option Addr) (c0_8 : Nat) (l0_8 : List ByteArray) (A0_9 : Option Addr) (c0_9 : Nat) (l0_9 : List Int) (A0_10 : Option Addr) (c0_10 : Nat) (l0_10 : List (S186)) (a0_11 : Bool) (A0_12 : Option Addr) (c0_12 : Nat) (l0_12 : List (S138)) (a0_13 : ByteArray) (r : Bool) (w : World) (hr0_6 : Kd.C Kd.string w A0_6 l0_6.length l0_6) (hc0_6 : l0_6.length ≤ c0_6) (hr0_8 : Kd.C Kd.string w A0_8 l0_8.length l0_8) (hc0_8 : l0_8.length ≤ c0_8) (hr0_9 : Kd.C (Kd.int .i64) w A0_9 l0_9.length l0_9) (hc0_9 : l0_9.length ≤ c0_9) (hr0_10 : Kd.C k186 w A0_10 l0_10.length l0_10) (hc0_10 : l0_10.length ≤ c0_10) (hr0_12 : Kd.C k138 w A0_12 l0_12.length l0_12) (hc0_12 : l0_12.length ≤ c0_12) (h : spec_BlockOk.f k a0_0 a0_1 a0_2 a0_3 a0_4 a0_5 l0_6 a0_7 l0_8 l0_9 l0_10 a0_11 l0_12 a0_13 = some r) :
    Calls Try.prog 151 #[.agg #[.int .i64 a0_0, .int .i64 a0_1, .int .i64 a0_2, .string a0_3, .int .i64 a0_4, .int .i64 a0_5, .slice A0_6 l0_6.length c0_6, .int .i64 a0_7, .slice A0_8 l0_8.length c0_8, .slice A0_9 l0_9.length c0_9, .slice A0_10 l0_10.length c0_10, .bool a0_11, .slice A0_12 l0_12.length c0_12, .string a0_13]] w fun e w' => e = .returned (.bool r) ∧ Below w.heap.size w w' := by
  unfold spec_BlockOk.f at h
  split at h
  · next hf =>
    cases h
    exact spec_BlockOk.does hf (k113_mk w (⟨a0_0, a0_1, a0_2, a0_3, ⟨a0_4, a0_5, l0_6⟩, ⟨a0_7, l0_8, l0_9⟩, l0_10, a0_11, l0_12, a0_13⟩ : S113) hc0_6 hr0_6 hc0_8 hr0_8 hc0_9 hr0_9 hc0_10 hr0_10 hc0_12 hr0_12)
  · cases h
theorem spec_BlockOk.is {b : S113} (hf : blockFit b) : Ev (fun k => spec_BlockOk.f k b.f0 b.f1 b.f2 b.f3 b.f4.f0 b.f4.f1 b.f4.f2 b.f5.f0 b.f5.f1 b.f5.f2 b.f6 b.f7 b.f8 b.f9) (blockOk b) := by
  unfold spec_BlockOk.f
  rw [if_pos (show blockFit b from hf)]
  exact Ev.now _

/-! ### spec_PutNum: function 153 -/
mutual
def spec_PutNum.j0 : Nat → Int → List Int → Option (List Int)
  | 0, _, _ => none
  | k + 1, x1, x5 => if x1 < (-1000000000) then (spec_PutNum.j1 k (-1000000000) x5) else (spec_PutNum.j1 k x1 x5)
def spec_PutNum.j1 : Nat → Int → List Int → Option (List Int)
  | 0, _, _ => none
  | k + 1, x1, x5 => if x1 < 0 then (spec_PutNum.j2 k x5 (wrap64 ((wrap64 ((-2) * x1)) - 1))) else (spec_PutNum.j2 k x5 (wrap64 (2 * x1)))
def spec_PutNum.j2 : Nat → List Int → Int → Option (List Int)
  | 0, _, _ => none
  | k + 1, x5, x6 => spec_PutNum.l0 k x5 x6
def spec_PutNum.l0 : Nat → List Int → Int → Option (List Int)
  | 0, _, _ => none
  | k + 1, x5, x6 => if x6 > 127 then (if x5.length < 140737488355328 then (spec_PutNum.l0 k (x5 ++ [(Go.bits .or .i64 (Go.bits .and .i64 x6 127) 128) % 256]) (x6 / 128)) else (none)) else (if x5.length < 140737488355328 then (some (x5 ++ [(x6) % 256])) else (none))
end
def spec_PutNum.f (k : Nat) (l0 : List Int) (a1 : Int) : Option (List Int) := (some (([] : List Int) : List Int)).bind fun y1440 => (if y1440.length + l0.length < 140737488355328 then ((some (y1440 ++ l0 : List Int)).bind fun y1443 => (if a1 > 1000000000 then (spec_PutNum.j0 k 1000000000 y1443) else (spec_PutNum.j0 k a1 y1443))) else (none))
theorem spec_PutNum.mono_l : ∀ k, (∀ y0 y1, LeO (spec_PutNum.j0 k y0 y1) (spec_PutNum.j0 (k + 1) y0 y1)) ∧ (∀ y0 y1, LeO (spec_PutNum.j1 k y0 y1) (spec_PutNum.j1 (k + 1) y0 y1)) ∧ (∀ y0 y1, LeO (spec_PutNum.j2 k y0 y1) (spec_PutNum.j2 (k + 1) y0 y1)) ∧ (∀ y0 y1, LeO (spec_PutNum.l0 k y0 y1) (spec_PutNum.l0 (k + 1) y0 y1))
  | 0 => ⟨fun _ _ r h => by simp [spec_PutNum.j0] at h, fun _ _ r h => by simp [spec_PutNum.j1] at h, fun _ _ r h => by simp [spec_PutNum.j2] at h, fun _ _ r h => by simp [spec_PutNum.l0] at h⟩
  | k + 1 => by
    obtain ⟨ih0, ih1, ih2, ih3⟩ := spec_PutNum.mono_l k
    refine ⟨?_, ?_, ?_, ?_⟩
    · intro y0 y1
      unfold spec_PutNum.j0
      repeat' first
      | (with_reducible exact ih0 _ _)
      | (with_reducible exact ih1 _ _)
      | (with_reducible exact ih2 _ _)
      | (with_reducible exact ih3 _ _)
      | (with_reducible exact LeO.refl _)
      | (with_reducible exact LeO.none _)
      | (with_reducible refine LeO.ite ?_ ?_)
      | (with_reducible refine LeO.bind ?_ (fun _ => ?_))
      | exact ih0 _ _
      | exact ih1 _ _
      | exact ih2 _ _
      | exact ih3 _ _
      | exact LeO.none _
      | refine LeO.ite ?_ ?_
      | refine LeO.bind ?_ (fun _ => ?_)
    · intro y0 y1
      unfold spec_PutNum.j1
      repeat' first
      | (with_reducible exact ih0 _ _)
      | (with_reducible exact ih1 _ _)
      | (with_reducible exact ih2 _ _)
      | (with_reducible exact ih3 _ _)
      | (with_reducible exact LeO.refl _)
      | (with_reducible exact LeO.none _)
      | (with_reducible refine LeO.ite ?_ ?_)
      | (with_reducible refine LeO.bind ?_ (fun _ => ?_))
      | exact ih0 _ _
      | exact ih1 _ _
      | exact ih2 _ _
      | exact ih3 _ _
      | exact LeO.none _
      | refine LeO.ite ?_ ?_
      | refine LeO.bind ?_ (fun _ => ?_)
    · intro y0 y1
      unfold spec_PutNum.j2
      repeat' first
      | (with_reducible exact ih0 _ _)
      | (with_reducible exact ih1 _ _)
      | (with_reducible exact ih2 _ _)
      | (with_reducible exact ih3 _ _)
      | (with_reducible exact LeO.refl _)
      | (with_reducible exact LeO.none _)
      | (with_reducible refine LeO.ite ?_ ?_)
      | (with_reducible refine LeO.bind ?_ (fun _ => ?_))
      | exact ih0 _ _
      | exact ih1 _ _
      | exact ih2 _ _
      | exact ih3 _ _
      | exact LeO.none _
      | refine LeO.ite ?_ ?_
      | refine LeO.bind ?_ (fun _ => ?_)
    · intro y0 y1
      unfold spec_PutNum.l0
      repeat' first
      | (with_reducible exact ih0 _ _)
      | (with_reducible exact ih1 _ _)
      | (with_reducible exact ih2 _ _)
      | (with_reducible exact ih3 _ _)
      | (with_reducible exact LeO.refl _)
      | (with_reducible exact LeO.none _)
      | (with_reducible refine LeO.ite ?_ ?_)
      | (with_reducible refine LeO.bind ?_ (fun _ => ?_))
      | exact ih0 _ _
      | exact ih1 _ _
      | exact ih2 _ _
      | exact ih3 _ _
      | exact LeO.none _
      | refine LeO.ite ?_ ?_
      | refine LeO.bind ?_ (fun _ => ?_)
theorem spec_PutNum.mono : ∀ a0 a1 k, LeO (spec_PutNum.f k a0 a1) (spec_PutNum.f (k + 1) a0 a1) := by
  intro a0 a1 k
  obtain ⟨ih0, ih1, ih2, ih3⟩ := spec_PutNum.mono_l k
  unfold spec_PutNum.f
  repeat' first
      | (with_reducible exact ih0 _ _)
      | (with_reducible exact ih1 _ _)
      | (with_reducible exact ih2 _ _)
      | (with_reducible exact ih3 _ _)
      | (with_reducible exact LeO.refl _)
      | (with_reducible exact LeO.none _)
      | (with_reducible refine LeO.ite ?_ ?_)
      | (with_reducible refine LeO.bind ?_ (fun _ => ?_))
      | exact ih0 _ _
      | exact ih1 _ _
      | exact ih2 _ _
      | exact ih3 _ _
      | exact LeO.none _
      | refine LeO.ite ?_ ?_
      | refine LeO.bind ?_ (fun _ => ?_)
set_option maxHeartbeats 8000000 in
set_option maxRecDepth 100000 in
theorem spec_PutNum.calls (k : Nat) (A0 : Option Addr) (c0 : Nat) (l0 : List Int) (a1 : Int) (r : List Int) (w : World) (hr0 : Kd.C (Kd.int .u8) w A0 l0.length l0) (hc0 : l0.length ≤ c0) (h : spec_PutNum.f k l0 a1 = some r) :
    Calls Try.prog 153 #[.slice A0 l0.length c0, .int .i64 a1] w fun e w' => ∃ v0_ : Value, e = .returned (v0_) ∧ Kd.R (Kd.int .u8) 5 w' w.heap.size (fun _ => True) v0_ r ∧ Below w.heap.size w w' := by
  have HR0 := Aside0.mk hr0
  have HC0 := Aside0.mk hc0
  clear hr0 hc0
  have HB := Aside0.mk (Below.refl w.heap.size w)
  have H : ((some (([] : List Int) : List Int)).bind fun y1440 => (if y1440.length + l0.length < 140737488355328 then ((some (y1440 ++ l0 : List Int)).bind fun y1443 => (if a1 > 1000000000 then (spec_PutNum.j0 k 1000000000 y1443) else (spec_PutNum.j0 k a1 y1443))) else (none))) = some r := h
  clear h
  obtain ⟨y1440, hy1440⟩ : ∃ y_ : List Int, y_ = (([] : List Int)) := ⟨_, rfl⟩
  replace H : (if y1440.length + l0.length < 140737488355328 then ((some (y1440 ++ l0 : List Int)).bind fun y1443 => (if a1 > 1000000000 then (spec_PutNum.j0 k 1000000000 y1443) else (spec_PutNum.j0 k a1 y1443))) else (none)) = some r := by first | (rw [hy1440]; with_reducible exact H) | (have H2_ := (Option.bind_some _ _).symm.trans H; rw [hy1440]; with_reducible exact H2_) | (have H2_ := (Option.bind_some _ _).symm.trans H; with_reducible exact H2_) | with_reducible exact H | (rw [hy1440]; exact H) | exact H
  have Ny1440 := Aside0.mk hy1440
  clear hy1440
  by_cases c3 : y1440.length + l0.length < 140737488355328
  · rw [if_pos c3] at H
    have LMc3 := Aside0.mk c3
    clear c3
    obtain ⟨y1443, hy1443⟩ : ∃ y_ : List Int, y_ = (y1440 ++ l0) := ⟨_, rfl⟩
    replace H : (if a1 > 1000000000 then (spec_PutNum.j0 k 1000000000 y1443) else (spec_PutNum.j0 k a1 y1443)) = some r := by first | (rw [hy1443]; with_reducible exact H) | (have H2_ := (Option.bind_some _ _).symm.trans H; rw [hy1443]; with_reducible exact H2_) | (have H2_ := (Option.bind_some _ _).symm.trans H; with_reducible exact H2_) | with_reducible exact H | (rw [hy1443]; exact H) | exact H
    have Ny1443 := Aside0.mk hy1443
    clear hy1443
    have HC4 := Aside0.mk H
    clear H
    go_enter Try.func153, Try.ntmps153
    go_upto_if 11 with (first | ((with_reducible refine gate_dst (N := 7) rfl ?_); refine Kd.R_lit (Kd.int .u8) _ 5 ?hg (N := 7) ?hd (xs := ([] : List Int)) (inner := []) (ok := fun _ => True) (okp := fun _ => True) ?hr ?hp (fun _ hk => hk) trivial (Below.refl _ _) (Nat.le_refl _) (by simp) ?_; (case hd => rfl); (case hg => rfl); (case hr => first | (go_simp; done) | (go_simp; rfl)); (case hp => exact (Reps.none _ _)); intro v1441 w5 ho6 hb hg_ hnew_; clear hg_ hnew_; (first | rw [← Ny1440.out] at ho6 | (simp only [Int.reduceToNat] at ho6; rw [← Ny1440.out] at ho6)); have n0_ := Aside0.mk (Kd.R_lower ho6 (below_size (by repeat (first | (with_reducible first | exact HB.out | apply below_alloc | apply pw_below_drewN | apply below_drew1) | exact HB.out)))); have n1_ := Aside0.mk (below_step (by repeat (first | (with_reducible first | exact HB.out | apply below_alloc | apply pw_below_drewN | apply below_drew1) | exact HB.out)) hb); clear HB; have HO1442 := n0_; have HB := n1_; clear n0_ n1_; clear hb ho6) | ((with_reducible refine gate_builtin (b := .append) (xs := #[.tmp 7, .tmp 8]) rfl ?_); at_builtin; refine Kd.R_append_rows (Kd.int .u8) (w0 := w) w.heap.size rfl (.tmp 7) (.tmp 8) 22 5 (.int .u8 0) 1 rfl Try.underlying22 info5 rfl (by decide) (by omega) v1441 y1440 l0 _ _ _ (fun _ => True) (fun _ => False) rfl rfl ?aO ?aR (fun _ _ h => h) (fun _ h => h.elim) ?aF ?aB ?aS ?aL ?_; (case aR => repeat (first | exact (Kd.C_below HR0.out HB.out) | (with_reducible refine Kd.C_alloc ?_ _) | (with_reducible refine Kd.C_drewN ?_ _) | (with_reducible refine Kd.C_drew ?_))); (case aB => exact (by repeat (first | (with_reducible first | exact HB.out | apply below_alloc | apply pw_below_drewN | apply below_drew1) | exact HB.out))); (case aF => exact (fun _ _ => trivial)); (case aO => exact (by (with_reducible repeat (first | apply Kd.R_alloc | apply Kd.R_drewN | apply Kd.R_drew)); exact HO1442.out)); (case aS => exact (below_size (by repeat (first | (with_reducible first | exact HB.out | apply below_alloc | apply pw_below_drewN | apply below_drew1) | exact HB.out)))); (case aL => have := LMc3.out; omega); intro v1444 w7 ho hb hg hat; rw [← Ny1443.out] at ho; have n0_ := Aside0.mk (hb); have n1_ := Aside0.mk (ho); clear HB; clear HO1442; have HB := n0_; have HO1445 := n1_; clear n0_ n1_; clear ho hb hg hat))
    (try simp only [Act.put, List.setIfInBounds_toArray, List.set_cons_zero, List.set_cons_succ])
    go_cut [1] (fun v1 wc => ∃ (kq : Nat) (x1_3 : Int), v1 = .int .i64 x1_3 ∧ Aside0 (spec_PutNum.j0 kq x1_3 y1443 = some r) ∧ Aside0 (kq ≤ k) ∧ Aside0 (Kd.R (Kd.int .u8) 5 wc w.heap.size (fun _ => True) v1444 y1443) ∧ Aside0 (Below w.heap.size w wc))
    case first =>
      have H := HC4.out
      clear HC4
      by_cases c8 : a1 > 1000000000
      · rw [if_pos c8] at H
        have c8b0 : decide (1000000000 < a1) = true := decide_eq_true c8
        clear c8
        (first | rw [c8b0] | (simp only [i64_w, i32_w]; rw [c8b0]) | skip)
        have H' := Aside0.mk H
        clear H
        go_wp2
        go_meet
        case rel => exact ⟨_, (1000000000), (by first | rfl | (simp; done) | (simp [*]; done)), H', ⟨by first | omega | exact Nat.le_refl _⟩, ⟨by (with_reducible repeat (first | apply Kd.R_alloc | apply Kd.R_drewN | apply Kd.R_drew)); exact HO1445.out⟩, ⟨by repeat (first | (with_reducible first | exact HB.out | apply below_alloc | apply pw_below_drewN | apply below_drew1) | exact HB.out)⟩⟩
      · rw [if_neg c8] at H
        have c8b0 : decide (1000000000 < a1) = false := decide_eq_false c8
        clear c8
        (first | rw [c8b0] | (simp only [i64_w, i32_w]; rw [c8b0]) | skip)
        have H' := Aside0.mk H
        clear H
        go_wp2
        go_meet
        case rel => exact ⟨_, (a1), (by first | rfl | (simp; done) | (simp [*]; done)), H', ⟨by first | omega | exact Nat.le_refl _⟩, ⟨by (with_reducible repeat (first | apply Kd.R_alloc | apply Kd.R_drewN | apply Kd.R_drew)); exact HO1445.out⟩, ⟨by repeat (first | (with_reducible first | exact HB.out | apply below_alloc | apply pw_below_drewN | apply below_drew1) | exact HB.out)⟩⟩
    case rest =>
      clear HC4
      try clear c1
      try clear p2
      try clear c3
      try clear c8
      try clear c8b0
      obtain ⟨kq, x1_3, rfl, HA, HJ3, HO_5, HB⟩ := hcut
      cases kq with
      | zero => exact absurd HA.out (by simp [spec_PutNum.j0])
      | succ kj3 =>
        have H := HA.out
        clear HA
        simp only [spec_PutNum.j0] at H
        have HC9 := Aside0.mk H
        clear H
        go_upto_if 13 with (fail)
        go_cut [1] (fun v1 wc => ∃ (kq : Nat) (x1_8 : Int), v1 = .int .i64 x1_8 ∧ Aside0 (spec_PutNum.j1 kq x1_8 y1443 = some r) ∧ Aside0 (kq ≤ kj3) ∧ Aside0 (Kd.R (Kd.int .u8) 5 wc w.heap.size (fun _ => True) v1444 y1443) ∧ Aside0 (Below w.heap.size w wc))
        case first =>
          have H := HC9.out
          clear HC9
          by_cases c10 : x1_3 < (-1000000000)
          · rw [if_pos c10] at H
            have c10b0 : decide (x1_3 < (-1000000000)) = true := decide_eq_true c10
            clear c10
            (first | rw [c10b0] | (simp only [i64_w, i32_w]; rw [c10b0]) | skip)
            have H' := Aside0.mk H
            clear H
            go_wp2
            go_meet
            case rel => exact ⟨_, ((-1000000000)), (by first | rfl | (simp; done) | (simp [*]; done)), H', ⟨by have := HJ3.out; first | omega | exact Nat.le_refl _⟩, ⟨by (with_reducible repeat (first | apply Kd.R_alloc | apply Kd.R_drewN | apply Kd.R_drew)); exact HO_5.out⟩, ⟨by repeat (first | (with_reducible first | exact HB.out | apply below_alloc | apply pw_below_drewN | apply below_drew1) | exact HB.out)⟩⟩
          · rw [if_neg c10] at H
            have c10b0 : decide (x1_3 < (-1000000000)) = false := decide_eq_false c10
            clear c10
            (first | rw [c10b0] | (simp only [i64_w, i32_w]; rw [c10b0]) | skip)
            have H' := Aside0.mk H
            clear H
            go_wp2
            go_meet
            case rel => exact ⟨_, (x1_3), (by first | rfl | (simp; done) | (simp [*]; done)), H', ⟨by have := HJ3.out; first | omega | exact Nat.le_refl _⟩, ⟨by (with_reducible repeat (first | apply Kd.R_alloc | apply Kd.R_drewN | apply Kd.R_drew)); exact HO_5.out⟩, ⟨by repeat (first | (with_reducible first | exact HB.out | apply below_alloc | apply pw_below_drewN | apply below_drew1) | exact HB.out)⟩⟩
        case rest =>
          clear HC9
          try clear c1
          try clear p2
          try clear c3
          try clear c8
          try clear c8b0
          try clear c10
          try clear c10b0
          try clear p2
          obtain ⟨kq, x1_8, rfl, HA, HJ8, HO_5, HB⟩ := hcut
          cases kq with
          | zero => exact absurd HA.out (by simp [spec_PutNum.j1])
          | succ kj8 =>
            have H := HA.out
            clear HA
            simp only [spec_PutNum.j1] at H
            have HC11 := Aside0.mk H
            clear H
            go_upto_if 17 with (fail)
            go_cut [6] (fun v6 wc => ∃ (kq : Nat) (x6_10 : Int), v6 = .int .i64 x6_10 ∧ Aside0 (spec_PutNum.j2 kq y1443 x6_10 = some r) ∧ Aside0 (kq ≤ kj8) ∧ Aside0 (Kd.R (Kd.int .u8) 5 wc w.heap.size (fun _ => True) v1444 y1443) ∧ Aside0 (Below w.heap.size w wc))
            case first =>
              have H := HC11.out
              clear HC11
              by_cases c12 : x1_8 < 0
              · rw [if_pos c12] at H
                have c12b0 : decide (x1_8 < 0) = true := decide_eq_true c12
                clear c12
                (first | rw [c12b0] | (simp only [i64_w, i32_w]; rw [c12b0]) | skip)
                have H' := Aside0.mk H
                clear H
                go_wp2
                go_meet
                case rel => exact ⟨_, (wrap64 ((wrap64 ((-2) * x1_8)) - 1)), (by first | rfl | (simp; done) | (simp [*]; done)), H', ⟨by have := HJ3.out; have := HJ8.out; first | omega | exact Nat.le_refl _⟩, ⟨by (with_reducible repeat (first | apply Kd.R_alloc | apply Kd.R_drewN | apply Kd.R_drew)); exact HO_5.out⟩, ⟨by repeat (first | (with_reducible first | exact HB.out | apply below_alloc | apply pw_below_drewN | apply below_drew1) | exact HB.out)⟩⟩
              · rw [if_neg c12] at H
                have c12b0 : decide (x1_8 < 0) = false := decide_eq_false c12
                clear c12
                (first | rw [c12b0] | (simp only [i64_w, i32_w]; rw [c12b0]) | skip)
                have H' := Aside0.mk H
                clear H
                go_wp2
                go_meet
                case rel => exact ⟨_, (wrap64 (2 * x1_8)), (by first | rfl | (simp; done) | (simp [*]; done)), H', ⟨by have := HJ3.out; have := HJ8.out; first | omega | exact Nat.le_refl _⟩, ⟨by (with_reducible repeat (first | apply Kd.R_alloc | apply Kd.R_drewN | apply Kd.R_drew)); exact HO_5.out⟩, ⟨by repeat (first | (with_reducible first | exact HB.out | apply below_alloc | apply pw_below_drewN | apply below_drew1) | exact HB.out)⟩⟩
            case rest =>
              clear HC11
              try clear c1
              try clear p2
              try clear c3
              try clear p6
              try clear c8
              try clear c8b0
              try clear c10
              try clear c10b0
              try clear c12
              try clear c12b0
              try clear p2
              obtain ⟨kq, x6_10, rfl, HA, HJ10, HO_5, HB⟩ := hcut
              cases kq with
              | zero => exact absurd HA.out (by simp [spec_PutNum.j2])
              | succ kj10 =>
                have H := HA.out
                clear HA
                simp only [spec_PutNum.j2] at H
                have H' := Aside0.mk H
                clear H
                go_wp2
                go_loopg [5, 6] kj10 (fun kq v5 v6 w' => ∃ (x5_4 : List Int) (x6_4 : Int), v6 = .int .i64 x6_4 ∧ Aside0 (spec_PutNum.l0 kq x5_4 x6_4 = some r) ∧ Aside0 (kq ≤ kj10) ∧ Aside0 (Kd.R (Kd.int .u8) 5 w' w.heap.size (fun _ => True) v5 x5_4) ∧ Aside0 (Below w.heap.size w w'))
                case atStart => exact ⟨(y1443), (x6_10), (by first | rfl | (simp; done) | (simp [*]; done)), H', ⟨Nat.le_refl _⟩, ⟨by (with_reducible repeat (first | apply Kd.R_alloc | apply Kd.R_drewN | apply Kd.R_drew)); exact HO_5.out⟩, ⟨by repeat (first | (with_reducible first | exact HB.out | apply below_alloc | apply pw_below_drewN | apply below_drew1) | exact HB.out)⟩⟩
                case round =>
                  clear H'
                  try clear c1
                  try clear p2
                  try clear c3
                  try clear p6
                  try clear c8
                  try clear c8b0
                  try clear c10
                  try clear c10b0
                  try clear c12
                  try clear c12b0
                  try clear p2
                  try clear p6
                  obtain ⟨x5_4, x6_4, rfl, HA, HK4, HO_5, HB⟩ := hrel
                  cases gk with
                  | zero => exact absurd HA.out (by simp [spec_PutNum.l0])
                  | succ k4 =>
                    have H := HA.out
                    clear HA
                    simp only [spec_PutNum.l0] at H
                    by_cases c13 : x6_4 > 127
                    · rw [if_pos c13] at H
                      have c13b0 : decide (127 < x6_4) = true := decide_eq_true c13
                      clear c13
                      by_cases c14 : x5_4.length < 140737488355328
                      · rw [if_pos c14] at H
                        have LMc14 := Aside0.mk c14
                        clear c14
                        obtain ⟨y1446, hy1446⟩ : ∃ y_ : List Int, y_ = (x5_4 ++ [(Go.bits .or .i64 (Go.bits .and .i64 x6_4 127) 128) % 256]) := ⟨_, rfl⟩
                        replace H : (spec_PutNum.l0 k4 y1446 (x6_4 / 128)) = some r := by first | (rw [hy1446]; with_reducible exact H) | (have H2_ := (Option.bind_some _ _).symm.trans H; rw [hy1446]; with_reducible exact H2_) | (have H2_ := (Option.bind_some _ _).symm.trans H; with_reducible exact H2_) | with_reducible exact H | (rw [hy1446]; exact H) | exact H
                        have Ny1446 := Aside0.mk hy1446
                        clear hy1446
                        have H' := Aside0.mk H
                        clear H
                        go_wp2_with (first | ((with_reducible refine gate_builtin (b := .append) (xs := #[.tmp 23, .tmp 28]) rfl ?_); at_builtin; refine Kd.R_append (Kd.int .u8) (w0 := w) w.heap.size rfl (.tmp 23) (.tmp 28) 22 5 (.int .u8 0) 1 rfl Try.underlying22 info5 rfl (by decide) (by omega) u5 x5_4 ((Go.bits .or .i64 (Go.bits .and .i64 x6_4 127) 128) % 256) [.int .u8 ((Go.bits .or .i64 (Go.bits .and .i64 x6_4 127) 128) % 256)] (fun _ => True) (fun _ => False) rfl rfl ?aP (fun _ hk => hk.elim) ?aF ?aO ?aB ?aS ?aL ?_; (case aP => exact rfl); (case aB => exact (by repeat (first | (with_reducible first | exact HB.out | apply below_alloc | apply pw_below_drewN | apply below_drew1) | exact HB.out))); (case aF => exact (fun _ _ => trivial)); (case aO => exact (by (with_reducible repeat (first | apply Kd.R_alloc | apply Kd.R_drewN | apply Kd.R_drew)); exact HO_5.out)); (case aS => exact (below_size (by repeat (first | (with_reducible first | exact HB.out | apply below_alloc | apply pw_below_drewN | apply below_drew1) | exact HB.out)))); (case aL => have := LMc14.out; omega); intro v1447 w15 ho hb hg hat; rw [← Ny1446.out] at ho; have n0_ := Aside0.mk (hb); have n1_ := Aside0.mk (ho); clear HB; clear HO_5; have HB := n0_; have HO1448 := n1_; clear n0_ n1_; clear ho hb hg hat))
                        go_roundg k4
                        case measure => have := HJ3.out; have := HJ8.out; have := HJ10.out; have := HK4.out; omega
                        case rel => exact ⟨(y1446), (x6_4 / 128), (by first | rfl | (simp; done) | (simp [*]; done)), H', ⟨by have := HJ3.out; have := HJ8.out; have := HJ10.out; have := HK4.out; omega⟩, ⟨by (with_reducible repeat (first | apply Kd.R_alloc | apply Kd.R_drewN | apply Kd.R_drew)); exact HO1448.out⟩, ⟨by repeat (first | (with_reducible first | exact HB.out | apply below_alloc | apply pw_below_drewN | apply below_drew1) | exact HB.out)⟩⟩
                      · rw [if_neg c14] at H
                        exact absurd H (by simp)
                    · rw [if_neg c13] at H
                      have c13b0 : decide (127 < x6_4) = false := decide_eq_false c13
                      clear c13
                      by_cases c16 : x5_4.length < 140737488355328
                      · rw [if_pos c16] at H
                        have LMc16 := Aside0.mk c16
                        clear c16
                        obtain ⟨y1449, hy1449⟩ : ∃ y_ : List Int, y_ = (x5_4 ++ [(x6_4) % 256]) := ⟨_, rfl⟩
                        replace H : (some y1449) = some r := by first | (rw [hy1449]; with_reducible exact H) | (have H2_ := (Option.bind_some _ _).symm.trans H; rw [hy1449]; with_reducible exact H2_) | (have H2_ := (Option.bind_some _ _).symm.trans H; with_reducible exact H2_) | with_reducible exact H | (rw [hy1449]; exact H) | exact H
                        have Ny1449 := Aside0.mk hy1449
                        clear hy1449
                        obtain rfl := Option.some.inj H
                        go_wp2_with (first | ((with_reducible refine gate_builtin (b := .append) (xs := #[.tmp 32, .tmp 35]) rfl ?_); at_builtin; refine Kd.R_append (Kd.int .u8) (w0 := w) w.heap.size rfl (.tmp 32) (.tmp 35) 22 5 (.int .u8 0) 1 rfl Try.underlying22 info5 rfl (by decide) (by omega) u5 x5_4 ((x6_4) % 256) [.int .u8 ((x6_4) % 256)] (fun _ => True) (fun _ => False) rfl rfl ?aP (fun _ hk => hk.elim) ?aF ?aO ?aB ?aS ?aL ?_; (case aP => exact rfl); (case aB => exact (by repeat (first | (with_reducible first | exact HB.out | apply below_alloc | apply pw_below_drewN | apply below_drew1) | exact HB.out))); (case aF => exact (fun _ _ => trivial)); (case aO => exact (by (with_reducible repeat (first | apply Kd.R_alloc | apply Kd.R_drewN | apply Kd.R_drew)); exact HO_5.out)); (case aS => exact (below_size (by repeat (first | (with_reducible first | exact HB.out | apply below_alloc | apply pw_below_drewN | apply below_drew1) | exact HB.out)))); (case aL => have := LMc16.out; omega); intro v1450 w17 ho hb hg hat; rw [← Ny1449.out] at ho; have n0_ := Aside0.mk (hb); have n1_ := Aside0.mk (ho); clear HB; clear HO_5; have HB := n0_; have HO1451 := n1_; clear n0_ n1_; clear ho hb hg hat))
                        go_ret
                        exact ⟨_, by first | rfl | (simp [errW_none, errW_some] <;> rfl) | (simp [*, errW_none, errW_some] <;> rfl), by (with_reducible repeat (first | apply Kd.R_alloc | apply Kd.R_drewN | apply Kd.R_drew)); exact HO1451.out, by repeat (first | (with_reducible first | exact HB.out | apply below_alloc | apply pw_below_drewN | apply below_drew1) | exact HB.out)⟩
                      · rw [if_neg c16] at H
                        exact absurd H (by simp)
  · rw [if_neg c3] at H
    exact absurd H (by simp)

theorem spec_PutNum.l0_is : ∀ (d : Nat) (m : Int) (out : List Int), 0 ≤ m → m < bdN d → out.length + d ≤ 100000000 → Ev (fun k => spec_PutNum.l0 k out m) (out ++ grpN d m)
  | 0, m, out, h0, h1, hl => by
    refine Ev.up ?_
    simp only [spec_PutNum.l0]
    exact Ev.no (by unfold bdN at h1; omega) (Ev.yes (by omega) (Ev.now _))
  | d + 1, m, out, h0, h1, hl => by
    refine Ev.up ?_
    simp only [spec_PutNum.l0]
    unfold grpN
    by_cases hm : m > 127
    · rw [if_pos hm]
      refine Ev.yes hm (Ev.yes (by omega) ?_)
      have e := spec_PutNum.l0_is d (m / 128) (out ++ [byteN m]) (by omega) (by unfold bdN at h1; omega) (by rw [List.length_append, List.length_singleton]; omega)
      rw [List.append_assoc] at e
      exact e
    · rw [if_neg hm]
      exact Ev.no hm (Ev.yes (by omega) (Ev.now _))
theorem spec_PutNum.j1_is {out : List Int} {c : Int} (hl : out.length ≤ 90000000) (h0 : -1000000000 ≤ c) (h1 : c ≤ 1000000000) : Ev (fun k => spec_PutNum.j1 k c out) (out ++ grpN 4 (zigC c)) := by
  have hb : bdN 4 = 34359738368 := rfl
  refine Ev.up ?_
  simp only [spec_PutNum.j1]
  unfold zigC
  by_cases hc : c < 0
  · rw [if_pos hc]
    refine Ev.yes hc (Ev.up ?_)
    simp only [spec_PutNum.j2]
    rw [unw (x := -2 * c) (by omega) (by omega), unw (x := -2 * c - 1) (by omega) (by omega)]
    exact spec_PutNum.l0_is 4 _ out (by omega) (by omega) (by omega)
  · rw [if_neg hc]
    refine Ev.no hc (Ev.up ?_)
    simp only [spec_PutNum.j2]
    rw [unw (x := 2 * c) (by omega) (by omega)]
    exact spec_PutNum.l0_is 4 _ out (by omega) (by omega) (by omega)
theorem spec_PutNum.is {out : List Int} (n : Int) (hl : out.length ≤ 90000000) : Ev (fun k => spec_PutNum.f k out n) (out ++ pNum n) := by
  unfold spec_PutNum.f pNum clampN
  simp only [Option.bind_some, List.length_nil, List.nil_append, Nat.zero_add]
  refine Ev.yes (by omega) ?_
  by_cases h1 : n > 1000000000
  · rw [if_pos h1]
    refine Ev.yes h1 (Ev.up ?_)
    simp only [spec_PutNum.j0]
    exact Ev.no (by decide) (spec_PutNum.j1_is hl (by decide) (by decide))
  · rw [if_neg h1]
    refine Ev.no h1 (Ev.up ?_)
    simp only [spec_PutNum.j0]
    by_cases h2 : n < -1000000000
    · rw [if_pos h2]
      exact Ev.yes h2 (spec_PutNum.j1_is hl (by decide) (by decide))
    · rw [if_neg h2]
      exact Ev.no h2 (spec_PutNum.j1_is hl (by omega) (by omega))

/-! ### spec_PutText: function 152 -/
def spec_PutText.f (k : Nat) (l0 : List Int) (a1 : ByteArray) : Option (List Int) := (spec_PutNum.f k l0 (a1.size : Int)).bind fun t1452 => (if t1452.length + a1.size < 140737488355328 then (some (t1452 ++ bytesOf a1)) else (none))
theorem spec_PutText.mono : ∀ a0 a1 k, LeO (spec_PutText.f k a0 a1) (spec_PutText.f (k + 1) a0 a1) := by
  intro a0 a1 k
  unfold spec_PutText.f
  repeat' first
      | (with_reducible exact spec_PutNum.mono _ _ _)
      | (with_reducible exact LeO.refl _)
      | (with_reducible exact LeO.none _)
      | (with_reducible refine LeO.ite ?_ ?_)
      | (with_reducible refine LeO.bind ?_ (fun _ => ?_))
      | exact spec_PutNum.mono _ _ _
      | exact LeO.none _
      | refine LeO.ite ?_ ?_
      | refine LeO.bind ?_ (fun _ => ?_)
set_option maxHeartbeats 8000000 in
set_option maxRecDepth 100000 in
theorem spec_PutText.calls (k : Nat) (A0 : Option Addr) (c0 : Nat) (l0 : List Int) (a1 : ByteArray) (r : List Int) (w : World) (hr0 : Kd.C (Kd.int .u8) w A0 l0.length l0) (hc0 : l0.length ≤ c0) (h : spec_PutText.f k l0 a1 = some r) :
    Calls Try.prog 152 #[.slice A0 l0.length c0, .string a1] w fun e w' => ∃ v0_ : Value, e = .returned (v0_) ∧ Kd.R (Kd.int .u8) 5 w' w.heap.size (fun _ => True) v0_ r ∧ Below w.heap.size w w' := by
  have HR0 := Aside0.mk hr0
  have HC0 := Aside0.mk hc0
  clear hr0 hc0
  have HB := Aside0.mk (Below.refl w.heap.size w)
  have H : ((spec_PutNum.f k l0 (a1.size : Int)).bind fun t1452 => (if t1452.length + a1.size < 140737488355328 then (some (t1452 ++ bytesOf a1)) else (none))) = some r := h
  clear h
  replace H := Option.bind_eq_some_iff.mp H
  obtain ⟨t1452, A30, H⟩ := H
  replace H : (if t1452.length + a1.size < 140737488355328 then (some (t1452 ++ bytesOf a1)) else (none)) = some r := H
  have A3 := Aside0.mk A30
  clear A30
  by_cases c4 : t1452.length + a1.size < 140737488355328
  · rw [if_pos c4] at H
    have LMc4 := Aside0.mk c4
    clear c4
    obtain ⟨y1455, hy1455⟩ : ∃ y_ : List Int, y_ = (t1452 ++ bytesOf a1) := ⟨_, rfl⟩
    replace H : (some y1455) = some r := by first | (rw [hy1455]; with_reducible exact H) | (have H2_ := (Option.bind_some _ _).symm.trans H; rw [hy1455]; with_reducible exact H2_) | (have H2_ := (Option.bind_some _ _).symm.trans H; with_reducible exact H2_) | with_reducible exact H | (rw [hy1455]; exact H) | exact H
    have Ny1455 := Aside0.mk hy1455
    clear hy1455
    obtain rfl := Option.some.inj H
    go_enter Try.func152, Try.ntmps152
    go_wp2_with (first | ((with_reducible refine gate_callee (f := 153) rfl ?_); refine goesL_ (some 8) rfl rfl Try.func153 (by kernel_rfl) rfl #[.slice A0 l0.length c0, .int .i64 (a1.size : Int)] rfl (by (try simp only [List.map_toArray, List.map_cons, List.map_nil]); first | done | rfl | (simp only [List.length_drop, List.length_take]; rfl)) ?_; (with_reducible refine (spec_PutNum.calls k _ _ l0 (a1.size : Int) t1452 _ ?side1 ?side2 A3.out).mono ?_); (case side1 => repeat (first | exact HR0.out | (with_reducible refine Kd.C_alloc ?_ _) | (with_reducible refine Kd.C_drewN ?_ _) | (with_reducible refine Kd.C_drew ?_))); (case side2 => exact HC0.out); rintro e w5 ⟨v1453, rfl, ho0, hb⟩; refine ⟨_, rfl, ?_⟩; have n0_ := Aside0.mk (Kd.R_lower ho0 (below_size (by repeat (first | (with_reducible first | exact HB.out | apply below_alloc | apply pw_below_drewN | apply below_drew1) | exact HB.out)))); have n1_ := Aside0.mk (below_step (by repeat (first | (with_reducible first | exact HB.out | apply below_alloc | apply pw_below_drewN | apply below_drew1) | exact HB.out)) hb); clear HB; have HO1454 := n0_; have HB := n1_; clear n0_ n1_; (try clear hb); (try clear hb2); (try clear hk); (try clear hi); (try clear ho0)) | (at_builtin; refine print_append_str (w0 := w) w.heap.size rfl (.tmp 8) _ 22 9 5 rfl Try.underlying22 Try.underlying9 info5 v1453 t1452 a1 rfl rfl ?aO ?aB ?aS ?aL ?_; (case aB => exact (by repeat (first | (with_reducible first | exact HB.out | apply below_alloc | apply pw_below_drewN | apply below_drew1) | exact HB.out))); (case aO => exact (Kd.own_of_R (by (with_reducible repeat (first | apply Kd.R_alloc | apply Kd.R_drewN | apply Kd.R_drew)); exact HO1454.out))); (case aS => exact (below_size (by repeat (first | (with_reducible first | exact HB.out | apply below_alloc | apply pw_below_drewN | apply below_drew1) | exact HB.out)))); (case aL => have := LMc4.out; omega); intro v1456 w6 ho0 hb hg; have ho := Kd.R_of_own (h1 := fun _ => rfl) (ok := fun _ => True) ho0 (fun _ _ => trivial); clear ho0; have hat := True.intro; rw [← Ny1455.out] at ho; change Kd.R (Kd.int .u8) 5 w6 w.heap.size (fun _ => True) v1456 y1455 at ho; have n0_ := Aside0.mk (hb); have n1_ := Aside0.mk (ho); clear HB; clear HO1454; have HB := n0_; have HO1457 := n1_; clear n0_ n1_; clear ho hb hg hat))
    go_ret
    exact ⟨_, by first | rfl | (simp [errW_none, errW_some] <;> rfl) | (simp [*, errW_none, errW_some] <;> rfl), by (with_reducible repeat (first | apply Kd.R_alloc | apply Kd.R_drewN | apply Kd.R_drew)); exact HO1457.out, by repeat (first | (with_reducible first | exact HB.out | apply below_alloc | apply pw_below_drewN | apply below_drew1) | exact HB.out)⟩
  · rw [if_neg c4] at H
    exact absurd H (by simp)

theorem spec_PutText.is {out : List Int} (s : ByteArray) (hl : out.length + s.size ≤ 80000000) : Ev (fun k => spec_PutText.f k out s) (out ++ pText s) := by
  unfold spec_PutText.f pText
  refine Ev.bind (spec_PutNum.is (s.size : Int) (by omega)) ?_
  have h := pNum_len (s.size : Int)
  refine Ev.yes (by rw [List.length_append]; omega) ?_
  rw [List.append_assoc]
  exact Ev.now _

/-! ### spec_PutNames: function 198 -/
def spec_PutNames.l0 : Nat → List ByteArray → List Int → Int → Option (List Int)
  | 0, _, _, _ => none
  | k + 1, x1, x5, x6 => if x6 < (x1.length : Int) then (if 0 ≤ x6 then ((spec_PutText.f k x5 (rdOf ByteArray.empty x1 x6)).bind fun t1462 => (spec_PutNames.l0 k x1 t1462 (wrap64 (x6 + 1)))) else (none)) else (some x5)
def spec_PutNames.f (k : Nat) (l0 : List Int) (l1 : List ByteArray) : Option (List Int) := (spec_PutNum.f k l0 (l1.length : Int)).bind fun t1458 => (spec_PutNames.l0 k l1 t1458 0)
theorem spec_PutNames.mono_l : ∀ k, (∀ y0 y1 y2, LeO (spec_PutNames.l0 k y0 y1 y2) (spec_PutNames.l0 (k + 1) y0 y1 y2))
  | 0 => fun _ _ _ r h => by simp [spec_PutNames.l0] at h
  | k + 1 => by
    have ih0 := spec_PutNames.mono_l k
    · intro y0 y1 y2
      unfold spec_PutNames.l0
      repeat' first
      | (with_reducible exact ih0 _ _ _)
      | (with_reducible exact spec_PutNum.mono _ _ _)
      | (with_reducible exact spec_PutText.mono _ _ _)
      | (with_reducible exact LeO.refl _)
      | (with_reducible exact LeO.none _)
      | (with_reducible refine LeO.ite ?_ ?_)
      | (with_reducible refine LeO.bind ?_ (fun _ => ?_))
      | exact ih0 _ _ _
      | exact spec_PutNum.mono _ _ _
      | exact spec_PutText.mono _ _ _
      | exact LeO.none _
      | refine LeO.ite ?_ ?_
      | refine LeO.bind ?_ (fun _ => ?_)
theorem spec_PutNames.mono : ∀ a0 a1 k, LeO (spec_PutNames.f k a0 a1) (spec_PutNames.f (k + 1) a0 a1) := by
  intro a0 a1 k
  have ih0 := spec_PutNames.mono_l k
  unfold spec_PutNames.f
  repeat' first
      | (with_reducible exact ih0 _ _ _)
      | (with_reducible exact spec_PutNum.mono _ _ _)
      | (with_reducible exact spec_PutText.mono _ _ _)
      | (with_reducible exact LeO.refl _)
      | (with_reducible exact LeO.none _)
      | (with_reducible refine LeO.ite ?_ ?_)
      | (with_reducible refine LeO.bind ?_ (fun _ => ?_))
      | exact ih0 _ _ _
      | exact spec_PutNum.mono _ _ _
      | exact spec_PutText.mono _ _ _
      | exact LeO.none _
      | refine LeO.ite ?_ ?_
      | refine LeO.bind ?_ (fun _ => ?_)
set_option maxHeartbeats 8000000 in
set_option maxRecDepth 100000 in
theorem spec_PutNames.calls (k : Nat) (A0 : Option Addr) (c0 : Nat) (l0 : List Int) (A1 : Option Addr) (c1 : Nat) (l1 : List ByteArray) (r : List Int) (w : World) (hr0 : Kd.C (Kd.int .u8) w A0 l0.length l0) (hc0 : l0.length ≤ c0) (hr1 : Kd.C Kd.string w A1 l1.length l1) (hc1 : l1.length ≤ c1) (h : spec_PutNames.f k l0 l1 = some r) :
    Calls Try.prog 198 #[.slice A0 l0.length c0, .slice A1 l1.length c1] w fun e w' => ∃ v0_ : Value, e = .returned (v0_) ∧ Kd.R (Kd.int .u8) 5 w' w.heap.size (fun _ => True) v0_ r ∧ Below w.heap.size w w' := by
  have HR0 := Aside0.mk hr0
  have HC0 := Aside0.mk hc0
  clear hr0 hc0
  have HR1 := Aside0.mk hr1
  have HC1 := Aside0.mk hc1
  clear hr1 hc1
  have HB := Aside0.mk (Below.refl w.heap.size w)
  have H : ((spec_PutNum.f k l0 (l1.length : Int)).bind fun t1458 => (spec_PutNames.l0 k l1 t1458 0)) = some r := h
  clear h
  replace H := Option.bind_eq_some_iff.mp H
  obtain ⟨t1458, A30, H⟩ := H
  replace H : (spec_PutNames.l0 k l1 t1458 0) = some r := H
  have A3 := Aside0.mk A30
  clear A30
  have H' := Aside0.mk H
  clear H
  go_enter Try.func198, Try.ntmps198
  go_wp2_with (first | ((with_reducible refine gate_callee (f := 153) rfl ?_); refine goesL_ (some 10) rfl rfl Try.func153 (by kernel_rfl) rfl #[.slice A0 l0.length c0, .int .i64 (l1.length : Int)] rfl (by (try simp only [List.map_toArray, List.map_cons, List.map_nil]); first | done | rfl | (simp only [List.length_drop, List.length_take]; rfl)) ?_; (with_reducible refine (spec_PutNum.calls k _ _ l0 (l1.length : Int) t1458 _ ?side1 ?side2 A3.out).mono ?_); (case side1 => repeat (first | exact HR0.out | (with_reducible refine Kd.C_alloc ?_ _) | (with_reducible refine Kd.C_drewN ?_ _) | (with_reducible refine Kd.C_drew ?_))); (case side2 => exact HC0.out); rintro e w4 ⟨v1459, rfl, ho0, hb⟩; refine ⟨_, rfl, ?_⟩; have n0_ := Aside0.mk (Kd.R_lower ho0 (below_size (by repeat (first | (with_reducible first | exact HB.out | apply below_alloc | apply pw_below_drewN | apply below_drew1) | exact HB.out)))); have n1_ := Aside0.mk (below_step (by repeat (first | (with_reducible first | exact HB.out | apply below_alloc | apply pw_below_drewN | apply below_drew1) | exact HB.out)) hb); clear HB; have HO1460 := n0_; have HB := n1_; clear n0_ n1_; (try clear hb); (try clear hb2); (try clear hk); (try clear hi); (try clear ho0)))
  go_loopg [5, 6] k (fun kq v5 v6 w' => ∃ (x5_1 : List Int) (x6_1 : Int), v6 = .int .i64 x6_1 ∧ Aside0 (spec_PutNames.l0 kq l1 x5_1 x6_1 = some r) ∧ Aside0 (kq ≤ k) ∧ Aside0 (Kd.R (Kd.int .u8) 5 w' w.heap.size (fun _ => True) v5 x5_1) ∧ Aside0 (Below w.heap.size w w'))
  case atStart => exact ⟨(t1458), (0), (by first | rfl | (simp; done) | (simp [*]; done)), H', ⟨Nat.le_refl _⟩, ⟨by (with_reducible repeat (first | apply Kd.R_alloc | apply Kd.R_drewN | apply Kd.R_drew)); exact HO1460.out⟩, ⟨by repeat (first | (with_reducible first | exact HB.out | apply below_alloc | apply pw_below_drewN | apply below_drew1) | exact HB.out)⟩⟩
  case round =>
    clear H'
    try clear c1
    try clear p2
    obtain ⟨x5_1, x6_1, rfl, HA, HK1, HO_5, HB⟩ := hrel
    cases gk with
    | zero => exact absurd HA.out (by simp [spec_PutNames.l0])
    | succ k1 =>
      have H := HA.out
      clear HA
      simp only [spec_PutNames.l0] at H
      by_cases c5 : x6_1 < (l1.length : Int)
      · rw [if_pos c5] at H
        have c5b0 : decide (x6_1 < (l1.length : Int)) = true := decide_eq_true c5
        clear c5
        by_cases c6 : 0 ≤ x6_1
        · rw [if_pos c6] at H
          have c6b0 : decide (0 ≤ x6_1) = true := decide_eq_true c6
          clear c6
          replace H := Option.bind_eq_some_iff.mp H
          obtain ⟨t1462, A70, H⟩ := H
          replace H : (spec_PutNames.l0 k1 l1 t1462 (wrap64 (x6_1 + 1))) = some r := H
          have A7 := Aside0.mk A70
          clear A70
          have H' := Aside0.mk H
          clear H
          have p1461 : 0 ≤ (x6_1 : Int) := of_decide_eq_true (by first | (with_reducible assumption) | assumption)
          have q1461 : x6_1 < (l1.length : Int) := of_decide_eq_true (by first | (with_reducible assumption) | assumption)
          obtain ⟨ad1461, e1461, hx1461_0⟩ := Kd.at_string HR1.out x6_1 p1461 q1461
          cases e1461
          replace hx1461_0 := (HB.out.cell (World.block_lt_of_cell? w _ hx1461_0)).trans hx1461_0
          replace p1461 := eq_true p1461
          replace q1461 := eq_true q1461
          obtain ⟨Ao8, co8, eo8⟩ := Kd.R_slice HO_5.out
          subst eo8
          go_wp2_with (first | ((with_reducible refine gate_callee (f := 152) rfl ?_); refine goesL_ (some 22) rfl rfl Try.func152 (by kernel_rfl) rfl #[.slice Ao8 x5_1.length co8, .string (rdOf ByteArray.empty l1 x6_1)] rfl (by (try simp only [List.map_toArray, List.map_cons, List.map_nil]); first | done | rfl | (simp only [List.length_drop, List.length_take]; rfl)) ?_; (with_reducible refine (spec_PutText.calls k1 _ _ x5_1 (rdOf ByteArray.empty l1 x6_1) t1462 _ ?side1 ?side2 A7.out).mono ?_); (case side1 => repeat (first | exact (Kd.R_reads' HO_5.out).2.2 | (with_reducible refine Kd.C_alloc ?_ _) | (with_reducible refine Kd.C_drewN ?_ _) | (with_reducible refine Kd.C_drew ?_))); (case side2 => exact (Kd.R_reads' HO_5.out).2.1); rintro e w9 ⟨v1463, rfl, ho0, hb⟩; refine ⟨_, rfl, ?_⟩; have n0_ := Aside0.mk (Kd.R_elder' (by (with_reducible repeat (first | apply Kd.R_alloc | apply Kd.R_drewN | apply Kd.R_drew)); exact HO_5.out) (Kd.R_base ho0) hb); have n1_ := Aside0.mk (Kd.R_lower (Kd.R_new' ho0 (Kd.R_lt (by (with_reducible repeat (first | apply Kd.R_alloc | apply Kd.R_drewN | apply Kd.R_drew)); exact HO_5.out))) (below_size (by repeat (first | (with_reducible first | exact HB.out | apply below_alloc | apply pw_below_drewN | apply below_drew1) | exact HB.out)))); have n2_ := Aside0.mk (below_step (by repeat (first | (with_reducible first | exact HB.out | apply below_alloc | apply pw_below_drewN | apply below_drew1) | exact HB.out)) hb); clear HO_5; clear HB; have HO_5 := n0_; have HO1464 := n1_; have HB := n2_; clear n0_ n1_ n2_; (try clear hb); (try clear hb2); (try clear hk); (try clear hi); (try clear ho0)))
          go_roundg k1
          case measure => have := HK1.out; omega
          case rel => exact ⟨(t1462), (wrap64 (x6_1 + 1)), (by first | rfl | (simp; done) | (simp [*]; done)), H', ⟨by have := HK1.out; omega⟩, ⟨by (with_reducible repeat (first | apply Kd.R_alloc | apply Kd.R_drewN | apply Kd.R_drew)); exact Kd.R_mono HO1464.out (fun _ hk => trivial)⟩, ⟨by repeat (first | (with_reducible first | exact HB.out | apply below_alloc | apply pw_below_drewN | apply below_drew1) | exact HB.out)⟩⟩
        · rw [if_neg c6] at H
          exact absurd H (by simp)
      · rw [if_neg c5] at H
        have c5b0 : decide (x6_1 < (l1.length : Int)) = false := decide_eq_false c5
        clear c5
        obtain rfl := Option.some.inj H
        go_wp2
        go_ret
        exact ⟨_, by first | rfl | (simp [errW_none, errW_some] <;> rfl) | (simp [*, errW_none, errW_some] <;> rfl), by (with_reducible repeat (first | apply Kd.R_alloc | apply Kd.R_drewN | apply Kd.R_drew)); exact HO_5.out, by repeat (first | (with_reducible first | exact HB.out | apply below_alloc | apply pw_below_drewN | apply below_drew1) | exact HB.out)⟩

theorem spec_PutNames.is {out : List Int} {l : List ByteArray} (hl : out.length + (pNames l).length ≤ 70000000) (hn : l.length ≤ 1048576) : Ev (fun k => spec_PutNames.f k out l) (out ++ pNames l) := by
  unfold pNames at hl
  rw [List.length_append] at hl
  have hp : ∀ s : ByteArray, s.size ≤ (pText s).length := fun s => by unfold pText; rw [List.length_append, bytesOf_length]; omega
  unfold spec_PutNames.f pNames
  refine Ev.bind (spec_PutNum.is (l.length : Int) (by omega)) ?_
  rw [← List.append_assoc]
  generalize hq : out ++ pNum (l.length : Int) = o at *
  have ho : o.length + (l.flatMap pText).length ≤ 70000000 := by rw [← hq, List.length_append]; omega
  refine ev_app (xs := l) pText (fun k x i => spec_PutNames.l0 k l x i) (o ++ l.flatMap pText) o ?_ (fun pre y ys x hx he ih => ?_)
  · simp only [spec_PutNames.l0]
    exact Ev.no (by omega) (Ev.now _)
  · have hlen := len_app hx
    have hrd : rdOf ByteArray.empty l (pre.length : Int) = y := by rw [hx]; exact at_app pre y ys _
    have hx2 : x.length + ((pText y).length + (ys.flatMap pText).length) = o.length + (l.flatMap pText).length := by
      have := congrArg List.length he
      simp only [List.length_append] at this
      omega
    have hy := hp y
    simp only [spec_PutNames.l0, hrd]
    refine Ev.yes (by omega) (Ev.yes (by omega) (Ev.bind (spec_PutText.is y (by omega)) ?_))
    rw [unw (x := (pre.length : Int) + 1) (by omega) (by omega)]
    exact ih

/-! ### spec_l9PutTc: function 154 -/
def spec_l9PutTc.l0 : Nat → List Int → Int → Int → List ByteArray → List Int → Option (List Int)
  | 0, _, _, _, _, _ => none
  | k + 1, x0, x5, x1466000, x1466001, x1466002 => if x5 < (x1466002.length : Int) then (if 0 ≤ x5 then ((spec_PutNum.f k x0 (rd x1466002 x5)).bind fun t1473 => (spec_l9PutTc.l0 k t1473 (wrap64 (x5 + 1)) x1466000 x1466001 x1466002)) else (none)) else (some x0)
def spec_l9PutTc.f (k : Nat) (l0 : List Int) (a1_0 : Int) (l1_1 : List ByteArray) (l1_2 : List Int) : Option (List Int) := (spec_PutNum.f k l0 a1_0).bind fun t1466 => ((spec_PutNames.f k t1466 l1_1).bind fun t1469 => (spec_l9PutTc.l0 k t1469 0 a1_0 l1_1 l1_2))
theorem spec_l9PutTc.mono_l : ∀ k, (∀ y0 y1 y2 y3 y4, LeO (spec_l9PutTc.l0 k y0 y1 y2 y3 y4) (spec_l9PutTc.l0 (k + 1) y0 y1 y2 y3 y4))
  | 0 => fun _ _ _ _ _ r h => by simp [spec_l9PutTc.l0] at h
  | k + 1 => by
    have ih0 := spec_l9PutTc.mono_l k
    · intro y0 y1 y2 y3 y4
      unfold spec_l9PutTc.l0
      repeat' first
      | (with_reducible exact ih0 _ _ _ _ _)
      | (with_reducible exact spec_PutNames.mono _ _ _)
      | (with_reducible exact spec_PutNum.mono _ _ _)
      | (with_reducible exact LeO.refl _)
      | (with_reducible exact LeO.none _)
      | (with_reducible refine LeO.ite ?_ ?_)
      | (with_reducible refine LeO.bind ?_ (fun _ => ?_))
      | exact ih0 _ _ _ _ _
      | exact spec_PutNames.mono _ _ _
      | exact spec_PutNum.mono _ _ _
      | exact LeO.none _
      | refine LeO.ite ?_ ?_
      | refine LeO.bind ?_ (fun _ => ?_)
theorem spec_l9PutTc.mono : ∀ a0 a1 a2 a3 k, LeO (spec_l9PutTc.f k a0 a1 a2 a3) (spec_l9PutTc.f (k + 1) a0 a1 a2 a3) := by
  intro a0 a1 a2 a3 k
  have ih0 := spec_l9PutTc.mono_l k
  unfold spec_l9PutTc.f
  repeat' first
      | (with_reducible exact ih0 _ _ _ _ _)
      | (with_reducible exact spec_PutNames.mono _ _ _)
      | (with_reducible exact spec_PutNum.mono _ _ _)
      | (with_reducible exact LeO.refl _)
      | (with_reducible exact LeO.none _)
      | (with_reducible refine LeO.ite ?_ ?_)
      | (with_reducible refine LeO.bind ?_ (fun _ => ?_))
      | exact ih0 _ _ _ _ _
      | exact spec_PutNames.mono _ _ _
      | exact spec_PutNum.mono _ _ _
      | exact LeO.none _
      | refine LeO.ite ?_ ?_
      | refine LeO.bind ?_ (fun _ => ?_)
def spec_l9PutTc.T1 : Bool × List (List Nat × List Nat) := (true, [([], []), ([], []), ([1], [1]), ([0, 2], [0, 2]), ([], []), ([4], [4]), ([3, 5, 3], [3, 5]), ([6, 6, 0, 1, 2, 3, 4, 5, 6], [0, 6])])
def spec_l9PutTc.B1 : List Nat := [0, 0, 2, 7, 0, 16, 63, 127]
theorem spec_l9PutTc.tab1 : rtab .any (opsOf Try.f154 1) = spec_l9PutTc.T1 := by kernel_rfl
theorem spec_l9PutTc.bits1 : waitsOk spec_l9PutTc.T1.2 spec_l9PutTc.B1 = true := by kernel_rfl
set_option maxHeartbeats 8000000 in
set_option maxRecDepth 100000 in
theorem spec_l9PutTc.calls (k : Nat) (A0 : Option Addr) (c0 : Nat) (l0 : List Int) (a1_0 : Int) (A1_1 : Option Addr) (c1_1 : Nat) (l1_1 : List ByteArray) (A1_2 : Option Addr) (c1_2 : Nat) (l1_2 : List Int) (r : List Int) (w : World) (hr0 : Kd.C (Kd.int .u8) w A0 l0.length l0) (hc0 : l0.length ≤ c0) (hr1_1 : Kd.C Kd.string w A1_1 l1_1.length l1_1) (hc1_1 : l1_1.length ≤ c1_1) (hr1_2 : Kd.C (Kd.int .i64) w A1_2 l1_2.length l1_2) (hc1_2 : l1_2.length ≤ c1_2) (h : spec_l9PutTc.f k l0 a1_0 l1_1 l1_2 = some r) :
    Calls Try.prog 154 #[.slice A0 l0.length c0, .agg #[.int .i64 a1_0, .slice A1_1 l1_1.length c1_1, .slice A1_2 l1_2.length c1_2]] w fun e w' => ∃ v0_ : Value, e = .returned (v0_) ∧ Kd.R (Kd.int .u8) 5 w' w.heap.size (fun _ => True) v0_ r ∧ Below w.heap.size w w' := by
  have hu60 := Try.underlying60
  have HR0 := Aside0.mk hr0
  have HC0 := Aside0.mk hc0
  clear hr0 hc0
  have HR1_1 := Aside0.mk hr1_1
  have HC1_1 := Aside0.mk hc1_1
  clear hr1_1 hc1_1
  have HR1_2 := Aside0.mk hr1_2
  have HC1_2 := Aside0.mk hc1_2
  clear hr1_2 hc1_2
  have HB := Aside0.mk (Below.refl w.heap.size w)
  have H : ((spec_PutNum.f k l0 a1_0).bind fun t1466 => ((spec_PutNames.f k t1466 l1_1).bind fun t1469 => (spec_l9PutTc.l0 k t1469 0 a1_0 l1_1 l1_2))) = some r := h
  clear h
  replace H := Option.bind_eq_some_iff.mp H
  obtain ⟨t1466, A30, H⟩ := H
  replace H : ((spec_PutNames.f k t1466 l1_1).bind fun t1469 => (spec_l9PutTc.l0 k t1469 0 a1_0 l1_1 l1_2)) = some r := H
  have A3 := Aside0.mk A30
  clear A30
  replace H := Option.bind_eq_some_iff.mp H
  obtain ⟨t1469, A40, H⟩ := H
  replace H : (spec_l9PutTc.l0 k t1469 0 a1_0 l1_1 l1_2) = some r := H
  have A4 := Aside0.mk A40
  clear A40
  have H' := Aside0.mk H
  clear H
  go_enter Try.func154, Try.ntmps154
  try go_wp2_with (first | ((with_reducible refine gate_dst (N := 3) rfl ?_); refine box_event ?hg (N := 3) ?hd (cs := #[.int .i64 a1_0, .slice A1_1 l1_1.length c1_1, .slice A1_2 l1_2.length c1_2]) (t := 60) ?hr ?_; (case hd => rfl); (case hg => rfl); (case hr => first | (go_simp; done) | (go_simp; rfl)); intro gb1465 hg w5 hbox hb; have n0_ := Aside0.mk (below_step (by repeat (first | (with_reducible first | exact HB.out | apply below_alloc | apply pw_below_drewN | apply below_drew1) | exact HB.out)) hb); have n1_ := Aside0.mk (hbox); have n2_ := Aside0.mk ((by rw [hg]; exact (below_size (by repeat (first | (with_reducible first | exact HB.out | apply below_alloc | apply pw_below_drewN | apply below_drew1) | exact HB.out))) : w.heap.size ≤ gb1465)); have n3_ := n2_; clear HB; have HB := n0_; have BK1465 := n1_; have GW1465 := n2_; have GE1465 := n3_; clear n0_ n1_ n2_ n3_; clear hb hbox hg))
  have n0_ := Aside0.mk (blk_drew BK1465.out)
  have n1_ := Aside0.mk (below_drew1 HB.out)
  clear BK1465
  clear HB
  have BK1465 := n0_
  have HB := n1_
  clear n0_ n1_
  refine start_ (n := 8) (S := fun w' => w'.cell? ⟨gb1465, 0, none⟩ = some (.int .i64 a1_0) ∧ w'.cell? ⟨gb1465, 1, none⟩ = some (.slice A1_1 l1_1.length c1_1) ∧ w'.cell? ⟨gb1465, 2, none⟩ = some (.slice A1_2 l1_2.length c1_2)) (ds := []) #[false, false, false, false, false, false, false, false] (by kernel_rfl) rfl rfl ⟨(blk_cell BK1465.out 0).trans rfl, (blk_cell BK1465.out 1).trans rfl, (blk_cell BK1465.out 2).trans rfl⟩ (fun hHeld => ?_); refine with_tabW spec_l9PutTc.tab1 spec_l9PutTc.bits1 (fun HT_ HW_ => ?_)
  generalize w5.drew = w6 at BK1465 HB hHeld ⊢
  refine pure_ (i := 0) (N := some 6) (v := ?_) (a' := ?_) #[true, false, false, false, false, false, false, false] rfl rfl (any_of HT_.out (by kernel_rfl)) (fun _ _ _ h => h) (Or.inl ⟨by rfl, ?_⟩) ?_ ?_
  rotate_left
  · intro w'
    go_simp
    with_reducible rfl
  rotate_left
  · simp only [Act.put, List.setIfInBounds_toArray, List.set_cons_zero, List.set_cons_succ, i64_w, i32_w]
    rfl
  refine pure_ (i := 1) (N := some 7) (v := ?_) (a' := ?_) #[true, true, false, false, false, false, false, false] rfl rfl (any_of HT_.out (by kernel_rfl)) (fun _ _ _ h => h) (Or.inl ⟨by rfl, ?_⟩) ?_ ?_
  rotate_left
  · intro w'
    go_simp
    with_reducible rfl
  rotate_left
  · simp only [Act.put, List.setIfInBounds_toArray, List.set_cons_zero, List.set_cons_succ, i64_w, i32_w]
    rfl
  refine pure_ (i := 4) (N := some 10) (v := ?_) (a' := ?_) #[true, true, false, false, true, false, false, false] rfl rfl (any_of HT_.out (by kernel_rfl)) (fun _ _ _ h => h) (Or.inl ⟨by rfl, ?_⟩) ?_ ?_
  rotate_left
  · intro w'
    go_simp
    with_reducible rfl
  rotate_left
  · simp only [Act.put, List.setIfInBounds_toArray, List.set_cons_zero, List.set_cons_succ, i64_w, i32_w]
    rfl
  refine take_ (i := 2) (N := some 8) (v := ?_) (a' := ?_) #[true, true, true, false, true, false, false, false] rfl rfl (take_ofW HT_.out HW_.out (by kernel_rfl)) (fun _ _ _ h => h) (Or.inl ⟨by rfl, ?_⟩) hHeld ?_ ?_
  rotate_left
  · rintro w' ⟨s0, s1, s2⟩
    go_simp
    with_reducible rfl
  rotate_left
  · simp only [Act.put, List.setIfInBounds_toArray, List.set_cons_zero, List.set_cons_succ, i64_w, i32_w]
    rfl
  refine take_ (i := 5) (N := some 11) (v := ?_) (a' := ?_) #[true, true, true, false, true, true, false, false] rfl rfl (take_ofW HT_.out HW_.out (by kernel_rfl)) (fun _ _ _ h => h) (Or.inl ⟨by rfl, ?_⟩) hHeld ?_ ?_
  rotate_left
  · rintro w' ⟨s0, s1, s2⟩
    go_simp
    with_reducible rfl
  rotate_left
  · simp only [Act.put, List.setIfInBounds_toArray, List.set_cons_zero, List.set_cons_succ, i64_w, i32_w]
    rfl
  refine one_ (i := 3) (N := some 9) #[true, true, true, true, true, true, false, false] rfl rfl (one_of HT_.out (by kernel_rfl)) (by decide) (fun K hK => ?_)
  refine goes_ Try.func153 (by kernel_rfl) rfl #[.slice A0 l0.length c0, .int .i64 a1_0] (by rfl) rfl rfl (by (try simp only [List.map_toArray, List.map_cons, List.map_nil]); first | done | rfl | (simp only [List.length_drop, List.length_take]; rfl)) ?_
  with_reducible refine (spec_PutNum.calls k _ _ l0 a1_0 t1466 _ ?side1 ?side2 A3.out).mono ?_
  (case side1 => repeat (first | exact (Kd.C_below HR0.out HB.out) | (with_reducible refine Kd.C_alloc ?_ _) | (with_reducible refine Kd.C_drewN ?_ _) | (with_reducible refine Kd.C_drew ?_)))
  (case side2 => exact HC0.out)
  rintro e w7 ⟨v1467, rfl, ho0, hb⟩
  refine ⟨_, rfl, ?_⟩
  have n0_ := Aside0.mk (Kd.R_lower ho0 (below_size (by repeat (first | (with_reducible first | exact HB.out | apply below_alloc | apply pw_below_drewN | apply below_drew1 | refine below_set ?_ GE1465.out) | exact HB.out))))
  have n1_ := Aside0.mk (blk_below (g := gb1465) (by (with_reducible repeat (first | refine blk_drewN ?_ _ | refine blk_drew ?_ | refine blk_alloc ?_ _)); exact BK1465.out) hb)
  have n2_ := Aside0.mk (below_step (by repeat (first | (with_reducible first | exact HB.out | apply below_alloc | apply pw_below_drewN | apply below_drew1 | refine below_set ?_ GE1465.out) | exact HB.out)) hb)
  clear BK1465
  clear HB
  have HO1468 := n0_
  have BK1465 := n1_
  have HB := n2_
  clear n0_ n1_ n2_
  (try clear hb)
  (try clear hb2)
  (try clear hk)
  (try clear hi)
  (try clear ho0)
  obtain ⟨Ao8, co8, eo8⟩ := Kd.R_slice HO1468.out
  (first | subst eo8 | (injection eo8 with f1_ f2_ f3_; have f4_ := f1_.symm; have f5_ := f3_.symm; clear f1_ f2_ f3_; subst f4_; subst f5_))
  refine hK.out _ _ ⟨(blk_cell BK1465.out 0).trans rfl, (blk_cell BK1465.out 1).trans rfl, (blk_cell BK1465.out 2).trans rfl⟩ (fun hHeld => ?_)
  clear hK K
  refine norm_ (a' := ?_) ?_ ?_
  rotate_left
  · show Act.put _ (some 9) _ = _
    simp only [Act.put, List.setIfInBounds_toArray, List.set_cons_zero, List.set_cons_succ, i64_w, i32_w]
    rfl
  refine one_ (i := 6) (N := some 12) #[true, true, true, true, true, true, true, false] rfl rfl (one_of HT_.out (by kernel_rfl)) (by decide) (fun K hK => ?_)
  refine goes_ Try.func198 (by kernel_rfl) rfl #[.slice Ao8 t1466.length co8, .slice A1_1 l1_1.length c1_1] (by rfl) rfl rfl (by (try simp only [List.map_toArray, List.map_cons, List.map_nil]); first | done | rfl | (simp only [List.length_drop, List.length_take]; rfl)) ?_
  with_reducible refine (spec_PutNames.calls k _ _ t1466 _ _ l1_1 t1469 _ ?side1 ?side2 ?side3 ?side4 A4.out).mono ?_
  (case side1 => repeat (first | exact (Kd.R_reads' HO1468.out).2.2 | (with_reducible refine Kd.C_alloc ?_ _) | (with_reducible refine Kd.C_drewN ?_ _) | (with_reducible refine Kd.C_drew ?_)))
  (case side2 => exact (Kd.R_reads' HO1468.out).2.1)
  (case side3 => repeat (first | exact (Kd.C_below HR1_1.out HB.out) | (with_reducible refine Kd.C_alloc ?_ _) | (with_reducible refine Kd.C_drewN ?_ _) | (with_reducible refine Kd.C_drew ?_)))
  (case side4 => exact HC1_1.out)
  rintro e w9 ⟨v1470, rfl, ho0, hb⟩
  refine ⟨_, rfl, ?_⟩
  have n0_ := Aside0.mk (Kd.R_elder' (by (with_reducible repeat (first | apply Kd.R_alloc | apply Kd.R_drewN | apply Kd.R_drew)); exact HO1468.out) (Kd.R_base ho0) hb)
  have n1_ := Aside0.mk (Kd.R_lower (Kd.R_new' ho0 (Kd.R_lt (by (with_reducible repeat (first | apply Kd.R_alloc | apply Kd.R_drewN | apply Kd.R_drew)); exact HO1468.out))) (below_size (by repeat (first | (with_reducible first | exact HB.out | apply below_alloc | apply pw_below_drewN | apply below_drew1 | refine below_set ?_ GE1465.out) | exact HB.out))))
  have n2_ := Aside0.mk (blk_below (g := gb1465) (by (with_reducible repeat (first | refine blk_drewN ?_ _ | refine blk_drew ?_ | refine blk_alloc ?_ _)); exact BK1465.out) hb)
  have n3_ := Aside0.mk (below_step (by repeat (first | (with_reducible first | exact HB.out | apply below_alloc | apply pw_below_drewN | apply below_drew1 | refine below_set ?_ GE1465.out) | exact HB.out)) hb)
  clear HO1468
  clear BK1465
  clear HB
  have HO1468 := n0_
  have HO1471 := n1_
  have BK1465 := n2_
  have HB := n3_
  clear n0_ n1_ n2_ n3_
  (try clear hb)
  (try clear hb2)
  (try clear hk)
  (try clear hi)
  (try clear ho0)
  refine hK.out _ _ ⟨(blk_cell BK1465.out 0).trans rfl, (blk_cell BK1465.out 1).trans rfl, (blk_cell BK1465.out 2).trans rfl⟩ (fun hHeld => ?_)
  clear hK K
  refine norm_ (a' := ?_) ?_ ?_
  rotate_left
  · show Act.put _ (some 12) _ = _
    simp only [Act.put, List.setIfInBounds_toArray, List.set_cons_zero, List.set_cons_succ, i64_w, i32_w]
    rfl
  refine pure_ (i := 7) (N := some 0) (v := ?_) (a' := ?_) #[true, true, true, true, true, true, true, true] rfl rfl (any_of HT_.out (by kernel_rfl)) (fun _ _ _ h => h) (Or.inl ⟨by rfl, ?_⟩) ?_ ?_
  rotate_left
  · intro w'
    go_simp
    with_reducible rfl
  rotate_left
  · simp only [Act.put, List.setIfInBounds_toArray, List.set_cons_zero, List.set_cons_succ, i64_w, i32_w]
    rfl
  refine done_ (done_of HT_.out (by kernel_rfl)) ?_
  try go_wp2
  go_loopg [0, 5] k (fun kq v0 v5 w' => ∃ (x0_1 : List Int) (x5_1 : Int), v5 = .int .i64 x5_1 ∧ Aside0 (spec_l9PutTc.l0 kq x0_1 x5_1 a1_0 l1_1 l1_2 = some r) ∧ Aside0 (kq ≤ k) ∧ Aside0 (Kd.R (Kd.int .u8) 5 w' w.heap.size (fun _ => True) v0 x0_1) ∧ Aside0 (w'.heap[gb1465]? = some (.cells #[.int .i64 a1_0, (.slice A1_1 l1_1.length c1_1), (.slice A1_2 l1_2.length c1_2)] 60 (0, 0))) ∧ Aside0 (Below w.heap.size w w'))
  case atStart => exact ⟨(t1469), (0), (by first | rfl | (simp; done) | (simp [*]; done)), H', ⟨Nat.le_refl _⟩, ⟨by (with_reducible repeat (first | apply Kd.R_alloc | apply Kd.R_drewN | apply Kd.R_drew)); exact Kd.R_mono HO1471.out (fun _ hk => trivial)⟩, ⟨by (with_reducible repeat (first | refine blk_drewN ?_ _ | refine blk_drew ?_ | refine blk_alloc ?_ _)); exact BK1465.out⟩, ⟨by repeat (first | (with_reducible first | exact HB.out | apply below_alloc | apply pw_below_drewN | apply below_drew1 | refine below_set ?_ GE1465.out) | exact HB.out)⟩⟩
  case round =>
    clear H'
    try clear c1
    try clear p2
    obtain ⟨x0_1, x5_1, rfl, HA, HK1, HO_0, BK1465, HB⟩ := hrel
    cases gk with
    | zero => exact absurd HA.out (by simp [spec_l9PutTc.l0])
    | succ k1 =>
      have H := HA.out
      clear HA
      simp only [spec_l9PutTc.l0] at H
      by_cases c10 : x5_1 < (l1_2.length : Int)
      · rw [if_pos c10] at H
        have c10b0 : decide (x5_1 < (l1_2.length : Int)) = true := decide_eq_true c10
        clear c10
        by_cases c11 : 0 ≤ x5_1
        · rw [if_pos c11] at H
          have c11b0 : decide (0 ≤ x5_1) = true := decide_eq_true c11
          clear c11
          replace H := Option.bind_eq_some_iff.mp H
          obtain ⟨t1473, A120, H⟩ := H
          replace H : (spec_l9PutTc.l0 k1 t1473 (wrap64 (x5_1 + 1)) a1_0 l1_1 l1_2) = some r := H
          have A12 := Aside0.mk A120
          clear A120
          have H' := Aside0.mk H
          clear H
          obtain ⟨hcz13_0, hcz13_1, hcz13_2⟩ := cells3 BK1465.out
          obtain ⟨hfz13_0, hfz13_1, hfz13_2⟩ := frozens3 BK1465.out
          have p1472 : 0 ≤ (x5_1 : Int) := of_decide_eq_true (by first | (with_reducible assumption) | assumption)
          have q1472 : x5_1 < (l1_2.length : Int) := of_decide_eq_true (by first | (with_reducible assumption) | assumption)
          obtain ⟨ad1472, e1472, hx1472_0⟩ := Kd.at_int HR1_2.out x5_1 p1472 q1472
          cases e1472
          replace hx1472_0 := (HB.out.cell (World.block_lt_of_cell? w _ hx1472_0)).trans hx1472_0
          replace p1472 := eq_true p1472
          replace q1472 := eq_true q1472
          obtain ⟨Ao14, co14, eo14⟩ := Kd.R_slice HO_0.out
          subst eo14
          go_wp2_with (first | ((with_reducible refine gate_callee (f := 153) rfl ?_); refine goesL_ (some 26) rfl rfl Try.func153 (by kernel_rfl) rfl #[.slice Ao14 x0_1.length co14, .int .i64 (rd l1_2 x5_1)] rfl (by (try simp only [List.map_toArray, List.map_cons, List.map_nil]); first | done | rfl | (simp only [List.length_drop, List.length_take]; rfl)) ?_; (with_reducible refine (spec_PutNum.calls k1 _ _ x0_1 (rd l1_2 x5_1) t1473 _ ?side1 ?side2 A12.out).mono ?_); (case side1 => repeat (first | exact (Kd.R_reads' HO_0.out).2.2 | (with_reducible refine Kd.C_alloc ?_ _) | (with_reducible refine Kd.C_drewN ?_ _) | (with_reducible refine Kd.C_drew ?_))); (case side2 => exact (Kd.R_reads' HO_0.out).2.1); rintro e w15 ⟨v1474, rfl, ho0, hb⟩; refine ⟨_, rfl, ?_⟩; have n0_ := Aside0.mk (Kd.R_elder' (by (with_reducible repeat (first | apply Kd.R_alloc | apply Kd.R_drewN | apply Kd.R_drew)); exact HO_0.out) (Kd.R_base ho0) hb); have n1_ := Aside0.mk (Kd.R_lower (Kd.R_new' ho0 (Kd.R_lt (by (with_reducible repeat (first | apply Kd.R_alloc | apply Kd.R_drewN | apply Kd.R_drew)); exact HO_0.out))) (below_size (by repeat (first | (with_reducible first | exact HB.out | apply below_alloc | apply pw_below_drewN | apply below_drew1 | refine below_set ?_ GE1465.out) | exact HB.out)))); have n2_ := Aside0.mk (blk_below (g := gb1465) (by (with_reducible repeat (first | refine blk_drewN ?_ _ | refine blk_drew ?_ | refine blk_alloc ?_ _)); exact BK1465.out) hb); have n3_ := Aside0.mk (below_step (by repeat (first | (with_reducible first | exact HB.out | apply below_alloc | apply pw_below_drewN | apply below_drew1 | refine below_set ?_ GE1465.out) | exact HB.out)) hb); clear HO_0; clear BK1465; clear HB; have HO_0 := n0_; have HO1475 := n1_; have BK1465 := n2_; have HB := n3_; clear n0_ n1_ n2_ n3_; (try clear hb); (try clear hb2); (try clear hk); (try clear hi); (try clear ho0)))
          go_roundg k1
          case measure => have := HK1.out; omega
          case rel => exact ⟨(t1473), (wrap64 (x5_1 + 1)), (by first | rfl | (simp; done) | (simp [*]; done)), H', ⟨by have := HK1.out; omega⟩, ⟨by (with_reducible repeat (first | apply Kd.R_alloc | apply Kd.R_drewN | apply Kd.R_drew)); exact Kd.R_mono HO1475.out (fun _ hk => trivial)⟩, ⟨by (with_reducible repeat (first | refine blk_drewN ?_ _ | refine blk_drew ?_ | refine blk_alloc ?_ _)); exact BK1465.out⟩, ⟨by repeat (first | (with_reducible first | exact HB.out | apply below_alloc | apply pw_below_drewN | apply below_drew1 | refine below_set ?_ GE1465.out) | exact HB.out)⟩⟩
        · rw [if_neg c11] at H
          exact absurd H (by simp)
      · rw [if_neg c10] at H
        have c10b0 : decide (x5_1 < (l1_2.length : Int)) = false := decide_eq_false c10
        clear c10
        obtain rfl := Option.some.inj H
        obtain ⟨hcz16_0, hcz16_1, hcz16_2⟩ := cells3 BK1465.out
        obtain ⟨hfz16_0, hfz16_1, hfz16_2⟩ := frozens3 BK1465.out
        go_wp2
        go_ret
        exact ⟨_, by first | rfl | (simp [errW_none, errW_some] <;> rfl) | (simp [*, errW_none, errW_some] <;> rfl), by (with_reducible repeat (first | apply Kd.R_alloc | apply Kd.R_drewN | apply Kd.R_drew)); exact HO_0.out, by repeat (first | (with_reducible first | exact HB.out | apply below_alloc | apply pw_below_drewN | apply below_drew1 | refine below_set ?_ GE1465.out) | exact HB.out)⟩

theorem spec_l9PutTc.is {out : List Int} (r : Int) {who : List ByteArray} {hs : List Int} (hl : out.length + (pTc r who hs).length ≤ 60000000) (hn : who.length ≤ 1048576) (hh : hs.length ≤ 1048576) : Ev (fun k => spec_l9PutTc.f k out r who hs) (out ++ pTc r who hs) := by
  unfold pTc at hl
  simp only [List.length_append] at hl
  unfold spec_l9PutTc.f pTc
  refine Ev.bind (spec_PutNum.is r (by omega)) (Ev.bind (spec_PutNames.is (l := who) (by simp only [List.length_append]; omega) hn) ?_)
  rw [show out ++ (pNum r ++ (pNames who ++ hs.flatMap pNum)) = ((out ++ pNum r) ++ pNames who) ++ hs.flatMap pNum by simp only [List.append_assoc]]
  generalize hq : (out ++ pNum r) ++ pNames who = o at *
  have ho : o.length + (hs.flatMap pNum).length ≤ 60000000 := by rw [← hq]; simp only [List.length_append]; omega
  refine ev_app (xs := hs) pNum (fun k x i => spec_l9PutTc.l0 k x i r who hs) (o ++ hs.flatMap pNum) o ?_ (fun pre y ys x hx he ih => ?_)
  · simp only [spec_l9PutTc.l0]
    exact Ev.no (by omega) (Ev.now _)
  · have hlen := len_app hx
    have hrd : rd hs (pre.length : Int) = y := by rw [hx]; exact at_app pre y ys _
    have hx2 : x.length + ((pNum y).length + (ys.flatMap pNum).length) = o.length + (hs.flatMap pNum).length := by
      have := congrArg List.length he
      simp only [List.length_append] at this
      omega
    simp only [spec_l9PutTc.l0, hrd]
    refine Ev.yes (by omega) (Ev.yes (by omega) (Ev.bind (spec_PutNum.is y (by omega)) ?_))
    rw [unw (x := (pre.length : Int) + 1) (by omega) (by omega)]
    exact ih

/-! ### spec_l9PutQc: function 155 -/
def spec_l9PutQc.f (k : Nat) (l0 : List Int) (a1_0 : Int) (a1_1 : Int) (l1_2 : List ByteArray) : Option (List Int) := (spec_PutNum.f k l0 a1_0).bind fun t1477 => ((spec_PutNum.f k t1477 a1_1).bind fun t1480 => ((spec_PutNames.f k t1480 l1_2).bind fun t1483 => (some t1483)))
theorem spec_l9PutQc.mono : ∀ a0 a1 a2 a3 k, LeO (spec_l9PutQc.f k a0 a1 a2 a3) (spec_l9PutQc.f (k + 1) a0 a1 a2 a3) := by
  intro a0 a1 a2 a3 k
  unfold spec_l9PutQc.f
  repeat' first
      | (with_reducible exact spec_PutNames.mono _ _ _)
      | (with_reducible exact spec_PutNum.mono _ _ _)
      | (with_reducible exact LeO.refl _)
      | (with_reducible exact LeO.none _)
      | (with_reducible refine LeO.ite ?_ ?_)
      | (with_reducible refine LeO.bind ?_ (fun _ => ?_))
      | exact spec_PutNames.mono _ _ _
      | exact spec_PutNum.mono _ _ _
      | exact LeO.none _
      | refine LeO.ite ?_ ?_
      | refine LeO.bind ?_ (fun _ => ?_)
def spec_l9PutQc.T1 : Bool × List (List Nat × List Nat) := (true, [([], []), ([], []), ([1], [1]), ([0, 2], [0, 2]), ([], []), ([4], [4]), ([3, 5, 3], [3, 5]), ([], []), ([7], [7]), ([6, 8, 6], [6, 8]), ([9, 9, 0, 1, 2, 3, 4, 5, 6, 7, 8, 9], [9])])
def spec_l9PutQc.B1 : List Nat := [0, 0, 2, 7, 0, 16, 63, 0, 128, 511, 1023]
theorem spec_l9PutQc.tab1 : rtab .any (opsOf Try.f155 1) = spec_l9PutQc.T1 := by kernel_rfl
theorem spec_l9PutQc.bits1 : waitsOk spec_l9PutQc.T1.2 spec_l9PutQc.B1 = true := by kernel_rfl
set_option maxHeartbeats 8000000 in
set_option maxRecDepth 100000 in
theorem spec_l9PutQc.calls (k : Nat) (A0 : Option Addr) (c0 : Nat) (l0 : List Int) (a1_0 : Int) (a1_1 : Int) (A1_2 : Option Addr) (c1_2 : Nat) (l1_2 : List ByteArray) (r : List Int) (w : World) (hr0 : Kd.C (Kd.int .u8) w A0 l0.length l0) (hc0 : l0.length ≤ c0) (hr1_2 : Kd.C Kd.string w A1_2 l1_2.length l1_2) (hc1_2 : l1_2.length ≤ c1_2) (h : spec_l9PutQc.f k l0 a1_0 a1_1 l1_2 = some r) :
    Calls Try.prog 155 #[.slice A0 l0.length c0, .agg #[.int .i64 a1_0, .int .i64 a1_1, .slice A1_2 l1_2.length c1_2]] w fun e w' => ∃ v0_ : Value, e = .returned (v0_) ∧ Kd.R (Kd.int .u8) 5 w' w.heap.size (fun _ => True) v0_ r ∧ Below w.heap.size w w' := by
  have hu49 := Try.underlying49
  have HR0 := Aside0.mk hr0
  have HC0 := Aside0.mk hc0
  clear hr0 hc0
  have HR1_2 := Aside0.mk hr1_2
  have HC1_2 := Aside0.mk hc1_2
  clear hr1_2 hc1_2
  have HB := Aside0.mk (Below.refl w.heap.size w)
  have H : ((spec_PutNum.f k l0 a1_0).bind fun t1477 => ((spec_PutNum.f k t1477 a1_1).bind fun t1480 => ((spec_PutNames.f k t1480 l1_2).bind fun t1483 => (some t1483)))) = some r := h
  clear h
  replace H := Option.bind_eq_some_iff.mp H
  obtain ⟨t1477, A30, H⟩ := H
  replace H : ((spec_PutNum.f k t1477 a1_1).bind fun t1480 => ((spec_PutNames.f k t1480 l1_2).bind fun t1483 => (some t1483))) = some r := H
  have A3 := Aside0.mk A30
  clear A30
  replace H := Option.bind_eq_some_iff.mp H
  obtain ⟨t1480, A40, H⟩ := H
  replace H : ((spec_PutNames.f k t1480 l1_2).bind fun t1483 => (some t1483)) = some r := H
  have A4 := Aside0.mk A40
  clear A40
  replace H := Option.bind_eq_some_iff.mp H
  obtain ⟨t1483, A50, H⟩ := H
  replace H : (some t1483) = some r := H
  have A5 := Aside0.mk A50
  clear A50
  obtain rfl := Option.some.inj H
  go_enter Try.func155, Try.ntmps155
  try go_wp2_with (first | ((with_reducible refine gate_dst (N := 3) rfl ?_); refine box_event ?hg (N := 3) ?hd (cs := #[.int .i64 a1_0, .int .i64 a1_1, .slice A1_2 l1_2.length c1_2]) (t := 49) ?hr ?_; (case hd => rfl); (case hg => rfl); (case hr => first | (go_simp; done) | (go_simp; rfl)); intro gb1476 hg w6 hbox hb; have n0_ := Aside0.mk (below_step (by repeat (first | (with_reducible first | exact HB.out | apply below_alloc | apply pw_below_drewN | apply below_drew1) | exact HB.out)) hb); have n1_ := Aside0.mk (hbox); have n2_ := Aside0.mk ((by rw [hg]; exact (below_size (by repeat (first | (with_reducible first | exact HB.out | apply below_alloc | apply pw_below_drewN | apply below_drew1) | exact HB.out))) : w.heap.size ≤ gb1476)); have n3_ := n2_; clear HB; have HB := n0_; have BK1476 := n1_; have GW1476 := n2_; have GE1476 := n3_; clear n0_ n1_ n2_ n3_; clear hb hbox hg))
  have n0_ := Aside0.mk (blk_drew BK1476.out)
  have n1_ := Aside0.mk (below_drew1 HB.out)
  clear BK1476
  clear HB
  have BK1476 := n0_
  have HB := n1_
  clear n0_ n1_
  refine start_ (n := 11) (S := fun w' => w'.cell? ⟨gb1476, 0, none⟩ = some (.int .i64 a1_0) ∧ w'.cell? ⟨gb1476, 1, none⟩ = some (.int .i64 a1_1) ∧ w'.cell? ⟨gb1476, 2, none⟩ = some (.slice A1_2 l1_2.length c1_2)) (ds := []) #[false, false, false, false, false, false, false, false, false, false, false] (by kernel_rfl) rfl rfl ⟨(blk_cell BK1476.out 0).trans rfl, (blk_cell BK1476.out 1).trans rfl, (blk_cell BK1476.out 2).trans rfl⟩ (fun hHeld => ?_); refine with_tabW spec_l9PutQc.tab1 spec_l9PutQc.bits1 (fun HT_ HW_ => ?_)
  generalize w6.drew = w7 at BK1476 HB hHeld ⊢
  refine pure_ (i := 0) (N := some 5) (v := ?_) (a' := ?_) #[true, false, false, false, false, false, false, false, false, false, false] rfl rfl (any_of HT_.out (by kernel_rfl)) (fun _ _ _ h => h) (Or.inl ⟨by rfl, ?_⟩) ?_ ?_
  rotate_left
  · intro w'
    go_simp
    with_reducible rfl
  rotate_left
  · simp only [Act.put, List.setIfInBounds_toArray, List.set_cons_zero, List.set_cons_succ, i64_w, i32_w]
    rfl
  refine pure_ (i := 1) (N := some 6) (v := ?_) (a' := ?_) #[true, true, false, false, false, false, false, false, false, false, false] rfl rfl (any_of HT_.out (by kernel_rfl)) (fun _ _ _ h => h) (Or.inl ⟨by rfl, ?_⟩) ?_ ?_
  rotate_left
  · intro w'
    go_simp
    with_reducible rfl
  rotate_left
  · simp only [Act.put, List.setIfInBounds_toArray, List.set_cons_zero, List.set_cons_succ, i64_w, i32_w]
    rfl
  refine pure_ (i := 4) (N := some 9) (v := ?_) (a' := ?_) #[true, true, false, false, true, false, false, false, false, false, false] rfl rfl (any_of HT_.out (by kernel_rfl)) (fun _ _ _ h => h) (Or.inl ⟨by rfl, ?_⟩) ?_ ?_
  rotate_left
  · intro w'
    go_simp
    with_reducible rfl
  rotate_left
  · simp only [Act.put, List.setIfInBounds_toArray, List.set_cons_zero, List.set_cons_succ, i64_w, i32_w]
    rfl
  refine pure_ (i := 7) (N := some 12) (v := ?_) (a' := ?_) #[true, true, false, false, true, false, false, true, false, false, false] rfl rfl (any_of HT_.out (by kernel_rfl)) (fun _ _ _ h => h) (Or.inl ⟨by rfl, ?_⟩) ?_ ?_
  rotate_left
  · intro w'
    go_simp
    with_reducible rfl
  rotate_left
  · simp only [Act.put, List.setIfInBounds_toArray, List.set_cons_zero, List.set_cons_succ, i64_w, i32_w]
    rfl
  refine take_ (i := 2) (N := some 7) (v := ?_) (a' := ?_) #[true, true, true, false, true, false, false, true, false, false, false] rfl rfl (take_ofW HT_.out HW_.out (by kernel_rfl)) (fun _ _ _ h => h) (Or.inl ⟨by rfl, ?_⟩) hHeld ?_ ?_
  rotate_left
  · rintro w' ⟨s0, s1, s2⟩
    go_simp
    with_reducible rfl
  rotate_left
  · simp only [Act.put, List.setIfInBounds_toArray, List.set_cons_zero, List.set_cons_succ, i64_w, i32_w]
    rfl
  refine take_ (i := 5) (N := some 10) (v := ?_) (a' := ?_) #[true, true, true, false, true, true, false, true, false, false, false] rfl rfl (take_ofW HT_.out HW_.out (by kernel_rfl)) (fun _ _ _ h => h) (Or.inl ⟨by rfl, ?_⟩) hHeld ?_ ?_
  rotate_left
  · rintro w' ⟨s0, s1, s2⟩
    go_simp
    with_reducible rfl
  rotate_left
  · simp only [Act.put, List.setIfInBounds_toArray, List.set_cons_zero, List.set_cons_succ, i64_w, i32_w]
    rfl
  refine take_ (i := 8) (N := some 13) (v := ?_) (a' := ?_) #[true, true, true, false, true, true, false, true, true, false, false] rfl rfl (take_ofW HT_.out HW_.out (by kernel_rfl)) (fun _ _ _ h => h) (Or.inl ⟨by rfl, ?_⟩) hHeld ?_ ?_
  rotate_left
  · rintro w' ⟨s0, s1, s2⟩
    go_simp
    with_reducible rfl
  rotate_left
  · simp only [Act.put, List.setIfInBounds_toArray, List.set_cons_zero, List.set_cons_succ, i64_w, i32_w]
    rfl
  refine one_ (i := 3) (N := some 8) #[true, true, true, true, true, true, false, true, true, false, false] rfl rfl (one_of HT_.out (by kernel_rfl)) (by decide) (fun K hK => ?_)
  refine goes_ Try.func153 (by kernel_rfl) rfl #[.slice A0 l0.length c0, .int .i64 a1_0] (by rfl) rfl rfl (by (try simp only [List.map_toArray, List.map_cons, List.map_nil]); first | done | rfl | (simp only [List.length_drop, List.length_take]; rfl)) ?_
  with_reducible refine (spec_PutNum.calls k _ _ l0 a1_0 t1477 _ ?side1 ?side2 A3.out).mono ?_
  (case side1 => repeat (first | exact (Kd.C_below HR0.out HB.out) | (with_reducible refine Kd.C_alloc ?_ _) | (with_reducible refine Kd.C_drewN ?_ _) | (with_reducible refine Kd.C_drew ?_)))
  (case side2 => exact HC0.out)
  rintro e w8 ⟨v1478, rfl, ho0, hb⟩
  refine ⟨_, rfl, ?_⟩
  have n0_ := Aside0.mk (Kd.R_lower ho0 (below_size (by repeat (first | (with_reducible first | exact HB.out | apply below_alloc | apply pw_below_drewN | apply below_drew1 | refine below_set ?_ GE1476.out) | exact HB.out))))
  have n1_ := Aside0.mk (blk_below (g := gb1476) (by (with_reducible repeat (first | refine blk_drewN ?_ _ | refine blk_drew ?_ | refine blk_alloc ?_ _)); exact BK1476.out) hb)
  have n2_ := Aside0.mk (below_step (by repeat (first | (with_reducible first | exact HB.out | apply below_alloc | apply pw_below_drewN | apply below_drew1 | refine below_set ?_ GE1476.out) | exact HB.out)) hb)
  clear BK1476
  clear HB
  have HO1479 := n0_
  have BK1476 := n1_
  have HB := n2_
  clear n0_ n1_ n2_
  (try clear hb)
  (try clear hb2)
  (try clear hk)
  (try clear hi)
  (try clear ho0)
  obtain ⟨Ao9, co9, eo9⟩ := Kd.R_slice HO1479.out
  (first | subst eo9 | (injection eo9 with f1_ f2_ f3_; have f4_ := f1_.symm; have f5_ := f3_.symm; clear f1_ f2_ f3_; subst f4_; subst f5_))
  refine hK.out _ _ ⟨(blk_cell BK1476.out 0).trans rfl, (blk_cell BK1476.out 1).trans rfl, (blk_cell BK1476.out 2).trans rfl⟩ (fun hHeld => ?_)
  clear hK K
  refine norm_ (a' := ?_) ?_ ?_
  rotate_left
  · show Act.put _ (some 8) _ = _
    simp only [Act.put, List.setIfInBounds_toArray, List.set_cons_zero, List.set_cons_succ, i64_w, i32_w]
    rfl
  refine one_ (i := 6) (N := some 11) #[true, true, true, true, true, true, true, true, true, false, false] rfl rfl (one_of HT_.out (by kernel_rfl)) (by decide) (fun K hK => ?_)
  refine goes_ Try.func153 (by kernel_rfl) rfl #[.slice Ao9 t1477.length co9, .int .i64 a1_1] (by rfl) rfl rfl (by (try simp only [List.map_toArray, List.map_cons, List.map_nil]); first | done | rfl | (simp only [List.length_drop, List.length_take]; rfl)) ?_
  with_reducible refine (spec_PutNum.calls k _ _ t1477 a1_1 t1480 _ ?side1 ?side2 A4.out).mono ?_
  (case side1 => repeat (first | exact (Kd.R_reads' HO1479.out).2.2 | (with_reducible refine Kd.C_alloc ?_ _) | (with_reducible refine Kd.C_drewN ?_ _) | (with_reducible refine Kd.C_drew ?_)))
  (case side2 => exact (Kd.R_reads' HO1479.out).2.1)
  rintro e w10 ⟨v1481, rfl, ho0, hb⟩
  refine ⟨_, rfl, ?_⟩
  have n0_ := Aside0.mk (Kd.R_elder' (by (with_reducible repeat (first | apply Kd.R_alloc | apply Kd.R_drewN | apply Kd.R_drew)); exact HO1479.out) (Kd.R_base ho0) hb)
  have n1_ := Aside0.mk (Kd.R_lower (Kd.R_new' ho0 (Kd.R_lt (by (with_reducible repeat (first | apply Kd.R_alloc | apply Kd.R_drewN | apply Kd.R_drew)); exact HO1479.out))) (below_size (by repeat (first | (with_reducible first | exact HB.out | apply below_alloc | apply pw_below_drewN | apply below_drew1 | refine below_set ?_ GE1476.out) | exact HB.out))))
  have n2_ := Aside0.mk (blk_below (g := gb1476) (by (with_reducible repeat (first | refine blk_drewN ?_ _ | refine blk_drew ?_ | refine blk_alloc ?_ _)); exact BK1476.out) hb)
  have n3_ := Aside0.mk (below_step (by repeat (first | (with_reducible first | exact HB.out | apply below_alloc | apply pw_below_drewN | apply below_drew1 | refine below_set ?_ GE1476.out) | exact HB.out)) hb)
  clear HO1479
  clear BK1476
  clear HB
  have HO1479 := n0_
  have HO1482 := n1_
  have BK1476 := n2_
  have HB := n3_
  clear n0_ n1_ n2_ n3_
  (try clear hb)
  (try clear hb2)
  (try clear hk)
  (try clear hi)
  (try clear ho0)
  obtain ⟨Ao11, co11, eo11⟩ := Kd.R_slice HO1482.out
  (first | subst eo11 | (injection eo11 with f1_ f2_ f3_; have f4_ := f1_.symm; have f5_ := f3_.symm; clear f1_ f2_ f3_; subst f4_; subst f5_))
  refine hK.out _ _ ⟨(blk_cell BK1476.out 0).trans rfl, (blk_cell BK1476.out 1).trans rfl, (blk_cell BK1476.out 2).trans rfl⟩ (fun hHeld => ?_)
  clear hK K
  refine norm_ (a' := ?_) ?_ ?_
  rotate_left
  · show Act.put _ (some 11) _ = _
    simp only [Act.put, List.setIfInBounds_toArray, List.set_cons_zero, List.set_cons_succ, i64_w, i32_w]
    rfl
  refine one_ (i := 9) (N := some 14) #[true, true, true, true, true, true, true, true, true, true, false] rfl rfl (one_of HT_.out (by kernel_rfl)) (by decide) (fun K hK => ?_)
  refine goes_ Try.func198 (by kernel_rfl) rfl #[.slice Ao11 t1480.length co11, .slice A1_2 l1_2.length c1_2] (by rfl) rfl rfl (by (try simp only [List.map_toArray, List.map_cons, List.map_nil]); first | done | rfl | (simp only [List.length_drop, List.length_take]; rfl)) ?_
  with_reducible refine (spec_PutNames.calls k _ _ t1480 _ _ l1_2 t1483 _ ?side1 ?side2 ?side3 ?side4 A5.out).mono ?_
  (case side1 => repeat (first | exact (Kd.R_reads' HO1482.out).2.2 | (with_reducible refine Kd.C_alloc ?_ _) | (with_reducible refine Kd.C_drewN ?_ _) | (with_reducible refine Kd.C_drew ?_)))
  (case side2 => exact (Kd.R_reads' HO1482.out).2.1)
  (case side3 => repeat (first | exact (Kd.C_below HR1_2.out HB.out) | (with_reducible refine Kd.C_alloc ?_ _) | (with_reducible refine Kd.C_drewN ?_ _) | (with_reducible refine Kd.C_drew ?_)))
  (case side4 => exact HC1_2.out)
  rintro e w12 ⟨v1484, rfl, ho0, hb⟩
  refine ⟨_, rfl, ?_⟩
  have n0_ := Aside0.mk (Kd.R_elder' (by (with_reducible repeat (first | apply Kd.R_alloc | apply Kd.R_drewN | apply Kd.R_drew)); exact HO1479.out) (Kd.R_base ho0) hb)
  have n1_ := Aside0.mk (Kd.R_elder' (by (with_reducible repeat (first | apply Kd.R_alloc | apply Kd.R_drewN | apply Kd.R_drew)); exact HO1482.out) (Kd.R_base ho0) hb)
  have n2_ := Aside0.mk (Kd.R_lower (Kd.R_new' (Kd.R_new' ho0 (Kd.R_lt (by (with_reducible repeat (first | apply Kd.R_alloc | apply Kd.R_drewN | apply Kd.R_drew)); exact HO1479.out))) (Kd.R_lt (by (with_reducible repeat (first | apply Kd.R_alloc | apply Kd.R_drewN | apply Kd.R_drew)); exact HO1482.out))) (below_size (by repeat (first | (with_reducible first | exact HB.out | apply below_alloc | apply pw_below_drewN | apply below_drew1 | refine below_set ?_ GE1476.out) | exact HB.out))))
  have n3_ := Aside0.mk (blk_below (g := gb1476) (by (with_reducible repeat (first | refine blk_drewN ?_ _ | refine blk_drew ?_ | refine blk_alloc ?_ _)); exact BK1476.out) hb)
  have n4_ := Aside0.mk (below_step (by repeat (first | (with_reducible first | exact HB.out | apply below_alloc | apply pw_below_drewN | apply below_drew1 | refine below_set ?_ GE1476.out) | exact HB.out)) hb)
  clear HO1479
  clear HO1482
  clear BK1476
  clear HB
  have HO1479 := n0_
  have HO1482 := n1_
  have HO1485 := n2_
  have BK1476 := n3_
  have HB := n4_
  clear n0_ n1_ n2_ n3_ n4_
  (try clear hb)
  (try clear hb2)
  (try clear hk)
  (try clear hi)
  (try clear ho0)
  refine hK.out _ _ ⟨(blk_cell BK1476.out 0).trans rfl, (blk_cell BK1476.out 1).trans rfl, (blk_cell BK1476.out 2).trans rfl⟩ (fun hHeld => ?_)
  clear hK K
  refine norm_ (a' := ?_) ?_ ?_
  rotate_left
  · show Act.put _ (some 14) _ = _
    simp only [Act.put, List.setIfInBounds_toArray, List.set_cons_zero, List.set_cons_succ, i64_w, i32_w]
    rfl
  refine pure_ (i := 10) (N := some 4) (v := ?_) (a' := ?_) #[true, true, true, true, true, true, true, true, true, true, true] rfl rfl (any_of HT_.out (by kernel_rfl)) (fun _ _ _ h => h) (Or.inl ⟨by rfl, ?_⟩) ?_ ?_
  rotate_left
  · intro w'
    go_simp
    with_reducible rfl
  rotate_left
  · simp only [Act.put, List.setIfInBounds_toArray, List.set_cons_zero, List.set_cons_succ, i64_w, i32_w]
    rfl
  refine done_ (done_of HT_.out (by kernel_rfl)) ?_
  try go_wp2
  go_ret
  exact ⟨_, by first | rfl | (simp [errW_none, errW_some] <;> rfl) | (simp [*, errW_none, errW_some] <;> rfl), by (with_reducible repeat (first | apply Kd.R_alloc | apply Kd.R_drewN | apply Kd.R_drew)); exact Kd.R_mono HO1485.out (fun _ hk => trivial), by repeat (first | (with_reducible first | exact HB.out | apply below_alloc | apply pw_below_drewN | apply below_drew1 | refine below_set ?_ GE1476.out) | exact HB.out)⟩

theorem spec_l9PutQc.is {out : List Int} (r b : Int) {who : List ByteArray} (hl : out.length + (pQc r b who).length ≤ 60000000) (hn : who.length ≤ 1048576) : Ev (fun k => spec_l9PutQc.f k out r b who) (out ++ pQc r b who) := by
  unfold pQc at hl
  simp only [List.length_append] at hl
  unfold spec_l9PutQc.f pQc
  refine Ev.bind (spec_PutNum.is r (by omega)) (Ev.bind (spec_PutNum.is b (by simp only [List.length_append]; omega)) (Ev.bind (spec_PutNames.is (l := who) (by simp only [List.length_append]; omega) hn) ?_))
  exact Ev.is (by simp only [List.append_assoc])

/-! ### spec_l5Put: function 156 -/
def spec_l5Put.f (k : Nat) (l0 : List Int) (a1_0 : Int) (a1_1 : ByteArray) (a1_2 : ByteArray) (a1_3 : Int) (a1_4 : Int) : Option (List Int) := (spec_PutNum.f k l0 a1_0).bind fun t1487 => ((spec_PutText.f k t1487 a1_1).bind fun t1490 => ((spec_PutText.f k t1490 a1_2).bind fun t1493 => ((spec_PutNum.f k t1493 a1_3).bind fun t1496 => ((spec_PutNum.f k t1496 a1_4).bind fun t1499 => (some t1499)))))
theorem spec_l5Put.mono : ∀ a0 a1 a2 a3 a4 a5 k, LeO (spec_l5Put.f k a0 a1 a2 a3 a4 a5) (spec_l5Put.f (k + 1) a0 a1 a2 a3 a4 a5) := by
  intro a0 a1 a2 a3 a4 a5 k
  unfold spec_l5Put.f
  repeat' first
      | (with_reducible exact spec_PutNum.mono _ _ _)
      | (with_reducible exact spec_PutText.mono _ _ _)
      | (with_reducible exact LeO.refl _)
      | (with_reducible exact LeO.none _)
      | (with_reducible refine LeO.ite ?_ ?_)
      | (with_reducible refine LeO.bind ?_ (fun _ => ?_))
      | exact spec_PutNum.mono _ _ _
      | exact spec_PutText.mono _ _ _
      | exact LeO.none _
      | refine LeO.ite ?_ ?_
      | refine LeO.bind ?_ (fun _ => ?_)
def spec_l5Put.T1 : Bool × List (List Nat × List Nat) := (true, [([], []), ([], []), ([1], [1]), ([0, 2], [0, 2]), ([], []), ([4], [4]), ([3, 5, 3], [3, 5]), ([], []), ([7], [7]), ([6, 8, 6], [6, 8]), ([], []), ([10], [10]), ([9, 11, 9], [9, 11]), ([], []), ([13], [13]), ([12, 14, 12], [12, 14]), ([15, 15, 0, 1, 2, 3, 4, 5, 6, 7, 8, 9, 10, 11, 12, 13, 14, 15], [15])])
def spec_l5Put.B1 : List Nat := [0, 0, 2, 7, 0, 16, 63, 0, 128, 511, 0, 1024, 4095, 0, 8192, 32767, 65535]
theorem spec_l5Put.tab1 : rtab .any (opsOf Try.f156 1) = spec_l5Put.T1 := by kernel_rfl
theorem spec_l5Put.bits1 : waitsOk spec_l5Put.T1.2 spec_l5Put.B1 = true := by kernel_rfl
set_option maxHeartbeats 8000000 in
set_option maxRecDepth 100000 in
theorem spec_l5Put.calls (k : Nat) (A0 : Option Addr) (c0 : Nat) (l0 : List Int) (a1_0 : Int) (a1_1 : ByteArray) (a1_2 : ByteArray) (a1_3 : Int) (a1_4 : Int) (r : List Int) (w : World) (hr0 : Kd.C (Kd.int .u8) w A0 l0.length l0) (hc0 : l0.length ≤ c0) (h : spec_l5Put.f k l0 a1_0 a1_1 a1_2 a1_3 a1_4 = some r) :
    Calls Try.prog 156 #[.slice A0 l0.length c0, .agg #[.int .i64 a1_0, .string a1_1, .string a1_2, .int .i64 a1_3, .int .i64 a1_4]] w fun e w' => ∃ v0_ : Value, e = .returned (v0_) ∧ Kd.R (Kd.int .u8) 5 w' w.heap.size (fun _ => True) v0_ r ∧ Below w.heap.size w w' := by
  have hu186 := Try.underlying186
  have HR0 := Aside0.mk hr0
  have HC0 := Aside0.mk hc0
  clear hr0 hc0
  have HB := Aside0.mk (Below.refl w.heap.size w)
  have H : ((spec_PutNum.f k l0 a1_0).bind fun t1487 => ((spec_PutText.f k t1487 a1_1).bind fun t1490 => ((spec_PutText.f k t1490 a1_2).bind fun t1493 => ((spec_PutNum.f k t1493 a1_3).bind fun t1496 => ((spec_PutNum.f k t1496 a1_4).bind fun t1499 => (some t1499)))))) = some r := h
  clear h
  replace H := Option.bind_eq_some_iff.mp H
  obtain ⟨t1487, A30, H⟩ := H
  replace H : ((spec_PutText.f k t1487 a1_1).bind fun t1490 => ((spec_PutText.f k t1490 a1_2).bind fun t1493 => ((spec_PutNum.f k t1493 a1_3).bind fun t1496 => ((spec_PutNum.f k t1496 a1_4).bind fun t1499 => (some t1499))))) = some r := H
  have A3 := Aside0.mk A30
  clear A30
  replace H := Option.bind_eq_some_iff.mp H
  obtain ⟨t1490, A40, H⟩ := H
  replace H : ((spec_PutText.f k t1490 a1_2).bind fun t1493 => ((spec_PutNum.f k t1493 a1_3).bind fun t1496 => ((spec_PutNum.f k t1496 a1_4).bind fun t1499 => (some t1499)))) = some r := H
  have A4 := Aside0.mk A40
  clear A40
  replace H := Option.bind_eq_some_iff.mp H
  obtain ⟨t1493, A50, H⟩ := H
  replace H : ((spec_PutNum.f k t1493 a1_3).bind fun t1496 => ((spec_PutNum.f k t1496 a1_4).bind fun t1499 => (some t1499))) = some r := H
  have A5 := Aside0.mk A50
  clear A50
  replace H := Option.bind_eq_some_iff.mp H
  obtain ⟨t1496, A60, H⟩ := H
  replace H : ((spec_PutNum.f k t1496 a1_4).bind fun t1499 => (some t1499)) = some r := H
  have A6 := Aside0.mk A60
  clear A60
  replace H := Option.bind_eq_some_iff.mp H
  obtain ⟨t1499, A70, H⟩ := H
  replace H : (some t1499) = some r := H
  have A7 := Aside0.mk A70
  clear A70
  obtain rfl := Option.some.inj H
  go_enter Try.func156, Try.ntmps156
  try go_wp2_with (first | ((with_reducible refine gate_dst (N := 3) rfl ?_); refine box_event ?hg (N := 3) ?hd (cs := #[.int .i64 a1_0, .string a1_1, .string a1_2, .int .i64 a1_3, .int .i64 a1_4]) (t := 186) ?hr ?_; (case hd => rfl); (case hg => rfl); (case hr => first | (go_simp; done) | (go_simp; rfl)); intro gb1486 hg w8 hbox hb; have n0_ := Aside0.mk (below_step (by repeat (first | (with_reducible first | exact HB.out | apply below_alloc | apply pw_below_drewN | apply below_drew1) | exact HB.out)) hb); have n1_ := Aside0.mk (hbox); have n2_ := Aside0.mk ((by rw [hg]; exact (below_size (by repeat (first | (with_reducible first | exact HB.out | apply below_alloc | apply pw_below_drewN | apply below_drew1) | exact HB.out))) : w.heap.size ≤ gb1486)); have n3_ := n2_; clear HB; have HB := n0_; have BK1486 := n1_; have GW1486 := n2_; have GE1486 := n3_; clear n0_ n1_ n2_ n3_; clear hb hbox hg))
  have n0_ := Aside0.mk (blk_drew BK1486.out)
  have n1_ := Aside0.mk (below_drew1 HB.out)
  clear BK1486
  clear HB
  have BK1486 := n0_
  have HB := n1_
  clear n0_ n1_
  refine start_ (n := 17) (S := fun w' => w'.cell? ⟨gb1486, 0, none⟩ = some (.int .i64 a1_0) ∧ w'.cell? ⟨gb1486, 1, none⟩ = some (.string a1_1) ∧ w'.cell? ⟨gb1486, 2, none⟩ = some (.string a1_2) ∧ w'.cell? ⟨gb1486, 3, none⟩ = some (.int .i64 a1_3) ∧ w'.cell? ⟨gb1486, 4, none⟩ = some (.int .i64 a1_4)) (ds := []) #[false, false, false, false, false, false, false, false, false, false, false, false, false, false, false, false, false] (by kernel_rfl) rfl rfl ⟨(blk_cell BK1486.out 0).trans rfl, (blk_cell BK1486.out 1).trans rfl, (blk_cell BK1486.out 2).trans rfl, (blk_cell BK1486.out 3).trans rfl, (blk_cell BK1486.out 4).trans rfl⟩ (fun hHeld => ?_); refine with_tabW spec_l5Put.tab1 spec_l5Put.bits1 (fun HT_ HW_ => ?_)
  generalize w8.drew = w9 at BK1486 HB hHeld ⊢
  refine pure_ (i := 0) (N := some 5) (v := ?_) (a' := ?_) #[true, false, false, false, false, false, false, false, false, false, false, false, false, false, false, false, false] rfl rfl (any_of HT_.out (by kernel_rfl)) (fun _ _ _ h => h) (Or.inl ⟨by rfl, ?_⟩) ?_ ?_
  rotate_left
  · intro w'
    go_simp
    with_reducible rfl
  rotate_left
  · simp only [Act.put, List.setIfInBounds_toArray, List.set_cons_zero, List.set_cons_succ, i64_w, i32_w]
    rfl
  refine pure_ (i := 1) (N := some 6) (v := ?_) (a' := ?_) #[true, true, false, false, false, false, false, false, false, false, false, false, false, false, false, false, false] rfl rfl (any_of HT_.out (by kernel_rfl)) (fun _ _ _ h => h) (Or.inl ⟨by rfl, ?_⟩) ?_ ?_
  rotate_left
  · intro w'
    go_simp
    with_reducible rfl
  rotate_left
  · simp only [Act.put, List.setIfInBounds_toArray, List.set_cons_zero, List.set_cons_succ, i64_w, i32_w]
    rfl
  refine pure_ (i := 4) (N := some 9) (v := ?_) (a' := ?_) #[true, true, false, false, true, false, false, false, false, false, false, false, false, false, false, false, false] rfl rfl (any_of HT_.out (by kernel_rfl)) (fun _ _ _ h => h) (Or.inl ⟨by rfl, ?_⟩) ?_ ?_
  rotate_left
  · intro w'
    go_simp
    with_reducible rfl
  rotate_left
  · simp only [Act.put, List.setIfInBounds_toArray, List.set_cons_zero, List.set_cons_succ, i64_w, i32_w]
    rfl
  refine pure_ (i := 7) (N := some 12) (v := ?_) (a' := ?_) #[true, true, false, false, true, false, false, true, false, false, false, false, false, false, false, false, false] rfl rfl (any_of HT_.out (by kernel_rfl)) (fun _ _ _ h => h) (Or.inl ⟨by rfl, ?_⟩) ?_ ?_
  rotate_left
  · intro w'
    go_simp
    with_reducible rfl
  rotate_left
  · simp only [Act.put, List.setIfInBounds_toArray, List.set_cons_zero, List.set_cons_succ, i64_w, i32_w]
    rfl
  refine pure_ (i := 10) (N := some 15) (v := ?_) (a' := ?_) #[true, true, false, false, true, false, false, true, false, false, true, false, false, false, false, false, false] rfl rfl (any_of HT_.out (by kernel_rfl)) (fun _ _ _ h => h) (Or.inl ⟨by rfl, ?_⟩) ?_ ?_
  rotate_left
  · intro w'
    go_simp
    with_reducible rfl
  rotate_left
  · simp only [Act.put, List.setIfInBounds_toArray, List.set_cons_zero, List.set_cons_succ, i64_w, i32_w]
    rfl
  refine pure_ (i := 13) (N := some 18) (v := ?_) (a' := ?_) #[true, true, false, false, true, false, false, true, false, false, true, false, false, true, false, false, false] rfl rfl (any_of HT_.out (by kernel_rfl)) (fun _ _ _ h => h) (Or.inl ⟨by rfl, ?_⟩) ?_ ?_
  rotate_left
  · intro w'
    go_simp
    with_reducible rfl
  rotate_left
  · simp only [Act.put, List.setIfInBounds_toArray, List.set_cons_zero, List.set_cons_succ, i64_w, i32_w]
    rfl
  refine take_ (i := 2) (N := some 7) (v := ?_) (a' := ?_) #[true, true, true, false, true, false, false, true, false, false, true, false, false, true, false, false, false] rfl rfl (take_ofW HT_.out HW_.out (by kernel_rfl)) (fun _ _ _ h => h) (Or.inl ⟨by rfl, ?_⟩) hHeld ?_ ?_
  rotate_left
  · rintro w' ⟨s0, s1, s2, s3, s4⟩
    go_simp
    with_reducible rfl
  rotate_left
  · simp only [Act.put, List.setIfInBounds_toArray, List.set_cons_zero, List.set_cons_succ, i64_w, i32_w]
    rfl
  refine take_ (i := 5) (N := some 10) (v := ?_) (a' := ?_) #[true, true, true, false, true, true, false, true, false, false, true, false, false, true, false, false, false] rfl rfl (take_ofW HT_.out HW_.out (by kernel_rfl)) (fun _ _ _ h => h) (Or.inl ⟨by rfl, ?_⟩) hHeld ?_ ?_
  rotate_left
  · rintro w' ⟨s0, s1, s2, s3, s4⟩
    go_simp
    with_reducible rfl
  rotate_left
  · simp only [Act.put, List.setIfInBounds_toArray, List.set_cons_zero, List.set_cons_succ, i64_w, i32_w]
    rfl
  refine take_ (i := 8) (N := some 13) (v := ?_) (a' := ?_) #[true, true, true, false, true, true, false, true, true, false, true, false, false, true, false, false, false] rfl rfl (take_ofW HT_.out HW_.out (by kernel_rfl)) (fun _ _ _ h => h) (Or.inl ⟨by rfl, ?_⟩) hHeld ?_ ?_
  rotate_left
  · rintro w' ⟨s0, s1, s2, s3, s4⟩
    go_simp
    with_reducible rfl
  rotate_left
  · simp only [Act.put, List.setIfInBounds_toArray, List.set_cons_zero, List.set_cons_succ, i64_w, i32_w]
    rfl
  refine take_ (i := 11) (N := some 16) (v := ?_) (a' := ?_) #[true, true, true, false, true, true, false, true, true, false, true, true, false, true, false, false, false] rfl rfl (take_ofW HT_.out HW_.out (by kernel_rfl)) (fun _ _ _ h => h) (Or.inl ⟨by rfl, ?_⟩) hHeld ?_ ?_
  rotate_left
  · rintro w' ⟨s0, s1, s2, s3, s4⟩
    go_simp
    with_reducible rfl
  rotate_left
  · simp only [Act.put, List.setIfInBounds_toArray, List.set_cons_zero, List.set_cons_succ, i64_w, i32_w]
    rfl
  refine take_ (i := 14) (N := some 19) (v := ?_) (a' := ?_) #[true, true, true, false, true, true, false, true, true, false, true, true, false, true, true, false, false] rfl rfl (take_ofW HT_.out HW_.out (by kernel_rfl)) (fun _ _ _ h => h) (Or.inl ⟨by rfl, ?_⟩) hHeld ?_ ?_
  rotate_left
  · rintro w' ⟨s0, s1, s2, s3, s4⟩
    go_simp
    with_reducible rfl
  rotate_left
  · simp only [Act.put, List.setIfInBounds_toArray, List.set_cons_zero, List.set_cons_succ, i64_w, i32_w]
    rfl
  refine one_ (i := 3) (N := some 8) #[true, true, true, true, true, true, false, true, true, false, true, true, false, true, true, false, false] rfl rfl (one_of HT_.out (by kernel_rfl)) (by decide) (fun K hK => ?_)
  refine goes_ Try.func153 (by kernel_rfl) rfl #[.slice A0 l0.length c0, .int .i64 a1_0] (by rfl) rfl rfl (by (try simp only [List.map_toArray, List.map_cons, List.map_nil]); first | done | rfl | (simp only [List.length_drop, List.length_take]; rfl)) ?_
  with_reducible refine (spec_PutNum.calls k _ _ l0 a1_0 t1487 _ ?side1 ?side2 A3.out).mono ?_
  (case side1 => repeat (first | exact (Kd.C_below HR0.out HB.out) | (with_reducible refine Kd.C_alloc ?_ _) | (with_reducible refine Kd.C_drewN ?_ _) | (with_reducible refine Kd.C_drew ?_)))
  (case side2 => exact HC0.out)
  rintro e w10 ⟨v1488, rfl, ho0, hb⟩
  refine ⟨_, rfl, ?_⟩
  have n0_ := Aside0.mk (Kd.R_lower ho0 (below_size (by repeat (first | (with_reducible first | exact HB.out | apply below_alloc | apply pw_below_drewN | apply below_drew1 | refine below_set ?_ GE1486.out) | exact HB.out))))
  have n1_ := Aside0.mk (blk_below (g := gb1486) (by (with_reducible repeat (first | refine blk_drewN ?_ _ | refine blk_drew ?_ | refine blk_alloc ?_ _)); exact BK1486.out) hb)
  have n2_ := Aside0.mk (below_step (by repeat (first | (with_reducible first | exact HB.out | apply below_alloc | apply pw_below_drewN | apply below_drew1 | refine below_set ?_ GE1486.out) | exact HB.out)) hb)
  clear BK1486
  clear HB
  have HO1489 := n0_
  have BK1486 := n1_
  have HB := n2_
  clear n0_ n1_ n2_
  (try clear hb)
  (try clear hb2)
  (try clear hk)
  (try clear hi)
  (try clear ho0)
  obtain ⟨Ao11, co11, eo11⟩ := Kd.R_slice HO1489.out
  (first | subst eo11 | (injection eo11 with f1_ f2_ f3_; have f4_ := f1_.symm; have f5_ := f3_.symm; clear f1_ f2_ f3_; subst f4_; subst f5_))
  refine hK.out _ _ ⟨(blk_cell BK1486.out 0).trans rfl, (blk_cell BK1486.out 1).trans rfl, (blk_cell BK1486.out 2).trans rfl, (blk_cell BK1486.out 3).trans rfl, (blk_cell BK1486.out 4).trans rfl⟩ (fun hHeld => ?_)
  clear hK K
  refine norm_ (a' := ?_) ?_ ?_
  rotate_left
  · show Act.put _ (some 8) _ = _
    simp only [Act.put, List.setIfInBounds_toArray, List.set_cons_zero, List.set_cons_succ, i64_w, i32_w]
    rfl
  refine one_ (i := 6) (N := some 11) #[true, true, true, true, true, true, true, true, true, false, true, true, false, true, true, false, false] rfl rfl (one_of HT_.out (by kernel_rfl)) (by decide) (fun K hK => ?_)
  refine goes_ Try.func152 (by kernel_rfl) rfl #[.slice Ao11 t1487.length co11, .string a1_1] (by rfl) rfl rfl (by (try simp only [List.map_toArray, List.map_cons, List.map_nil]); first | done | rfl | (simp only [List.length_drop, List.length_take]; rfl)) ?_
  with_reducible refine (spec_PutText.calls k _ _ t1487 a1_1 t1490 _ ?side1 ?side2 A4.out).mono ?_
  (case side1 => repeat (first | exact (Kd.R_reads' HO1489.out).2.2 | (with_reducible refine Kd.C_alloc ?_ _) | (with_reducible refine Kd.C_drewN ?_ _) | (with_reducible refine Kd.C_drew ?_)))
  (case side2 => exact (Kd.R_reads' HO1489.out).2.1)
  rintro e w12 ⟨v1491, rfl, ho0, hb⟩
  refine ⟨_, rfl, ?_⟩
  have n0_ := Aside0.mk (Kd.R_elder' (by (with_reducible repeat (first | apply Kd.R_alloc | apply Kd.R_drewN | apply Kd.R_drew)); exact HO1489.out) (Kd.R_base ho0) hb)
  have n1_ := Aside0.mk (Kd.R_lower (Kd.R_new' ho0 (Kd.R_lt (by (with_reducible repeat (first | apply Kd.R_alloc | apply Kd.R_drewN | apply Kd.R_drew)); exact HO1489.out))) (below_size (by repeat (first | (with_reducible first | exact HB.out | apply below_alloc | apply pw_below_drewN | apply below_drew1 | refine below_set ?_ GE1486.out) | exact HB.out))))
  have n2_ := Aside0.mk (blk_below (g := gb1486) (by (with_reducible repeat (first | refine blk_drewN ?_ _ | refine blk_drew ?_ | refine blk_alloc ?_ _)); exact BK1486.out) hb)
  have n3_ := Aside0.mk (below_step (by repeat (first | (with_reducible first | exact HB.out | apply below_alloc | apply pw_below_drewN | apply below_drew1 | refine below_set ?_ GE1486.out) | exact HB.out)) hb)
  clear HO1489
  clear BK1486
  clear HB
  have HO1489 := n0_
  have HO1492 := n1_
  have BK1486 := n2_
  have HB := n3_
  clear n0_ n1_ n2_ n3_
  (try clear hb)
  (try clear hb2)
  (try clear hk)
  (try clear hi)
  (try clear ho0)
  obtain ⟨Ao13, co13, eo13⟩ := Kd.R_slice HO1492.out
  (first | subst eo13 | (injection eo13 with f1_ f2_ f3_; have f4_ := f1_.symm; have f5_ := f3_.symm; clear f1_ f2_ f3_; subst f4_; subst f5_))
  refine hK.out _ _ ⟨(blk_cell BK1486.out 0).trans rfl, (blk_cell BK1486.out 1).trans rfl, (blk_cell BK1486.out 2).trans rfl, (blk_cell BK1486.out 3).trans rfl, (blk_cell BK1486.out 4).trans rfl⟩ (fun hHeld => ?_)
  clear hK K
  refine norm_ (a' := ?_) ?_ ?_
  rotate_left
  · show Act.put _ (some 11) _ = _
    simp only [Act.put, List.setIfInBounds_toArray, List.set_cons_zero, List.set_cons_succ, i64_w, i32_w]
    rfl
  refine one_ (i := 9) (N := some 14) #[true, true, true, true, true, true, true, true, true, true, true, true, false, true, true, false, false] rfl rfl (one_of HT_.out (by kernel_rfl)) (by decide) (fun K hK => ?_)
  refine goes_ Try.func152 (by kernel_rfl) rfl #[.slice Ao13 t1490.length co13, .string a1_2] (by rfl) rfl rfl (by (try simp only [List.map_toArray, List.map_cons, List.map_nil]); first | done | rfl | (simp only [List.length_drop, List.length_take]; rfl)) ?_
  with_reducible refine (spec_PutText.calls k _ _ t1490 a1_2 t1493 _ ?side1 ?side2 A5.out).mono ?_
  (case side1 => repeat (first | exact (Kd.R_reads' HO1492.out).2.2 | (with_reducible refine Kd.C_alloc ?_ _) | (with_reducible refine Kd.C_drewN ?_ _) | (with_reducible refine Kd.C_drew ?_)))
  (case side2 => exact (Kd.R_reads' HO1492.out).2.1)
  rintro e w14 ⟨v1494, rfl, ho0, hb⟩
  refine ⟨_, rfl, ?_⟩
  have n0_ := Aside0.mk (Kd.R_elder' (by (with_reducible repeat (first | apply Kd.R_alloc | apply Kd.R_drewN | apply Kd.R_drew)); exact HO1489.out) (Kd.R_base ho0) hb)
  have n1_ := Aside0.mk (Kd.R_elder' (by (with_reducible repeat (first | apply Kd.R_alloc | apply Kd.R_drewN | apply Kd.R_drew)); exact HO1492.out) (Kd.R_base ho0) hb)
  have n2_ := Aside0.mk (Kd.R_lower (Kd.R_new' (Kd.R_new' ho0 (Kd.R_lt (by (with_reducible repeat (first | apply Kd.R_alloc | apply Kd.R_drewN | apply Kd.R_drew)); exact HO1489.out))) (Kd.R_lt (by (with_reducible repeat (first | apply Kd.R_alloc | apply Kd.R_drewN | apply Kd.R_drew)); exact HO1492.out))) (below_size (by repeat (first | (with_reducible first | exact HB.out | apply below_alloc | apply pw_below_drewN | apply below_drew1 | refine below_set ?_ GE1486.out) | exact HB.out))))
  have n3_ := Aside0.mk (blk_below (g := gb1486) (by (with_reducible repeat (first | refine blk_drewN ?_ _ | refine blk_drew ?_ | refine blk_alloc ?_ _)); exact BK1486.out) hb)
  have n4_ := Aside0.mk (below_step (by repeat (first | (with_reducible first | exact HB.out | apply below_alloc | apply pw_below_drewN | apply below_drew1 | refine below_set ?_ GE1486.out) | exact HB.out)) hb)
  clear HO1489
  clear HO1492
  clear BK1486
  clear HB
  have HO1489 := n0_
  have HO1492 := n1_
  have HO1495 := n2_
  have BK1486 := n3_
  have HB := n4_
  clear n0_ n1_ n2_ n3_ n4_
  (try clear hb)
  (try clear hb2)
  (try clear hk)
  (try clear hi)
  (try clear ho0)
  obtain ⟨Ao15, co15, eo15⟩ := Kd.R_slice HO1495.out
  (first | subst eo15 | (injection eo15 with f1_ f2_ f3_; have f4_ := f1_.symm; have f5_ := f3_.symm; clear f1_ f2_ f3_; subst f4_; subst f5_))
  refine hK.out _ _ ⟨(blk_cell BK1486.out 0).trans rfl, (blk_cell BK1486.out 1).trans rfl, (blk_cell BK1486.out 2).trans rfl, (blk_cell BK1486.out 3).trans rfl, (blk_cell BK1486.out 4).trans rfl⟩ (fun hHeld => ?_)
  clear hK K
  refine norm_ (a' := ?_) ?_ ?_
  rotate_left
  · show Act.put _ (some 14) _ = _
    simp only [Act.put, List.setIfInBounds_toArray, List.set_cons_zero, List.set_cons_succ, i64_w, i32_w]
    rfl
  refine one_ (i := 12) (N := some 17) #[true, true, true, true, true, true, true, true, true, true, true, true, true, true, true, false, false] rfl rfl (one_of HT_.out (by kernel_rfl)) (by decide) (fun K hK => ?_)
  refine goes_ Try.func153 (by kernel_rfl) rfl #[.slice Ao15 t1493.length co15, .int .i64 a1_3] (by rfl) rfl rfl (by (try simp only [List.map_toArray, List.map_cons, List.map_nil]); first | done | rfl | (simp only [List.length_drop, List.length_take]; rfl)) ?_
  with_reducible refine (spec_PutNum.calls k _ _ t1493 a1_3 t1496 _ ?side1 ?side2 A6.out).mono ?_
  (case side1 => repeat (first | exact (Kd.R_reads' HO1495.out).2.2 | (with_reducible refine Kd.C_alloc ?_ _) | (with_reducible refine Kd.C_drewN ?_ _) | (with_reducible refine Kd.C_drew ?_)))
  (case side2 => exact (Kd.R_reads' HO1495.out).2.1)
  rintro e w16 ⟨v1497, rfl, ho0, hb⟩
  refine ⟨_, rfl, ?_⟩
  have n0_ := Aside0.mk (Kd.R_elder' (by (with_reducible repeat (first | apply Kd.R_alloc | apply Kd.R_drewN | apply Kd.R_drew)); exact HO1489.out) (Kd.R_base ho0) hb)
  have n1_ := Aside0.mk (Kd.R_elder' (by (with_reducible repeat (first | apply Kd.R_alloc | apply Kd.R_drewN | apply Kd.R_drew)); exact HO1492.out) (Kd.R_base ho0) hb)
  have n2_ := Aside0.mk (Kd.R_elder' (by (with_reducible repeat (first | apply Kd.R_alloc | apply Kd.R_drewN | apply Kd.R_drew)); exact HO1495.out) (Kd.R_base ho0) hb)
  have n3_ := Aside0.mk (Kd.R_lower (Kd.R_new' (Kd.R_new' (Kd.R_new' ho0 (Kd.R_lt (by (with_reducible repeat (first | apply Kd.R_alloc | apply Kd.R_drewN | apply Kd.R_drew)); exact HO1489.out))) (Kd.R_lt (by (with_reducible repeat (first | apply Kd.R_alloc | apply Kd.R_drewN | apply Kd.R_drew)); exact HO1492.out))) (Kd.R_lt (by (with_reducible repeat (first | apply Kd.R_alloc | apply Kd.R_drewN | apply Kd.R_drew)); exact HO1495.out))) (below_size (by repeat (first | (with_reducible first | exact HB.out | apply below_alloc | apply pw_below_drewN | apply below_drew1 | refine below_set ?_ GE1486.out) | exact HB.out))))
  have n4_ := Aside0.mk (blk_below (g := gb1486) (by (with_reducible repeat (first | refine blk_drewN ?_ _ | refine blk_drew ?_ | refine blk_alloc ?_ _)); exact BK1486.out) hb)
  have n5_ := Aside0.mk (below_step (by repeat (first | (with_reducible first | exact HB.out | apply below_alloc | apply pw_below_drewN | apply below_drew1 | refine below_set ?_ GE1486.out) | exact HB.out)) hb)
  clear HO1489
  clear HO1492
  clear HO1495
  clear BK1486
  clear HB
  have HO1489 := n0_
  have HO1492 := n1_
  have HO1495 := n2_
  have HO1498 := n3_
  have BK1486 := n4_
  have HB := n5_
  clear n0_ n1_ n2_ n3_ n4_ n5_
  (try clear hb)
  (try clear hb2)
  (try clear hk)
  (try clear hi)
  (try clear ho0)
  obtain ⟨Ao17, co17, eo17⟩ := Kd.R_slice HO1498.out
  (first | subst eo17 | (injection eo17 with f1_ f2_ f3_; have f4_ := f1_.symm; have f5_ := f3_.symm; clear f1_ f2_ f3_; subst f4_; subst f5_))
  refine hK.out _ _ ⟨(blk_cell BK1486.out 0).trans rfl, (blk_cell BK1486.out 1).trans rfl, (blk_cell BK1486.out 2).trans rfl, (blk_cell BK1486.out 3).trans rfl, (blk_cell BK1486.out 4).trans rfl⟩ (fun hHeld => ?_)
  clear hK K
  refine norm_ (a' := ?_) ?_ ?_
  rotate_left
  · show Act.put _ (some 17) _ = _
    simp only [Act.put, List.setIfInBounds_toArray, List.set_cons_zero, List.set_cons_succ, i64_w, i32_w]
    rfl
  refine one_ (i := 15) (N := some 20) #[true, true, true, true, true, true, true, true, true, true, true, true, true, true, true, true, false] rfl rfl (one_of HT_.out (by kernel_rfl)) (by decide) (fun K hK => ?_)
  refine goes_ Try.func153 (by kernel_rfl) rfl #[.slice Ao17 t1496.length co17, .int .i64 a1_4] (by rfl) rfl rfl (by (try simp only [List.map_toArray, List.map_cons, List.map_nil]); first | done | rfl | (simp only [List.length_drop, List.length_take]; rfl)) ?_
  with_reducible refine (spec_PutNum.calls k _ _ t1496 a1_4 t1499 _ ?side1 ?side2 A7.out).mono ?_
  (case side1 => repeat (first | exact (Kd.R_reads' HO1498.out).2.2 | (with_reducible refine Kd.C_alloc ?_ _) | (with_reducible refine Kd.C_drewN ?_ _) | (with_reducible refine Kd.C_drew ?_)))
  (case side2 => exact (Kd.R_reads' HO1498.out).2.1)
  rintro e w18 ⟨v1500, rfl, ho0, hb⟩
  refine ⟨_, rfl, ?_⟩
  have n0_ := Aside0.mk (Kd.R_elder' (by (with_reducible repeat (first | apply Kd.R_alloc | apply Kd.R_drewN | apply Kd.R_drew)); exact HO1489.out) (Kd.R_base ho0) hb)
  have n1_ := Aside0.mk (Kd.R_elder' (by (with_reducible repeat (first | apply Kd.R_alloc | apply Kd.R_drewN | apply Kd.R_drew)); exact HO1492.out) (Kd.R_base ho0) hb)
  have n2_ := Aside0.mk (Kd.R_elder' (by (with_reducible repeat (first | apply Kd.R_alloc | apply Kd.R_drewN | apply Kd.R_drew)); exact HO1495.out) (Kd.R_base ho0) hb)
  have n3_ := Aside0.mk (Kd.R_elder' (by (with_reducible repeat (first | apply Kd.R_alloc | apply Kd.R_drewN | apply Kd.R_drew)); exact HO1498.out) (Kd.R_base ho0) hb)
  have n4_ := Aside0.mk (Kd.R_lower (Kd.R_new' (Kd.R_new' (Kd.R_new' (Kd.R_new' ho0 (Kd.R_lt (by (with_reducible repeat (first | apply Kd.R_alloc | apply Kd.R_drewN | apply Kd.R_drew)); exact HO1489.out))) (Kd.R_lt (by (with_reducible repeat (first | apply Kd.R_alloc | apply Kd.R_drewN | apply Kd.R_drew)); exact HO1492.out))) (Kd.R_lt (by (with_reducible repeat (first | apply Kd.R_alloc | apply Kd.R_drewN | apply Kd.R_drew)); exact HO1495.out))) (Kd.R_lt (by (with_reducible repeat (first | apply Kd.R_alloc | apply Kd.R_drewN | apply Kd.R_drew)); exact HO1498.out))) (below_size (by repeat (first | (with_reducible first | exact HB.out | apply below_alloc | apply pw_below_drewN | apply below_drew1 | refine below_set ?_ GE1486.out) | exact HB.out))))
  have n5_ := Aside0.mk (blk_below (g := gb1486) (by (with_reducible repeat (first | refine blk_drewN ?_ _ | refine blk_drew ?_ | refine blk_alloc ?_ _)); exact BK1486.out) hb)
  have n6_ := Aside0.mk (below_step (by repeat (first | (with_reducible first | exact HB.out | apply below_alloc | apply pw_below_drewN | apply below_drew1 | refine below_set ?_ GE1486.out) | exact HB.out)) hb)
  clear HO1489
  clear HO1492
  clear HO1495
  clear HO1498
  clear BK1486
  clear HB
  have HO1489 := n0_
  have HO1492 := n1_
  have HO1495 := n2_
  have HO1498 := n3_
  have HO1501 := n4_
  have BK1486 := n5_
  have HB := n6_
  clear n0_ n1_ n2_ n3_ n4_ n5_ n6_
  (try clear hb)
  (try clear hb2)
  (try clear hk)
  (try clear hi)
  (try clear ho0)
  refine hK.out _ _ ⟨(blk_cell BK1486.out 0).trans rfl, (blk_cell BK1486.out 1).trans rfl, (blk_cell BK1486.out 2).trans rfl, (blk_cell BK1486.out 3).trans rfl, (blk_cell BK1486.out 4).trans rfl⟩ (fun hHeld => ?_)
  clear hK K
  refine norm_ (a' := ?_) ?_ ?_
  rotate_left
  · show Act.put _ (some 20) _ = _
    simp only [Act.put, List.setIfInBounds_toArray, List.set_cons_zero, List.set_cons_succ, i64_w, i32_w]
    rfl
  refine pure_ (i := 16) (N := some 4) (v := ?_) (a' := ?_) #[true, true, true, true, true, true, true, true, true, true, true, true, true, true, true, true, true] rfl rfl (any_of HT_.out (by kernel_rfl)) (fun _ _ _ h => h) (Or.inl ⟨by rfl, ?_⟩) ?_ ?_
  rotate_left
  · intro w'
    go_simp
    with_reducible rfl
  rotate_left
  · simp only [Act.put, List.setIfInBounds_toArray, List.set_cons_zero, List.set_cons_succ, i64_w, i32_w]
    rfl
  refine done_ (done_of HT_.out (by kernel_rfl)) ?_
  try go_wp2
  go_ret
  exact ⟨_, by first | rfl | (simp [errW_none, errW_some] <;> rfl) | (simp [*, errW_none, errW_some] <;> rfl), by (with_reducible repeat (first | apply Kd.R_alloc | apply Kd.R_drewN | apply Kd.R_drew)); exact Kd.R_mono HO1501.out (fun _ hk => trivial), by repeat (first | (with_reducible first | exact HB.out | apply below_alloc | apply pw_below_drewN | apply below_drew1 | refine below_set ?_ GE1486.out) | exact HB.out)⟩

theorem spec_l5Put.is {out : List Int} (t : S186) (hl : out.length + (pTx t).length ≤ 60000000) : Ev (fun k => spec_l5Put.f k out t.f0 t.f1 t.f2 t.f3 t.f4) (out ++ pTx t) := by
  have hp : ∀ s : ByteArray, s.size ≤ (pText s).length := fun s => by unfold pText; rw [List.length_append, bytesOf_length]; omega
  have a := hp t.f1
  have b := hp t.f2
  unfold pTx at hl
  simp only [List.length_append] at hl
  unfold spec_l5Put.f pTx
  refine Ev.bind (spec_PutNum.is t.f0 (by omega)) (Ev.bind (spec_PutText.is t.f1 (by simp only [List.length_append]; omega)) (Ev.bind (spec_PutText.is t.f2 (by simp only [List.length_append]; omega)) (Ev.bind (spec_PutNum.is t.f3 (by simp only [List.length_append]; omega)) (Ev.bind (spec_PutNum.is t.f4 (by simp only [List.length_append]; omega)) ?_))))
  exact Ev.is (by simp only [List.append_assoc])

/-! ### impl_TxOk: function 230 -/
def impl_TxOk.j0 : Nat → Bool → Int → ByteArray → ByteArray → Int → Int → Option (Bool)
  | 0, _, _, _, _, _, _ => none
  | k + 1, x24, x1612000, x1612001, x1612002, x1612003, x1612004 => if x24 = true then (some false) else (if x1612000 = 1 then ((impl_NameOk.f k x1612002).bind fun t1616 => (some t1616)) else (some (x1612002.toList == ([] : List UInt8))))
def impl_TxOk.f (k : Nat) (a0_0 : Int) (a0_1 : ByteArray) (a0_2 : ByteArray) (a0_3 : Int) (a0_4 : Int) : Option (Bool) := (impl_inRange.f a0_0 1 3).bind fun t1612 => (if t1612 = true then ((impl_NameOk.f k a0_1).bind fun t1613 => (if t1613 = true then ((impl_inRange.f a0_3 1 1000000).bind fun t1614 => (if t1614 = true then ((impl_inRange.f a0_4 0 10000).bind fun t1615 => (impl_TxOk.j0 k (!t1615) a0_0 a0_1 a0_2 a0_3 a0_4)) else (impl_TxOk.j0 k true a0_0 a0_1 a0_2 a0_3 a0_4))) else (impl_TxOk.j0 k true a0_0 a0_1 a0_2 a0_3 a0_4))) else (impl_TxOk.j0 k true a0_0 a0_1 a0_2 a0_3 a0_4))
theorem impl_TxOk.mono_l : ∀ k, (∀ y0 y1 y2 y3 y4 y5, LeO (impl_TxOk.j0 k y0 y1 y2 y3 y4 y5) (impl_TxOk.j0 (k + 1) y0 y1 y2 y3 y4 y5))
  | 0 => fun _ _ _ _ _ _ r h => by simp [impl_TxOk.j0] at h
  | k + 1 => by
    have ih0 := impl_TxOk.mono_l k
    · intro y0 y1 y2 y3 y4 y5
      unfold impl_TxOk.j0
      repeat' first
      | (with_reducible exact ih0 _ _ _ _ _ _)
      | (with_reducible exact impl_NameOk.mono _ _)
      | (with_reducible exact LeO.refl _)
      | (with_reducible exact LeO.none _)
      | (with_reducible refine LeO.ite ?_ ?_)
      | (with_reducible refine LeO.bind ?_ (fun _ => ?_))
      | exact ih0 _ _ _ _ _ _
      | exact impl_NameOk.mono _ _
      | exact LeO.none _
      | refine LeO.ite ?_ ?_
      | refine LeO.bind ?_ (fun _ => ?_)
theorem impl_TxOk.mono : ∀ a0 a1 a2 a3 a4 k, LeO (impl_TxOk.f k a0 a1 a2 a3 a4) (impl_TxOk.f (k + 1) a0 a1 a2 a3 a4) := by
  intro a0 a1 a2 a3 a4 k
  have ih0 := impl_TxOk.mono_l k
  unfold impl_TxOk.f
  repeat' first
      | (with_reducible exact ih0 _ _ _ _ _ _)
      | (with_reducible exact impl_NameOk.mono _ _)
      | (with_reducible exact LeO.refl _)
      | (with_reducible exact LeO.none _)
      | (with_reducible refine LeO.ite ?_ ?_)
      | (with_reducible refine LeO.bind ?_ (fun _ => ?_))
      | exact ih0 _ _ _ _ _ _
      | exact impl_NameOk.mono _ _
      | exact LeO.none _
      | refine LeO.ite ?_ ?_
      | refine LeO.bind ?_ (fun _ => ?_)
set_option maxHeartbeats 8000000 in
set_option maxRecDepth 100000 in
theorem impl_TxOk.calls (k : Nat) (a0_0 : Int) (a0_1 : ByteArray) (a0_2 : ByteArray) (a0_3 : Int) (a0_4 : Int) (r : Bool) (w : World) (h : impl_TxOk.f k a0_0 a0_1 a0_2 a0_3 a0_4 = some r) :
    Calls Try.prog 230 #[.agg #[.int .i64 a0_0, .string a0_1, .string a0_2, .int .i64 a0_3, .int .i64 a0_4]] w fun e w' => e = .returned (.bool r) ∧ Below w.heap.size w w' := by
  have hu186 := Try.underlying186
  have HB := Aside0.mk (Below.refl w.heap.size w)
  have H : ((impl_inRange.f a0_0 1 3).bind fun t1612 => (if t1612 = true then ((impl_NameOk.f k a0_1).bind fun t1613 => (if t1613 = true then ((impl_inRange.f a0_3 1 1000000).bind fun t1614 => (if t1614 = true then ((impl_inRange.f a0_4 0 10000).bind fun t1615 => (impl_TxOk.j0 k (!t1615) a0_0 a0_1 a0_2 a0_3 a0_4)) else (impl_TxOk.j0 k true a0_0 a0_1 a0_2 a0_3 a0_4))) else (impl_TxOk.j0 k true a0_0 a0_1 a0_2 a0_3 a0_4))) else (impl_TxOk.j0 k true a0_0 a0_1 a0_2 a0_3 a0_4))) = some r := h
  clear h
  have HC2 := Aside0.mk H
  clear H
  go_enter Try.func230, Try.ntmps230
  go_upto_region 1 with (first | ((with_reducible refine gate_dst (N := 1) rfl ?_); refine box_event ?hg (N := 1) ?hd (cs := #[.int .i64 a0_0, .string a0_1, .string a0_2, .int .i64 a0_3, .int .i64 a0_4]) (t := 186) ?hr ?_; (case hd => rfl); (case hg => rfl); (case hr => first | (go_simp; done) | (go_simp; rfl)); intro gb1611 hg w3 hbox hb; have n0_ := Aside0.mk (below_step (by repeat (first | (with_reducible first | exact HB.out | apply below_alloc | apply pw_below_drewN | apply below_drew1) | exact HB.out)) hb); have n1_ := Aside0.mk (hbox); have n2_ := Aside0.mk ((by rw [hg]; exact (below_size (by repeat (first | (with_reducible first | exact HB.out | apply below_alloc | apply pw_below_drewN | apply below_drew1) | exact HB.out))) : w.heap.size ≤ gb1611)); have n3_ := n2_; clear HB; have HB := n0_; have BK1611 := n1_; have GW1611 := n2_; have GE1611 := n3_; clear n0_ n1_ n2_ n3_; clear hb hbox hg))
  (try simp only [Act.put, List.setIfInBounds_toArray, List.set_cons_zero, List.set_cons_succ])
  go_cut [24] (fun v24 wc => ∃ (kq : Nat) (x24_1 : Bool), v24 = .bool x24_1 ∧ Aside0 (impl_TxOk.j0 kq x24_1 a0_0 a0_1 a0_2 a0_3 a0_4 = some r) ∧ Aside0 (kq ≤ k) ∧ Aside0 (wc.heap[gb1611]? = some (.cells #[.int .i64 a0_0, .string a0_1, .string a0_2, .int .i64 a0_3, .int .i64 a0_4] 186 (0, 0))) ∧ Aside0 (Below w.heap.size w wc))
  case first =>
    have H := HC2.out
    clear HC2
    replace H := Option.bind_eq_some_iff.mp H
    obtain ⟨t1612, A40, H⟩ := H
    replace H : (if t1612 = true then ((impl_NameOk.f k a0_1).bind fun t1613 => (if t1613 = true then ((impl_inRange.f a0_3 1 1000000).bind fun t1614 => (if t1614 = true then ((impl_inRange.f a0_4 0 10000).bind fun t1615 => (impl_TxOk.j0 k (!t1615) a0_0 a0_1 a0_2 a0_3 a0_4)) else (impl_TxOk.j0 k true a0_0 a0_1 a0_2 a0_3 a0_4))) else (impl_TxOk.j0 k true a0_0 a0_1 a0_2 a0_3 a0_4))) else (impl_TxOk.j0 k true a0_0 a0_1 a0_2 a0_3 a0_4)) = some r := H
    have A4 := Aside0.mk A40
    clear A40
    by_cases c5 : t1612 = true
    · subst c5
      have H1 : ((impl_NameOk.f k a0_1).bind fun t1613 => (if t1613 = true then ((impl_inRange.f a0_3 1 1000000).bind fun t1614 => (if t1614 = true then ((impl_inRange.f a0_4 0 10000).bind fun t1615 => (impl_TxOk.j0 k (!t1615) a0_0 a0_1 a0_2 a0_3 a0_4)) else (impl_TxOk.j0 k true a0_0 a0_1 a0_2 a0_3 a0_4))) else (impl_TxOk.j0 k true a0_0 a0_1 a0_2 a0_3 a0_4))) = some r := by rw [if_pos rfl] at H; exact H
      clear H
      have H := H1
      clear H1
      replace H := Option.bind_eq_some_iff.mp H
      obtain ⟨t1613, A60, H⟩ := H
      replace H : (if t1613 = true then ((impl_inRange.f a0_3 1 1000000).bind fun t1614 => (if t1614 = true then ((impl_inRange.f a0_4 0 10000).bind fun t1615 => (impl_TxOk.j0 k (!t1615) a0_0 a0_1 a0_2 a0_3 a0_4)) else (impl_TxOk.j0 k true a0_0 a0_1 a0_2 a0_3 a0_4))) else (impl_TxOk.j0 k true a0_0 a0_1 a0_2 a0_3 a0_4)) = some r := H
      have A6 := Aside0.mk A60
      clear A60
      by_cases c7 : t1613 = true
      · subst c7
        have H1 : ((impl_inRange.f a0_3 1 1000000).bind fun t1614 => (if t1614 = true then ((impl_inRange.f a0_4 0 10000).bind fun t1615 => (impl_TxOk.j0 k (!t1615) a0_0 a0_1 a0_2 a0_3 a0_4)) else (impl_TxOk.j0 k true a0_0 a0_1 a0_2 a0_3 a0_4))) = some r := by rw [if_pos rfl] at H; exact H
        clear H
        have H := H1
        clear H1
        replace H := Option.bind_eq_some_iff.mp H
        obtain ⟨t1614, A80, H⟩ := H
        replace H : (if t1614 = true then ((impl_inRange.f a0_4 0 10000).bind fun t1615 => (impl_TxOk.j0 k (!t1615) a0_0 a0_1 a0_2 a0_3 a0_4)) else (impl_TxOk.j0 k true a0_0 a0_1 a0_2 a0_3 a0_4)) = some r := H
        have A8 := Aside0.mk A80
        clear A80
        by_cases c9 : t1614 = true
        · subst c9
          have H1 : ((impl_inRange.f a0_4 0 10000).bind fun t1615 => (impl_TxOk.j0 k (!t1615) a0_0 a0_1 a0_2 a0_3 a0_4)) = some r := by rw [if_pos rfl] at H; exact H
          clear H
          have H := H1
          clear H1
          replace H := Option.bind_eq_some_iff.mp H
          obtain ⟨t1615, A100, H⟩ := H
          replace H : (impl_TxOk.j0 k (!t1615) a0_0 a0_1 a0_2 a0_3 a0_4) = some r := H
          have A10 := Aside0.mk A100
          clear A100
          have H' := Aside0.mk H
          clear H
          obtain ⟨hcz11_0, hcz11_1, hcz11_2, hcz11_3, hcz11_4⟩ := cells5 BK1611.out
          obtain ⟨hfz11_0, hfz11_1, hfz11_2, hfz11_3, hfz11_4⟩ := frozens5 BK1611.out
          go_wp2_with (first | ((with_reducible refine gate_callee (f := 101) rfl ?_); refine goesL_ (some 5) rfl rfl Try.func101 (by kernel_rfl) rfl #[.int .i64 a0_0, .int .i64 1, .int .i64 3] rfl (by (try simp only [List.map_toArray, List.map_cons, List.map_nil]); first | done | rfl | (simp only [List.length_drop, List.length_take]; rfl)) ?_; (with_reducible refine (impl_inRange.calls a0_0 1 3 true _ A4.out).mono ?_); rintro e w' ⟨rfl, ⟨nd, rfl⟩⟩; refine ⟨_, rfl, ?_⟩) | (go_at_call 100; (with_reducible refine (impl_NameOk.calls k a0_1 true _ A6.out).mono ?_); rintro e w' ⟨rfl, ⟨nd, rfl⟩⟩) | (go_at_call 101; (with_reducible refine (impl_inRange.calls a0_3 1 1000000 true _ A8.out).mono ?_); rintro e w' ⟨rfl, ⟨nd, rfl⟩⟩) | (go_at_call 101; (with_reducible refine (impl_inRange.calls a0_4 0 10000 t1615 _ A10.out).mono ?_); rintro e w' ⟨rfl, ⟨nd, rfl⟩⟩))
          go_meet
          case rel => exact ⟨_, (!t1615), (by first | rfl | (simp; done) | (simp [*]; done)), H', ⟨by first | omega | exact Nat.le_refl _⟩, ⟨by (with_reducible repeat (first | refine blk_drewN ?_ _ | refine blk_drew ?_ | refine blk_alloc ?_ _)); exact BK1611.out⟩, ⟨by repeat (first | (with_reducible first | exact HB.out | apply below_alloc | apply pw_below_drewN | apply below_drew1 | refine below_set ?_ GE1611.out) | exact HB.out)⟩⟩
        · replace c9 := Bool.eq_false_iff.mpr c9
          subst c9
          have H1 : (impl_TxOk.j0 k true a0_0 a0_1 a0_2 a0_3 a0_4) = some r := by rw [if_neg (show ¬ (false = true) by decide)] at H; exact H
          clear H
          have H := H1
          clear H1
          have H' := Aside0.mk H
          clear H
          obtain ⟨hcz12_0, hcz12_1, hcz12_2, hcz12_3, hcz12_4⟩ := cells5 BK1611.out
          obtain ⟨hfz12_0, hfz12_1, hfz12_2, hfz12_3, hfz12_4⟩ := frozens5 BK1611.out
          go_wp2_with (first | ((with_reducible refine gate_callee (f := 101) rfl ?_); refine goesL_ (some 5) rfl rfl Try.func101 (by kernel_rfl) rfl #[.int .i64 a0_0, .int .i64 1, .int .i64 3] rfl (by (try simp only [List.map_toArray, List.map_cons, List.map_nil]); first | done | rfl | (simp only [List.length_drop, List.length_take]; rfl)) ?_; (with_reducible refine (impl_inRange.calls a0_0 1 3 true _ A4.out).mono ?_); rintro e w' ⟨rfl, ⟨nd, rfl⟩⟩; refine ⟨_, rfl, ?_⟩) | (go_at_call 100; (with_reducible refine (impl_NameOk.calls k a0_1 true _ A6.out).mono ?_); rintro e w' ⟨rfl, ⟨nd, rfl⟩⟩) | (go_at_call 101; (with_reducible refine (impl_inRange.calls a0_3 1 1000000 false _ A8.out).mono ?_); rintro e w' ⟨rfl, ⟨nd, rfl⟩⟩))
          go_meet
          case rel => exact ⟨_, (true), (by first | rfl | (simp; done) | (simp [*]; done)), H', ⟨by first | omega | exact Nat.le_refl _⟩, ⟨by (with_reducible repeat (first | refine blk_drewN ?_ _ | refine blk_drew ?_ | refine blk_alloc ?_ _)); exact BK1611.out⟩, ⟨by repeat (first | (with_reducible first | exact HB.out | apply below_alloc | apply pw_below_drewN | apply below_drew1 | refine below_set ?_ GE1611.out) | exact HB.out)⟩⟩
      · replace c7 := Bool.eq_false_iff.mpr c7
        subst c7
        have H1 : (impl_TxOk.j0 k true a0_0 a0_1 a0_2 a0_3 a0_4) = some r := by rw [if_neg (show ¬ (false = true) by decide)] at H; exact H
        clear H
        have H := H1
        clear H1
        have H' := Aside0.mk H
        clear H
        obtain ⟨hcz13_0, hcz13_1, hcz13_2, hcz13_3, hcz13_4⟩ := cells5 BK1611.out
        obtain ⟨hfz13_0, hfz13_1, hfz13_2, hfz13_3, hfz13_4⟩ := frozens5 BK1611.out
        go_wp2_with (first | ((with_reducible refine gate_callee (f := 101) rfl ?_); refine goesL_ (some 5) rfl rfl Try.func101 (by kernel_rfl) rfl #[.int .i64 a0_0, .int .i64 1, .int .i64 3] rfl (by (try simp only [List.map_toArray, List.map_cons, List.map_nil]); first | done | rfl | (simp only [List.length_drop, List.length_take]; rfl)) ?_; (with_reducible refine (impl_inRange.calls a0_0 1 3 true _ A4.out).mono ?_); rintro e w' ⟨rfl, ⟨nd, rfl⟩⟩; refine ⟨_, rfl, ?_⟩) | (go_at_call 100; (with_reducible refine (impl_NameOk.calls k a0_1 false _ A6.out).mono ?_); rintro e w' ⟨rfl, ⟨nd, rfl⟩⟩))
        go_meet
        case rel => exact ⟨_, (true), (by first | rfl | (simp; done) | (simp [*]; done)), H', ⟨by first | omega | exact Nat.le_refl _⟩, ⟨by (with_reducible repeat (first | refine blk_drewN ?_ _ | refine blk_drew ?_ | refine blk_alloc ?_ _)); exact BK1611.out⟩, ⟨by repeat (first | (with_reducible first | exact HB.out | apply below_alloc | apply pw_below_drewN | apply below_drew1 | refine below_set ?_ GE1611.out) | exact HB.out)⟩⟩
    · replace c5 := Bool.eq_false_iff.mpr c5
      subst c5
      have H1 : (impl_TxOk.j0 k true a0_0 a0_1 a0_2 a0_3 a0_4) = some r := by rw [if_neg (show ¬ (false = true) by decide)] at H; exact H
      clear H
      have H := H1
      clear H1
      have H' := Aside0.mk H
      clear H
      obtain ⟨hcz14_0, hcz14_1, hcz14_2, hcz14_3, hcz14_4⟩ := cells5 BK1611.out
      obtain ⟨hfz14_0, hfz14_1, hfz14_2, hfz14_3, hfz14_4⟩ := frozens5 BK1611.out
      go_wp2_with (first | ((with_reducible refine gate_callee (f := 101) rfl ?_); refine goesL_ (some 5) rfl rfl Try.func101 (by kernel_rfl) rfl #[.int .i64 a0_0, .int .i64 1, .int .i64 3] rfl (by (try simp only [List.map_toArray, List.map_cons, List.map_nil]); first | done | rfl | (simp only [List.length_drop, List.length_take]; rfl)) ?_; (with_reducible refine (impl_inRange.calls a0_0 1 3 false _ A4.out).mono ?_); rintro e w' ⟨rfl, ⟨nd, rfl⟩⟩; refine ⟨_, rfl, ?_⟩))
      go_meet
      case rel => exact ⟨_, (true), (by first | rfl | (simp; done) | (simp [*]; done)), H', ⟨by first | omega | exact Nat.le_refl _⟩, ⟨by (with_reducible repeat (first | refine blk_drewN ?_ _ | refine blk_drew ?_ | refine blk_alloc ?_ _)); exact BK1611.out⟩, ⟨by repeat (first | (with_reducible first | exact HB.out | apply below_alloc | apply pw_below_drewN | apply below_drew1 | refine below_set ?_ GE1611.out) | exact HB.out)⟩⟩
  case rest =>
    clear HC2
    try clear c1
    try clear c2
    try clear p2
    try clear c5
    try clear c7
    try clear c9
    try clear c10
    try clear hcz11_0
    try clear hcz11_1
    try clear hcz11_2
    try clear hcz11_3
    try clear hcz11_4
    try clear hcz12_0
    try clear hcz12_1
    try clear hcz12_2
    try clear hcz12_3
    try clear hcz12_4
    try clear hcz13_0
    try clear hcz13_1
    try clear hcz13_2
    try clear hcz13_3
    try clear hcz13_4
    try clear hcz14_0
    try clear hcz14_1
    try clear hcz14_2
    try clear hcz14_3
    try clear hcz14_4
    try clear hfz11_0
    try clear hfz11_1
    try clear hfz11_2
    try clear hfz11_3
    try clear hfz11_4
    try clear hfz12_0
    try clear hfz12_1
    try clear hfz12_2
    try clear hfz12_3
    try clear hfz12_4
    try clear hfz13_0
    try clear hfz13_1
    try clear hfz13_2
    try clear hfz13_3
    try clear hfz13_4
    try clear hfz14_0
    try clear hfz14_1
    try clear hfz14_2
    try clear hfz14_3
    try clear hfz14_4
    obtain ⟨kq, x24_1, rfl, HA, HJ1, BK1611, HB⟩ := hcut
    cases kq with
    | zero => exact absurd HA.out (by simp [impl_TxOk.j0])
    | succ kj1 =>
      have H := HA.out
      clear HA
      simp only [impl_TxOk.j0] at H
      by_cases c15 : x24_1 = true
      · subst c15
        have H1 : (some false) = some r := by rw [if_pos rfl] at H; exact H
        clear H
        have H := H1
        clear H1
        obtain rfl := Option.some.inj H
        go_wp2
        go_ret
        exact ⟨by first | rfl | (simp [errW_none, errW_some] <;> rfl) | (simp [*, errW_none, errW_some] <;> rfl), by repeat (first | (with_reducible first | exact HB.out | apply below_alloc | apply pw_below_drewN | apply below_drew1 | refine below_set ?_ GE1611.out) | exact HB.out)⟩
      · replace c15 := Bool.eq_false_iff.mpr c15
        subst c15
        have H1 : (if a0_0 = 1 then ((impl_NameOk.f kj1 a0_2).bind fun t1616 => (some t1616)) else (some (a0_2.toList == ([] : List UInt8)))) = some r := by rw [if_neg (show ¬ (false = true) by decide)] at H; exact H
        clear H
        have H := H1
        clear H1
        by_cases c16 : a0_0 = 1
        · rw [if_pos c16] at H
          have c16b0 : (a0_0 == 1) = true := beq_iff_eq.mpr c16
          have c16b1 : (a0_0 != 1) = false := bne_eq_false_iff_eq.mpr c16
          clear c16
          replace H := Option.bind_eq_some_iff.mp H
          obtain ⟨t1616, A170, H⟩ := H
          replace H : (some t1616) = some r := H
          have A17 := Aside0.mk A170
          clear A170
          obtain rfl := Option.some.inj H
          obtain ⟨hcz18_0, hcz18_1, hcz18_2, hcz18_3, hcz18_4⟩ := cells5 BK1611.out
          obtain ⟨hfz18_0, hfz18_1, hfz18_2, hfz18_3, hfz18_4⟩ := frozens5 BK1611.out
          go_wp2_with (first | ((with_reducible refine gate_callee (f := 100) rfl ?_); refine goesL_ (some 30) rfl rfl Try.func100 (by kernel_rfl) rfl #[.string a0_2] rfl (by (try simp only [List.map_toArray, List.map_cons, List.map_nil]); first | done | rfl | (simp only [List.length_drop, List.length_take]; rfl)) ?_; (with_reducible refine (impl_NameOk.calls kj1 a0_2 t1616 _ A17.out).mono ?_); rintro e w' ⟨rfl, ⟨nd, rfl⟩⟩; refine ⟨_, rfl, ?_⟩))
          go_ret
          exact ⟨by first | rfl | (simp [errW_none, errW_some] <;> rfl) | (simp [*, errW_none, errW_some] <;> rfl), by repeat (first | (with_reducible first | exact HB.out | apply below_alloc | apply pw_below_drewN | apply below_drew1 | refine below_set ?_ GE1611.out) | exact HB.out)⟩
        · rw [if_neg c16] at H
          have c16b0 : (a0_0 == 1) = false := beq_eq_false_iff_ne.mpr c16
          have c16b1 : (a0_0 != 1) = true := bne_iff_ne.mpr c16
          obtain rfl := Option.some.inj H
          obtain ⟨hcz19_0, hcz19_1, hcz19_2, hcz19_3, hcz19_4⟩ := cells5 BK1611.out
          obtain ⟨hfz19_0, hfz19_1, hfz19_2, hfz19_3, hfz19_4⟩ := frozens5 BK1611.out
          go_wp2
          go_ret
          exact ⟨by first | rfl | (simp [errW_none, errW_some] <;> rfl) | (simp [*, errW_none, errW_some] <;> rfl), by repeat (first | (with_reducible first | exact HB.out | apply below_alloc | apply pw_below_drewN | apply below_drew1 | refine below_set ?_ GE1611.out) | exact HB.out)⟩

theorem impl_TxOk.is {t : S186} (h1 : t.f1.size ≤ maxLen) (h2 : t.f2.size ≤ maxLen) : Ev (fun k => impl_TxOk.f k t.f0 t.f1 t.f2 t.f3 t.f4) (txOk t) := by
  have no : Ev (fun k => impl_TxOk.j0 k true t.f0 t.f1 t.f2 t.f3 t.f4) false := Ev.up (by simp only [impl_TxOk.j0]; exact Ev.yes (by first | trivial | rfl) (Ev.now _))
  unfold impl_TxOk.f txOk
  simp only [impl_inRange.is, Option.bind_some]
  cases inR t.f0 1 3
  · exact Ev.no (by simp) (Ev.to no (by simp))
  · refine Ev.yes rfl (Ev.bind (impl_NameOk.is h1) ?_)
    cases nameOk t.f1
    · exact Ev.no (by simp) (Ev.to no (by simp))
    · refine Ev.yes rfl ?_
      cases inR t.f3 1 1000000
      · exact Ev.no (by simp) (Ev.to no (by simp))
      · refine Ev.yes rfl ?_
        cases inR t.f4 0 10000
        · exact Ev.to no (by simp)
        · refine Ev.up ?_
          simp only [impl_TxOk.j0, Bool.not_true]
          refine Ev.no (by simp) (Ev.cond (fun hk => ?_) (fun hk => ?_))
          · refine Ev.bind (impl_NameOk.is h2) (Ev.is ?_)
            rw [if_pos hk]
            simp
          · rw [if_neg hk]
            exact Ev.is (by simp)
theorem impl_TxOk.does {t : S186} (h1 : t.f1.size ≤ maxLen) (h2 : t.f2.size ≤ maxLen) (w : World) : Calls Try.prog 230 #[.agg #[.int .i64 t.f0, .string t.f1, .string t.f2, .int .i64 t.f3, .int .i64 t.f4]] w fun e w' => e = .returned (.bool (txOk t)) ∧ Below w.heap.size w w' := by
  obtain ⟨k, h⟩ := (impl_TxOk.is h1 h2).rounds
  exact impl_TxOk.calls k _ _ _ _ _ _ w h

/-! ### impl_txsOk: function 201 -/
def impl_txsOk.l0 : Nat → List (S186) → Int → Int → Option (Bool)
  | 0, _, _, _ => none
  | k + 1, x5, x6, x7 => if x7 < x6 then (if 0 ≤ x7 then (if x7 < (x5.length : Int) then ((impl_TxOk.f k ((rd_T186 x5 x7).f0) ((rd_T186 x5 x7).f1) ((rd_T186 x5 x7).f2) ((rd_T186 x5 x7).f3) ((rd_T186 x5 x7).f4)).bind fun t1619 => (if t1619 = true then (impl_txsOk.l0 k x5 x6 (wrap64 (x7 + 1))) else (some false))) else (none)) else (none)) else (some true)
def impl_txsOk.f (k : Nat) (l0 : List (S186)) : Option (Bool) := impl_txsOk.l0 k l0 (l0.length : Int) 0
theorem impl_txsOk.mono_l : ∀ k, (∀ y0 y1 y2, LeO (impl_txsOk.l0 k y0 y1 y2) (impl_txsOk.l0 (k + 1) y0 y1 y2))
  | 0 => fun _ _ _ r h => by simp [impl_txsOk.l0] at h
  | k + 1 => by
    have ih0 := impl_txsOk.mono_l k
    · intro y0 y1 y2
      unfold impl_txsOk.l0
      repeat' first
      | (with_reducible exact ih0 _ _ _)
      | (with_reducible exact impl_TxOk.mono _ _ _ _ _ _)
      | (with_reducible exact LeO.refl _)
      | (with_reducible exact LeO.none _)
      | (with_reducible refine LeO.ite ?_ ?_)
      | (with_reducible refine LeO.bind ?_ (fun _ => ?_))
      | exact ih0 _ _ _
      | exact impl_TxOk.mono _ _ _ _ _ _
      | exact LeO.none _
      | refine LeO.ite ?_ ?_
      | refine LeO.bind ?_ (fun _ => ?_)
theorem impl_txsOk.mono : ∀ a0 k, LeO (impl_txsOk.f k a0) (impl_txsOk.f (k + 1) a0) := by
  intro a0 k
  have ih0 := impl_txsOk.mono_l k
  unfold impl_txsOk.f
  repeat' first
      | (with_reducible exact ih0 _ _ _)
      | (with_reducible exact impl_TxOk.mono _ _ _ _ _ _)
      | (with_reducible exact LeO.refl _)
      | (with_reducible exact LeO.none _)
      | (with_reducible refine LeO.ite ?_ ?_)
      | (with_reducible refine LeO.bind ?_ (fun _ => ?_))
      | exact ih0 _ _ _
      | exact impl_TxOk.mono _ _ _ _ _ _
      | exact LeO.none _
      | refine LeO.ite ?_ ?_
      | refine LeO.bind ?_ (fun _ => ?_)
set_option maxHeartbeats 8000000 in
set_option maxRecDepth 100000 in
theorem impl_txsOk.calls (k : Nat) (A0 : Option Addr) (c0 : Nat) (l0 : List (S186)) (r : Bool) (w : World) (hr0 : Kd.C k186 w A0 l0.length l0) (hc0 : l0.length ≤ c0) (h : impl_txsOk.f k l0 = some r) :
    Calls Try.prog 201 #[.slice A0 l0.length c0] w fun e w' => e = .returned (.bool r) ∧ Below w.heap.size w w' := by
  have hu186 := Try.underlying186
  have HR0 := Aside0.mk hr0
  have HC0 := Aside0.mk hc0
  clear hr0 hc0
  have HB := Aside0.mk (Below.refl w.heap.size w)
  have H : (impl_txsOk.l0 k l0 (l0.length : Int) 0) = some r := h
  clear h
  have H' := Aside0.mk H
  clear H
  go_enter Try.func201, Try.ntmps201
  go_wp2
  go_loopg [7] k (fun kq v7 w' => ∃ (x7_1 : Int), v7 = .int .i64 x7_1 ∧ Aside0 (impl_txsOk.l0 kq l0 (l0.length : Int) x7_1 = some r) ∧ Aside0 (kq ≤ k) ∧ Aside0 (Below w.heap.size w w'))
  case atStart => exact ⟨(0), (by first | rfl | (simp; done) | (simp [*]; done)), H', ⟨Nat.le_refl _⟩, ⟨by repeat (first | (with_reducible first | exact HB.out | apply below_alloc | apply pw_below_drewN | apply below_drew1) | exact HB.out)⟩⟩
  case round =>
    clear H'
    obtain ⟨x7_1, rfl, HA, HK1, HB⟩ := hrel
    cases gk with
    | zero => exact absurd HA.out (by simp [impl_txsOk.l0])
    | succ k1 =>
      have H := HA.out
      clear HA
      simp only [impl_txsOk.l0] at H
      by_cases c2 : x7_1 < (l0.length : Int)
      · rw [if_pos c2] at H
        have c2b0 : decide (x7_1 < (l0.length : Int)) = true := decide_eq_true c2
        clear c2
        by_cases c3 : 0 ≤ x7_1
        · rw [if_pos c3] at H
          have c3b0 : decide (0 ≤ x7_1) = true := decide_eq_true c3
          clear c3
          by_cases c4 : x7_1 < (l0.length : Int)
          · rw [if_pos c4] at H
            have c4b0 : decide (x7_1 < (l0.length : Int)) = true := decide_eq_true c4
            clear c4
            replace H := Option.bind_eq_some_iff.mp H
            obtain ⟨t1619, A50, H⟩ := H
            replace H : (if t1619 = true then (impl_txsOk.l0 k1 l0 (l0.length : Int) (wrap64 (x7_1 + 1))) else (some false)) = some r := H
            have A5 := Aside0.mk A50
            clear A50
            by_cases c6 : t1619 = true
            · subst c6
              have H1 : (impl_txsOk.l0 k1 l0 (l0.length : Int) (wrap64 (x7_1 + 1))) = some r := by rw [if_pos rfl] at H; exact H
              clear H
              have H := H1
              clear H1
              have H' := Aside0.mk H
              clear H
              have p1617 : 0 ≤ (x7_1 : Int) := of_decide_eq_true (by first | (with_reducible assumption) | assumption)
              have q1617 : x7_1 < (l0.length : Int) := of_decide_eq_true (by first | (with_reducible assumption) | assumption)
              obtain ⟨ad1617, e1617, hx1617_0, hx1617_1, hx1617_2, hx1617_3, hx1617_4⟩ := at_T186 HR0.out x7_1 p1617 q1617
              cases e1617
              replace hx1617_0 := (HB.out.cell (World.block_lt_of_cell? w _ hx1617_0)).trans hx1617_0
              replace hx1617_1 := (HB.out.cell (World.block_lt_of_cell? w _ hx1617_1)).trans hx1617_1
              replace hx1617_2 := (HB.out.cell (World.block_lt_of_cell? w _ hx1617_2)).trans hx1617_2
              replace hx1617_3 := (HB.out.cell (World.block_lt_of_cell? w _ hx1617_3)).trans hx1617_3
              replace hx1617_4 := (HB.out.cell (World.block_lt_of_cell? w _ hx1617_4)).trans hx1617_4
              replace p1617 := eq_true p1617
              replace q1617 := eq_true q1617
              go_wp2_with (first | ((with_reducible refine gate_dst (N := 4) rfl ?_); refine box_event ?hg (N := 4) ?hd (cs := #[.int .i64 0, .string (⟨#[]⟩ : ByteArray), .string (⟨#[]⟩ : ByteArray), .int .i64 0, .int .i64 0]) (t := 186) ?hr ?_; (case hd => rfl); (case hg => rfl); (case hr => first | (go_simp; done) | (go_simp; rfl)); intro gb1618 hg w7 hbox hb; have n0_ := Aside0.mk (below_step (by repeat (first | (with_reducible first | exact HB.out | apply below_alloc | apply pw_below_drewN | apply below_drew1) | exact HB.out)) hb); have n1_ := Aside0.mk (hbox); have n2_ := Aside0.mk ((by rw [hg]; exact (below_size (by repeat (first | (with_reducible first | exact HB.out | apply below_alloc | apply pw_below_drewN | apply below_drew1) | exact HB.out))) : w.heap.size ≤ gb1618)); have n3_ := n2_; clear HB; have HB := n0_; have BK1618 := n1_; have GW1618 := n2_; have GE1618 := n3_; clear n0_ n1_ n2_ n3_; clear hb hbox hg; obtain ⟨hcz8_0, hcz8_1, hcz8_2, hcz8_3, hcz8_4⟩ := cells5 BK1618.out; obtain ⟨hfz8_0, hfz8_1, hfz8_2, hfz8_3, hfz8_4⟩ := frozens5 BK1618.out) | ((with_reducible refine gate_callee (f := 230) rfl ?_); refine goesL_ (some 12) rfl rfl Try.func230 (by kernel_rfl) rfl #[.agg #[.int .i64 ((rd_T186 l0 x7_1).f0), .string ((rd_T186 l0 x7_1).f1), .string ((rd_T186 l0 x7_1).f2), .int .i64 ((rd_T186 l0 x7_1).f3), .int .i64 ((rd_T186 l0 x7_1).f4)]] rfl (by (try simp only [List.map_toArray, List.map_cons, List.map_nil]); first | done | rfl | (simp only [List.length_drop, List.length_take]; rfl)) ?_; (with_reducible refine (impl_TxOk.calls k1 ((rd_T186 l0 x7_1).f0) ((rd_T186 l0 x7_1).f1) ((rd_T186 l0 x7_1).f2) ((rd_T186 l0 x7_1).f3) ((rd_T186 l0 x7_1).f4) true _ A5.out).mono ?_); rintro e w9 ⟨rfl, hb⟩; refine ⟨_, rfl, ?_⟩; have n0_ := Aside0.mk (blk_below (g := gb1618) (o := .cells #[.int .i64 ((rd_T186 l0 x7_1).f0), .string ((rd_T186 l0 x7_1).f1), .string ((rd_T186 l0 x7_1).f2), .int .i64 ((rd_T186 l0 x7_1).f3), .int .i64 ((rd_T186 l0 x7_1).f4)] 186 (0, 0)) (by (with_reducible repeat (first | refine blk_drewN ?_ _ | refine blk_drew ?_ | refine blk_alloc ?_ _)); refine blk_put (cs := #[.int .i64 ((rd_T186 l0 x7_1).f0), .string ((rd_T186 l0 x7_1).f1), .string ((rd_T186 l0 x7_1).f2), .int .i64 ((rd_T186 l0 x7_1).f3), .int .i64 0]) ?_ 4 _ rfl; (with_reducible repeat (first | refine blk_drewN ?_ _ | refine blk_drew ?_ | refine blk_alloc ?_ _)); refine blk_put (cs := #[.int .i64 ((rd_T186 l0 x7_1).f0), .string ((rd_T186 l0 x7_1).f1), .string ((rd_T186 l0 x7_1).f2), .int .i64 0, .int .i64 0]) ?_ 3 _ rfl; (with_reducible repeat (first | refine blk_drewN ?_ _ | refine blk_drew ?_ | refine blk_alloc ?_ _)); refine blk_put (cs := #[.int .i64 ((rd_T186 l0 x7_1).f0), .string ((rd_T186 l0 x7_1).f1), .string (⟨#[]⟩ : ByteArray), .int .i64 0, .int .i64 0]) ?_ 2 _ rfl; (with_reducible repeat (first | refine blk_drewN ?_ _ | refine blk_drew ?_ | refine blk_alloc ?_ _)); refine blk_put (cs := #[.int .i64 ((rd_T186 l0 x7_1).f0), .string (⟨#[]⟩ : ByteArray), .string (⟨#[]⟩ : ByteArray), .int .i64 0, .int .i64 0]) ?_ 1 _ rfl; (with_reducible repeat (first | refine blk_drewN ?_ _ | refine blk_drew ?_ | refine blk_alloc ?_ _)); refine blk_put (cs := #[.int .i64 0, .string (⟨#[]⟩ : ByteArray), .string (⟨#[]⟩ : ByteArray), .int .i64 0, .int .i64 0]) ?_ 0 _ rfl; (with_reducible repeat (first | refine blk_drewN ?_ _ | refine blk_drew ?_ | refine blk_alloc ?_ _)); exact BK1618.out) hb); have n1_ := Aside0.mk (below_step (by repeat (first | (with_reducible first | exact HB.out | apply below_alloc | apply pw_below_drewN | apply below_drew1 | refine below_set ?_ GE1618.out) | exact HB.out)) hb); clear BK1618; clear HB; have BK1618 := n0_; have HB := n1_; clear n0_ n1_; (try clear hb); (try clear hb2); (try clear hk); (try clear hi)))
              go_roundg k1
              case measure => have := HK1.out; omega
              case rel => exact ⟨(wrap64 (x7_1 + 1)), (by first | rfl | (simp; done) | (simp [*]; done)), H', ⟨by have := HK1.out; omega⟩, ⟨by repeat (first | (with_reducible first | exact HB.out | apply below_alloc | apply pw_below_drewN | apply below_drew1 | refine below_set ?_ GE1618.out) | exact HB.out)⟩⟩
            · replace c6 := Bool.eq_false_iff.mpr c6
              subst c6
              have H1 : (some false) = some r := by rw [if_neg (show ¬ (false = true) by decide)] at H; exact H
              clear H
              have H := H1
              clear H1
              obtain rfl := Option.some.inj H
              have p1617 : 0 ≤ (x7_1 : Int) := of_decide_eq_true (by first | (with_reducible assumption) | assumption)
              have q1617 : x7_1 < (l0.length : Int) := of_decide_eq_true (by first | (with_reducible assumption) | assumption)
              obtain ⟨ad1617, e1617, hx1617_0, hx1617_1, hx1617_2, hx1617_3, hx1617_4⟩ := at_T186 HR0.out x7_1 p1617 q1617
              cases e1617
              replace hx1617_0 := (HB.out.cell (World.block_lt_of_cell? w _ hx1617_0)).trans hx1617_0
              replace hx1617_1 := (HB.out.cell (World.block_lt_of_cell? w _ hx1617_1)).trans hx1617_1
              replace hx1617_2 := (HB.out.cell (World.block_lt_of_cell? w _ hx1617_2)).trans hx1617_2
              replace hx1617_3 := (HB.out.cell (World.block_lt_of_cell? w _ hx1617_3)).trans hx1617_3
              replace hx1617_4 := (HB.out.cell (World.block_lt_of_cell? w _ hx1617_4)).trans hx1617_4
              replace p1617 := eq_true p1617
              replace q1617 := eq_true q1617
              go_wp2_with (first | ((with_reducible refine gate_dst (N := 4) rfl ?_); refine box_event ?hg (N := 4) ?hd (cs := #[.int .i64 0, .string (⟨#[]⟩ : ByteArray), .string (⟨#[]⟩ : ByteArray), .int .i64 0, .int .i64 0]) (t := 186) ?hr ?_; (case hd => rfl); (case hg => rfl); (case hr => first | (go_simp; done) | (go_simp; rfl)); intro gb1618 hg w10 hbox hb; have n0_ := Aside0.mk (below_step (by repeat (first | (with_reducible first | exact HB.out | apply below_alloc | apply pw_below_drewN | apply below_drew1) | exact HB.out)) hb); have n1_ := Aside0.mk (hbox); have n2_ := Aside0.mk ((by rw [hg]; exact (below_size (by repeat (first | (with_reducible first | exact HB.out | apply below_alloc | apply pw_below_drewN | apply below_drew1) | exact HB.out))) : w.heap.size ≤ gb1618)); have n3_ := n2_; clear HB; have HB := n0_; have BK1618 := n1_; have GW1618 := n2_; have GE1618 := n3_; clear n0_ n1_ n2_ n3_; clear hb hbox hg; obtain ⟨hcz11_0, hcz11_1, hcz11_2, hcz11_3, hcz11_4⟩ := cells5 BK1618.out; obtain ⟨hfz11_0, hfz11_1, hfz11_2, hfz11_3, hfz11_4⟩ := frozens5 BK1618.out) | ((with_reducible refine gate_callee (f := 230) rfl ?_); refine goesL_ (some 12) rfl rfl Try.func230 (by kernel_rfl) rfl #[.agg #[.int .i64 ((rd_T186 l0 x7_1).f0), .string ((rd_T186 l0 x7_1).f1), .string ((rd_T186 l0 x7_1).f2), .int .i64 ((rd_T186 l0 x7_1).f3), .int .i64 ((rd_T186 l0 x7_1).f4)]] rfl (by (try simp only [List.map_toArray, List.map_cons, List.map_nil]); first | done | rfl | (simp only [List.length_drop, List.length_take]; rfl)) ?_; (with_reducible refine (impl_TxOk.calls k1 ((rd_T186 l0 x7_1).f0) ((rd_T186 l0 x7_1).f1) ((rd_T186 l0 x7_1).f2) ((rd_T186 l0 x7_1).f3) ((rd_T186 l0 x7_1).f4) false _ A5.out).mono ?_); rintro e w12 ⟨rfl, hb⟩; refine ⟨_, rfl, ?_⟩; have n0_ := Aside0.mk (blk_below (g := gb1618) (o := .cells #[.int .i64 ((rd_T186 l0 x7_1).f0), .string ((rd_T186 l0 x7_1).f1), .string ((rd_T186 l0 x7_1).f2), .int .i64 ((rd_T186 l0 x7_1).f3), .int .i64 ((rd_T186 l0 x7_1).f4)] 186 (0, 0)) (by (with_reducible repeat (first | refine blk_drewN ?_ _ | refine blk_drew ?_ | refine blk_alloc ?_ _)); refine blk_put (cs := #[.int .i64 ((rd_T186 l0 x7_1).f0), .string ((rd_T186 l0 x7_1).f1), .string ((rd_T186 l0 x7_1).f2), .int .i64 ((rd_T186 l0 x7_1).f3), .int .i64 0]) ?_ 4 _ rfl; (with_reducible repeat (first | refine blk_drewN ?_ _ | refine blk_drew ?_ | refine blk_alloc ?_ _)); refine blk_put (cs := #[.int .i64 ((rd_T186 l0 x7_1).f0), .string ((rd_T186 l0 x7_1).f1), .string ((rd_T186 l0 x7_1).f2), .int .i64 0, .int .i64 0]) ?_ 3 _ rfl; (with_reducible repeat (first | refine blk_drewN ?_ _ | refine blk_drew ?_ | refine blk_alloc ?_ _)); refine blk_put (cs := #[.int .i64 ((rd_T186 l0 x7_1).f0), .string ((rd_T186 l0 x7_1).f1), .string (⟨#[]⟩ : ByteArray), .int .i64 0, .int .i64 0]) ?_ 2 _ rfl; (with_reducible repeat (first | refine blk_drewN ?_ _ | refine blk_drew ?_ | refine blk_alloc ?_ _)); refine blk_put (cs := #[.int .i64 ((rd_T186 l0 x7_1).f0), .string (⟨#[]⟩ : ByteArray), .string (⟨#[]⟩ : ByteArray), .int .i64 0, .int .i64 0]) ?_ 1 _ rfl; (with_reducible repeat (first | refine blk_drewN ?_ _ | refine blk_drew ?_ | refine blk_alloc ?_ _)); refine blk_put (cs := #[.int .i64 0, .string (⟨#[]⟩ : ByteArray), .string (⟨#[]⟩ : ByteArray), .int .i64 0, .int .i64 0]) ?_ 0 _ rfl; (with_reducible repeat (first | refine blk_drewN ?_ _ | refine blk_drew ?_ | refine blk_alloc ?_ _)); exact BK1618.out) hb); have n1_ := Aside0.mk (below_step (by repeat (first | (with_reducible first | exact HB.out | apply below_alloc | apply pw_below_drewN | apply below_drew1 | refine below_set ?_ GE1618.out) | exact HB.out)) hb); clear BK1618; clear HB; have BK1618 := n0_; have HB := n1_; clear n0_ n1_; (try clear hb); (try clear hb2); (try clear hk); (try clear hi)))
              go_ret
              exact ⟨by first | rfl | (simp [errW_none, errW_some] <;> rfl) | (simp [*, errW_none, errW_some] <;> rfl), by repeat (first | (with_reducible first | exact HB.out | apply below_alloc | apply pw_below_drewN | apply below_drew1 | refine below_set ?_ GE1618.out) | exact HB.out)⟩
          · rw [if_neg c4] at H
            exact absurd H (by simp)
        · rw [if_neg c3] at H
          exact absurd H (by simp)
      · rw [if_neg c2] at H
        have c2b0 : decide (x7_1 < (l0.length : Int)) = false := decide_eq_false c2
        clear c2
        obtain rfl := Option.some.inj H
        go_wp2
        go_ret
        exact ⟨by first | rfl | (simp [errW_none, errW_some] <;> rfl) | (simp [*, errW_none, errW_some] <;> rfl), by repeat (first | (with_reducible first | exact HB.out | apply below_alloc | apply pw_below_drewN | apply below_drew1) | exact HB.out)⟩

theorem impl_txsOk.is {l : List S186} (hx : l.length ≤ maxLen) (hxs : ∀ t ∈ l, t.f1.size ≤ maxLen ∧ t.f2.size ≤ maxLen) : Ev (fun k => impl_txsOk.f k l) (allUpto l.length (fun i => txOk (rd_T186 l (i : Int)))) := by
  have hm : maxLen = 9223372036854775807 := rfl
  unfold impl_txsOk.f
  refine Ev.to (ev_all (tail := true) (fun k i => impl_txsOk.l0 k l l.length i) ?_ (fun i hi r' ih => ?_)) (Bool.and_true _)
  · simp only [impl_txsOk.l0]
    exact Ev.no (by omega) (Ev.now _)
  · simp only [impl_txsOk.l0]
    refine Ev.yes (by omega) (Ev.yes (by omega) (Ev.yes (by omega) ?_))
    rw [unw (x := (i : Int) + 1) (by omega) (by omega)]
    have hmem := hxs (rd_T186 l (i : Int)) (getD_mem (by omega) _)
    refine Ev.bind (impl_TxOk.is hmem.1 hmem.2) (Ev.cond (fun hc => Ev.to ih (by rw [hc]; simp)) (fun hc => Ev.is (by rw [Bool.eq_false_iff.2 hc]; simp)))
theorem impl_txsOk.does {l : List S186} (hx : l.length ≤ maxLen) (hxs : ∀ t ∈ l, t.f1.size ≤ maxLen ∧ t.f2.size ≤ maxLen) {B : Option Addr} {c : Nat} {w : World} (hr : Kd.C k186 w B l.length l) (hc : l.length ≤ c) : Calls Try.prog 201 #[.slice B l.length c] w fun e w' => e = .returned (.bool (allUpto l.length (fun i => txOk (rd_T186 l (i : Int))))) ∧ Below w.heap.size w w' := by
  obtain ⟨k, h⟩ := (impl_txsOk.is hx hxs).rounds
  exact (impl_txsOk.calls (hr0 := hr) (hc0 := hc) (h := h)).mono fun _ _ ⟨a, b⟩ => ⟨a, b⟩

end Go.Proofs.Ytadkhkpchankjaa.F
