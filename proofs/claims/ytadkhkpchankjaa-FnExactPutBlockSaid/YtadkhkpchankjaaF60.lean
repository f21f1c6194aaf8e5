/-
Functions of the program, what they come to, and that Go comes to just that: laws_eqTx, laws_eqTxS, laws_markTxS.
Conditions: those that each theorem names.
-/
import Derived.Test.YtadkhkpchankjaaFAbs
import Derived.Test.YtadkhkpchankjaaF40
import Derived.Test.YtadkhkpchankjaaWKept
import Derived.Test.YtadkhkpchankjaaFew
import Derived.Test.YtadkhkpchankjaaMark
import Derived.Test.YtadkhkpchankjaaFam
set_option linter.unusedVariables false
set_option linter.unusedSimpArgs false
namespace Go.Proofs.Ytadkhkpchankjaa.F
open Go.RowKit Go.Proofs.YtadkhkpchankjaaW.PrintWords Go.Proofs.YtadkhkpchankjaaW.PrintLast Go.Proofs.Ytadkhkpchankjaa.Base Go.Proofs.Ytadkhkpchankjaa.BW
open Go.Proofs.Ytadkhkpchankjaa.Mark
open Go.Proofs.Ytadkhkpchankjaa.FamW
open Go.Proofs.Ytadkhkpchankjaa.Few

/-! ### laws_eqTx: printed by compact.py -/
set_option maxHeartbeats 2000000 in
set_option maxRecDepth 100000 in
theorem laws_eqTx.same {x : S186} {cs ds : List Value} {w : World} (hK : k186.K w x cs) (hL : k186.K w x ds) :
    Calls Try.prog 169 #[.agg cs.toArray, .agg ds.toArray] w fun e w' => e = .returned (.bool true) ∧ Below w.heap.size w w' := by
  obtain rfl := k186_open hK
  obtain rfl := k186_open hL
  clear hK hL 
  go_enter Try.func169, Try.ntmps169
  go_wp2
  go_ret
  exact ⟨rfl, atop (atop (Below.refl _ _))⟩

/-! ### laws_eqTxS: printed by compact.py -/
set_option maxHeartbeats 2000000 in
set_option maxRecDepth 100000 in
theorem laws_eqTxS.same {xs : List S186} (hl : (fun l : List S186 => l.length ≤ 9223372036854775807) xs) {B D : Option Addr} {c d : Nat} {w : World} (hr : Kd.C k186 w B xs.length xs) (hc : xs.length ≤ c) (hs : Kd.C k186 w D xs.length xs) (hd : xs.length ≤ d) :
    Calls Try.prog 87 #[.slice B xs.length c, .slice D xs.length d] w fun e w' => e = .returned (.bool true) ∧ Below w.heap.size w w' := by
  have hn : (xs.length : Int) ≤ 9223372036854775807 := by have := hl; omega
  have HR := Aside0.mk hr
  have HS := Aside0.mk hs
  clear hr hs hl
  go_enter Try.func87, Try.ntmps87
  go_wp2
  go_loopg [5] xs.length (fun g v5 w' => ∃ (i : Int) (e : On w), v5 = .int .i64 i ∧ w' = e.now ∧ 0 ≤ i ∧ i ≤ xs.length ∧ Aside0 ((xs.length : Int) - i ≤ g))
  case atStart => exact ⟨0, On.here w, rfl, rfl, Int.le_refl _, by omega, ⟨by omega⟩⟩
  case round =>
    obtain ⟨i, e, rfl, rfl, hi0, hi1, HG⟩ := hrel
    by_cases c1 : i < (xs.length : Int)
    rotate_left
    · go_wp2
      go_ret
      exact ⟨rfl, e.ok⟩
    obtain ⟨ad, e1, h0, h1, h2, h3, h4⟩ := at_T186 HR.out i hi0 c1
    cases e1
    obtain ⟨ad', e1, k0, k1, k2, k3, k4⟩ := at_T186 HS.out i hi0 c1
    cases e1
    have E1 := Aside0.mk (fun e : On w => laws_eqTx.same (x := (rd_T186 xs i)) (k186_mk e.now (rd_T186 xs i)) (k186_mk e.now (rd_T186 xs i)))
    have R0 := On.cell h0
    have S0 := On.cell k0
    have R1 := On.cell h1
    have S1 := On.cell k1
    have R2 := On.cell h2
    have S2 := On.cell k2
    have R3 := On.cell h3
    have S3 := On.cell k3
    have R4 := On.cell h4
    have S4 := On.cell k4
    clear h0 k0 h1 k1 h2 k2 h3 k3 h4 k4
    go_wp2
    refine BW.region (by kernel_rfl) (by kernel_rfl) ?_
    repeat (go_big_quiet_step (first | exact BW.quiet (E1.out _)))
    refine wpQuiet_nil ?_
    rintro _ ⟨e2, rfl⟩
    go_wp2
    go_roundg (xs.length - i.toNat - 1)
    case measure => have := HG.out; omega
    case rel => exact ⟨i + 1, e2, rfl, rfl, by omega, by omega, ⟨by omega⟩⟩

/-! ### laws_markTxS: function 88 -/
def laws_markTxS.l0 : Nat → List (S186) → Int → Int → Option (Int × (List (S186)))
  | 0, _, _, _ => none
  | k + 1, x0, x1, x5 => if x5 < (x0.length : Int) then (if 0 ≤ x5 then ((some (x0.set (x5 : Int).toNat (⟨x1, (rd_T186 x0 x5).f1, (rd_T186 x0 x5).f2, (rd_T186 x0 x5).f3, (rd_T186 x0 x5).f4⟩ : S186) : List (S186))).bind fun y1214 => ((laws_markText.f k (wrap64 (x1 + 1))).bind fun t1215 => ((some (y1214.set (x5 : Int).toNat (⟨(rd_T186 y1214 x5).f0, t1215, (rd_T186 y1214 x5).f2, (rd_T186 y1214 x5).f3, (rd_T186 y1214 x5).f4⟩ : S186) : List (S186))).bind fun y1216 => ((laws_markText.f k (wrap64 ((wrap64 (x1 + 1)) + 1))).bind fun t1217 => ((some (y1216.set (x5 : Int).toNat (⟨(rd_T186 y1216 x5).f0, (rd_T186 y1216 x5).f1, t1217, (rd_T186 y1216 x5).f3, (rd_T186 y1216 x5).f4⟩ : S186) : List (S186))).bind fun y1218 => ((some (y1218.set (x5 : Int).toNat (⟨(rd_T186 y1218 x5).f0, (rd_T186 y1218 x5).f1, (rd_T186 y1218 x5).f2, wrap64 ((wrap64 ((wrap64 (x1 + 1)) + 1)) + 1), (rd_T186 y1218 x5).f4⟩ : S186) : List (S186))).bind fun y1219 => (laws_markTxS.l0 k (y1219.set (x5 : Int).toNat (⟨(rd_T186 y1219 x5).f0, (rd_T186 y1219 x5).f1, (rd_T186 y1219 x5).f2, (rd_T186 y1219 x5).f3, wrap64 ((wrap64 ((wrap64 ((wrap64 (x1 + 1)) + 1)) + 1)) + 1)⟩ : S186)) (wrap64 ((wrap64 ((wrap64 ((wrap64 ((wrap64 (x1 + 1)) + 1)) + 1)) + 1)) + 1)) (wrap64 (x5 + 1))))))))) else (none)) else (some (x1, x0))
def laws_markTxS.f (k : Nat) (l0 : List (S186)) (a1 : Int) : Option (Int × (List (S186))) := laws_markTxS.l0 k l0 a1 0
theorem laws_markTxS.mono_l : ∀ k, (∀ y0 y1 y2, LeO (laws_markTxS.l0 k y0 y1 y2) (laws_markTxS.l0 (k + 1) y0 y1 y2))
  | 0 => fun _ _ _ r h => by simp [laws_markTxS.l0] at h
  | k + 1 => by
    have ih0 := laws_markTxS.mono_l k
    · intro y0 y1 y2
      unfold laws_markTxS.l0
      repeat' first
      | (with_reducible exact ih0 _ _ _)
      | (with_reducible exact laws_markText.mono _ _)
      | (with_reducible exact LeO.refl _)
      | (with_reducible exact LeO.none _)
      | (with_reducible refine LeO.ite ?_ ?_)
      | (with_reducible refine LeO.bind ?_ (fun _ => ?_))
      | exact ih0 _ _ _
      | exact laws_markText.mono _ _
      | exact LeO.none _
      | refine LeO.ite ?_ ?_
      | refine LeO.bind ?_ (fun _ => ?_)
theorem laws_markTxS.mono : ∀ a0 a1 k, LeO (laws_markTxS.f k a0 a1) (laws_markTxS.f (k + 1) a0 a1) := by
  intro a0 a1 k
  have ih0 := laws_markTxS.mono_l k
  unfold laws_markTxS.f
  repeat' first
      | (with_reducible exact ih0 _ _ _)
      | (with_reducible exact laws_markText.mono _ _)
      | (with_reducible exact LeO.refl _)
      | (with_reducible exact LeO.none _)
      | (with_reducible refine LeO.ite ?_ ?_)
      | (with_reducible refine LeO.bind ?_ (fun _ => ?_))
      | exact ih0 _ _ _
      | exact laws_markText.mono _ _
      | exact LeO.none _
      | refine LeO.ite ?_ ?_
      | refine LeO.bind ?_ (fun _ => ?_)
set_option maxHeartbeats 8000000 in
set_option maxRecDepth 100000 in
theorem laws_markTxS.calls (k : Nat) (P0_ : Nat → Prop) (u9000_ : Value) (l0 : List (S186)) (a1 : Int) (r1 : Int) (r2 : List (S186)) (w0 w : World) (hB : Below w0.heap.size w0 w) (ho0 : Kd.R k186 186 w w0.heap.size P0_ u9000_ l0) (h : laws_markTxS.f k l0 a1 = some (r1, r2)) :
    Calls Try.prog 88 #[u9000_, .int .i64 a1] w fun e w' => e = .returned (.int .i64 r1) ∧ Kd.R k186 186 w' w0.heap.size (fun k_ => (P0_ k_ ∨ w.heap.size ≤ k_)) u9000_ r2 ∧ Below w0.heap.size w0 w' ∧ Kept w w' (fun k_ => P0_ k_) := by
  have HO0 := Aside0.mk (show Kd.R k186 186 w w0.heap.size (fun k_ => (P0_ k_ ∨ w.heap.size ≤ k_)) u9000_ l0 from Kd.R_mono ho0 (fun k_ hk => (.inl hk)))
  have HK := Aside0.mk (Kept.refl w (fun k_ => P0_ k_))
  have HW0 := Aside0.mk hB.size
  have HB := Aside0.mk hB
  clear hB
  have H : (laws_markTxS.l0 k l0 a1 0) = some (r1, r2) := h
  clear h
  have H' := Aside0.mk H
  clear H
  go_enter Try.func88, Try.ntmps88
  go_wp2
  go_loopg [1, 5] k (fun kq v1 v5 w' => ∃ (x0_1 : List (S186)) (x1_1 : Int) (x5_1 : Int), v1 = .int .i64 x1_1 ∧ v5 = .int .i64 x5_1 ∧ Aside0 (laws_markTxS.l0 kq x0_1 x1_1 x5_1 = some (r1, r2)) ∧ Aside0 (kq ≤ k) ∧ Aside0 (Kd.R k186 186 w' w0.heap.size (fun k_ => (P0_ k_ ∨ w.heap.size ≤ k_)) u9000_ x0_1) ∧ Aside0 (Kept w w' (fun k_ => P0_ k_)) ∧ Aside0 (Below w0.heap.size w0 w'))
  case atStart => exact ⟨(l0), (a1), (0), (by first | rfl | (simp; done) | (simp [*]; done)), (by first | rfl | (simp; done) | (simp [*]; done)), H', ⟨Nat.le_refl _⟩, ⟨by (with_reducible repeat (first | apply Kd.R_alloc | apply Kd.R_drewN | apply Kd.R_drew)); exact HO0.out⟩, ⟨by repeat (first | (with_reducible first | exact HK.out | apply Kept.alloc | apply Kept.drewN | apply Kept.drew) | exact HK.out)⟩, ⟨by repeat (first | (with_reducible first | exact HB.out | apply below_alloc | apply pw_below_drewN | apply below_drew1) | exact HB.out)⟩⟩
  case round =>
    clear H'
    try clear p2
    obtain ⟨x0_1, x1_1, x5_1, rfl, rfl, HA, HK1, HO_0, HK, HB⟩ := hrel
    cases gk with
    | zero => exact absurd HA.out (by simp [laws_markTxS.l0])
    | succ k1 =>
      have H := HA.out
      clear HA
      simp only [laws_markTxS.l0] at H
      by_cases c3 : x5_1 < (x0_1.length : Int)
      · rw [if_pos c3] at H
        have c3b0 : decide (x5_1 < (x0_1.length : Int)) = true := decide_eq_true c3
        clear c3
        by_cases c4 : 0 ≤ x5_1
        · rw [if_pos c4] at H
          have c4b0 : decide (0 ≤ x5_1) = true := decide_eq_true c4
          clear c4
          obtain ⟨y1214, hy1214⟩ : ∃ y_ : List (S186), y_ = (x0_1.set (x5_1 : Int).toNat (⟨x1_1, (rd_T186 x0_1 x5_1).f1, (rd_T186 x0_1 x5_1).f2, (rd_T186 x0_1 x5_1).f3, (rd_T186 x0_1 x5_1).f4⟩ : S186)) := ⟨_, rfl⟩
          replace H : ((laws_markText.f k1 (wrap64 (x1_1 + 1))).bind fun t1215 => ((some (y1214.set (x5_1 : Int).toNat (⟨(rd_T186 y1214 x5_1).f0, t1215, (rd_T186 y1214 x5_1).f2, (rd_T186 y1214 x5_1).f3, (rd_T186 y1214 x5_1).f4⟩ : S186) : List (S186))).bind fun y1216 => ((laws_markText.f k1 (wrap64 ((wrap64 (x1_1 + 1)) + 1))).bind fun t1217 => ((some (y1216.set (x5_1 : Int).toNat (⟨(rd_T186 y1216 x5_1).f0, (rd_T186 y1216 x5_1).f1, t1217, (rd_T186 y1216 x5_1).f3, (rd_T186 y1216 x5_1).f4⟩ : S186) : List (S186))).bind fun y1218 => ((some (y1218.set (x5_1 : Int).toNat (⟨(rd_T186 y1218 x5_1).f0, (rd_T186 y1218 x5_1).f1, (rd_T186 y1218 x5_1).f2, wrap64 ((wrap64 ((wrap64 (x1_1 + 1)) + 1)) + 1), (rd_T186 y1218 x5_1).f4⟩ : S186) : List (S186))).bind fun y1219 => (laws_markTxS.l0 k1 (y1219.set (x5_1 : Int).toNat (⟨(rd_T186 y1219 x5_1).f0, (rd_T186 y1219 x5_1).f1, (rd_T186 y1219 x5_1).f2, (rd_T186 y1219 x5_1).f3, wrap64 ((wrap64 ((wrap64 ((wrap64 (x1_1 + 1)) + 1)) + 1)) + 1)⟩ : S186)) (wrap64 ((wrap64 ((wrap64 ((wrap64 ((wrap64 (x1_1 + 1)) + 1)) + 1)) + 1)) + 1)) (wrap64 (x5_1 + 1)))))))) = some (r1, r2) := by first | (rw [hy1214]; with_reducible exact H) | (have H2_ := (Option.bind_some _ _).symm.trans H; rw [hy1214]; with_reducible exact H2_) | (have H2_ := (Option.bind_some _ _).symm.trans H; with_reducible exact H2_) | with_reducible exact H | (rw [hy1214]; exact H) | exact H
          have Ny1214 := Aside0.mk hy1214
          clear hy1214
          replace H := Option.bind_eq_some_iff.mp H
          obtain ⟨t1215, A60, H⟩ := H
          replace H : ((some (y1214.set (x5_1 : Int).toNat (⟨(rd_T186 y1214 x5_1).f0, t1215, (rd_T186 y1214 x5_1).f2, (rd_T186 y1214 x5_1).f3, (rd_T186 y1214 x5_1).f4⟩ : S186) : List (S186))).bind fun y1216 => ((laws_markText.f k1 (wrap64 ((wrap64 (x1_1 + 1)) + 1))).bind fun t1217 => ((some (y1216.set (x5_1 : Int).toNat (⟨(rd_T186 y1216 x5_1).f0, (rd_T186 y1216 x5_1).f1, t1217, (rd_T186 y1216 x5_1).f3, (rd_T186 y1216 x5_1).f4⟩ : S186) : List (S186))).bind fun y1218 => ((some (y1218.set (x5_1 : Int).toNat (⟨(rd_T186 y1218 x5_1).f0, (rd_T186 y1218 x5_1).f1, (rd_T186 y1218 x5_1).f2, wrap64 ((wrap64 ((wrap64 (x1_1 + 1)) + 1)) + 1), (rd_T186 y1218 x5_1).f4⟩ : S186) : List (S186))).bind fun y1219 => (laws_markTxS.l0 k1 (y1219.set (x5_1 : Int).toNat (⟨(rd_T186 y1219 x5_1).f0, (rd_T186 y1219 x5_1).f1, (rd_T186 y1219 x5_1).f2, (rd_T186 y1219 x5_1).f3, wrap64 ((wrap64 ((wrap64 ((wrap64 (x1_1 + 1)) + 1)) + 1)) + 1)⟩ : S186)) (wrap64 ((wrap64 ((wrap64 ((wrap64 ((wrap64 (x1_1 + 1)) + 1)) + 1)) + 1)) + 1)) (wrap64 (x5_1 + 1))))))) = some (r1, r2) := H
          have A6 := Aside0.mk A60
          clear A60
          obtain ⟨y1216, hy1216⟩ : ∃ y_ : List (S186), y_ = (y1214.set (x5_1 : Int).toNat (⟨(rd_T186 y1214 x5_1).f0, t1215, (rd_T186 y1214 x5_1).f2, (rd_T186 y1214 x5_1).f3, (rd_T186 y1214 x5_1).f4⟩ : S186)) := ⟨_, rfl⟩
          replace H : ((laws_markText.f k1 (wrap64 ((wrap64 (x1_1 + 1)) + 1))).bind fun t1217 => ((some (y1216.set (x5_1 : Int).toNat (⟨(rd_T186 y1216 x5_1).f0, (rd_T186 y1216 x5_1).f1, t1217, (rd_T186 y1216 x5_1).f3, (rd_T186 y1216 x5_1).f4⟩ : S186) : List (S186))).bind fun y1218 => ((some (y1218.set (x5_1 : Int).toNat (⟨(rd_T186 y1218 x5_1).f0, (rd_T186 y1218 x5_1).f1, (rd_T186 y1218 x5_1).f2, wrap64 ((wrap64 ((wrap64 (x1_1 + 1)) + 1)) + 1), (rd_T186 y1218 x5_1).f4⟩ : S186) : List (S186))).bind fun y1219 => (laws_markTxS.l0 k1 (y1219.set (x5_1 : Int).toNat (⟨(rd_T186 y1219 x5_1).f0, (rd_T186 y1219 x5_1).f1, (rd_T186 y1219 x5_1).f2, (rd_T186 y1219 x5_1).f3, wrap64 ((wrap64 ((wrap64 ((wrap64 (x1_1 + 1)) + 1)) + 1)) + 1)⟩ : S186)) (wrap64 ((wrap64 ((wrap64 ((wrap64 ((wrap64 (x1_1 + 1)) + 1)) + 1)) + 1)) + 1)) (wrap64 (x5_1 + 1)))))) = some (r1, r2) := by first | (rw [hy1216]; with_reducible exact H) | (have H2_ := (Option.bind_some _ _).symm.trans H; rw [hy1216]; with_reducible exact H2_) | (have H2_ := (Option.bind_some _ _).symm.trans H; with_reducible exact H2_) | with_reducible exact H | (rw [hy1216]; exact H) | exact H
          have Ny1216 := Aside0.mk hy1216
          clear hy1216
          replace H := Option.bind_eq_some_iff.mp H
          obtain ⟨t1217, A80, H⟩ := H
          replace H : ((some (y1216.set (x5_1 : Int).toNat (⟨(rd_T186 y1216 x5_1).f0, (rd_T186 y1216 x5_1).f1, t1217, (rd_T186 y1216 x5_1).f3, (rd_T186 y1216 x5_1).f4⟩ : S186) : List (S186))).bind fun y1218 => ((some (y1218.set (x5_1 : Int).toNat (⟨(rd_T186 y1218 x5_1).f0, (rd_T186 y1218 x5_1).f1, (rd_T186 y1218 x5_1).f2, wrap64 ((wrap64 ((wrap64 (x1_1 + 1)) + 1)) + 1), (rd_T186 y1218 x5_1).f4⟩ : S186) : List (S186))).bind fun y1219 => (laws_markTxS.l0 k1 (y1219.set (x5_1 : Int).toNat (⟨(rd_T186 y1219 x5_1).f0, (rd_T186 y1219 x5_1).f1, (rd_T186 y1219 x5_1).f2, (rd_T186 y1219 x5_1).f3, wrap64 ((wrap64 ((wrap64 ((wrap64 (x1_1 + 1)) + 1)) + 1)) + 1)⟩ : S186)) (wrap64 ((wrap64 ((wrap64 ((wrap64 ((wrap64 (x1_1 + 1)) + 1)) + 1)) + 1)) + 1)) (wrap64 (x5_1 + 1))))) = some (r1, r2) := H
          have A8 := Aside0.mk A80
          clear A80
          obtain ⟨y1218, hy1218⟩ : ∃ y_ : List (S186), y_ = (y1216.set (x5_1 : Int).toNat (⟨(rd_T186 y1216 x5_1).f0, (rd_T186 y1216 x5_1).f1, t1217, (rd_T186 y1216 x5_1).f3, (rd_T186 y1216 x5_1).f4⟩ : S186)) := ⟨_, rfl⟩
          replace H : ((some (y1218.set (x5_1 : Int).toNat (⟨(rd_T186 y1218 x5_1).f0, (rd_T186 y1218 x5_1).f1, (rd_T186 y1218 x5_1).f2, wrap64 ((wrap64 ((wrap64 (x1_1 + 1)) + 1)) + 1), (rd_T186 y1218 x5_1).f4⟩ : S186) : List (S186))).bind fun y1219 => (laws_markTxS.l0 k1 (y1219.set (x5_1 : Int).toNat (⟨(rd_T186 y1219 x5_1).f0, (rd_T186 y1219 x5_1).f1, (rd_T186 y1219 x5_1).f2, (rd_T186 y1219 x5_1).f3, wrap64 ((wrap64 ((wrap64 ((wrap64 (x1_1 + 1)) + 1)) + 1)) + 1)⟩ : S186)) (wrap64 ((wrap64 ((wrap64 ((wrap64 ((wrap64 (x1_1 + 1)) + 1)) + 1)) + 1)) + 1)) (wrap64 (x5_1 + 1)))) = some (r1, r2) := by first | (rw [hy1218]; with_reducible exact H) | (have H2_ := (Option.bind_some _ _).symm.trans H; rw [hy1218]; with_reducible exact H2_) | (have H2_ := (Option.bind_some _ _).symm.trans H; with_reducible exact H2_) | with_reducible exact H | (rw [hy1218]; exact H) | exact H
          have Ny1218 := Aside0.mk hy1218
          clear hy1218
          obtain ⟨y1219, hy1219⟩ : ∃ y_ : List (S186), y_ = (y1218.set (x5_1 : Int).toNat (⟨(rd_T186 y1218 x5_1).f0, (rd_T186 y1218 x5_1).f1, (rd_T186 y1218 x5_1).f2, wrap64 ((wrap64 ((wrap64 (x1_1 + 1)) + 1)) + 1), (rd_T186 y1218 x5_1).f4⟩ : S186)) := ⟨_, rfl⟩
          replace H : (laws_markTxS.l0 k1 (y1219.set (x5_1 : Int).toNat (⟨(rd_T186 y1219 x5_1).f0, (rd_T186 y1219 x5_1).f1, (rd_T186 y1219 x5_1).f2, (rd_T186 y1219 x5_1).f3, wrap64 ((wrap64 ((wrap64 ((wrap64 (x1_1 + 1)) + 1)) + 1)) + 1)⟩ : S186)) (wrap64 ((wrap64 ((wrap64 ((wrap64 ((wrap64 (x1_1 + 1)) + 1)) + 1)) + 1)) + 1)) (wrap64 (x5_1 + 1))) = some (r1, r2) := by first | (rw [hy1219]; with_reducible exact H) | (have H2_ := (Option.bind_some _ _).symm.trans H; rw [hy1219]; with_reducible exact H2_) | (have H2_ := (Option.bind_some _ _).symm.trans H; with_reducible exact H2_) | with_reducible exact H | (rw [hy1219]; exact H) | exact H
          have Ny1219 := Aside0.mk hy1219
          clear hy1219
          obtain ⟨y1220, hy1220⟩ : ∃ y_ : List (S186), y_ = (y1219.set (x5_1 : Int).toNat (⟨(rd_T186 y1219 x5_1).f0, (rd_T186 y1219 x5_1).f1, (rd_T186 y1219 x5_1).f2, (rd_T186 y1219 x5_1).f3, wrap64 ((wrap64 ((wrap64 ((wrap64 (x1_1 + 1)) + 1)) + 1)) + 1)⟩ : S186)) := ⟨_, rfl⟩
          replace H : (laws_markTxS.l0 k1 y1220 (wrap64 ((wrap64 ((wrap64 ((wrap64 ((wrap64 (x1_1 + 1)) + 1)) + 1)) + 1)) + 1)) (wrap64 (x5_1 + 1))) = some (r1, r2) := by first | (rw [hy1220]; with_reducible exact H) | (have H2_ := (Option.bind_some _ _).symm.trans H; rw [hy1220]; with_reducible exact H2_) | (have H2_ := (Option.bind_some _ _).symm.trans H; with_reducible exact H2_) | with_reducible exact H | (rw [hy1220]; exact H) | exact H
          have Ny1220 := Aside0.mk hy1220
          clear hy1220
          have H' := Aside0.mk H
          clear H
          obtain ⟨Ao12, co12, eo12⟩ := Kd.R_slice HO_0.out
          subst eo12
          have p5 : 0 ≤ (x5_1 : Int) := of_decide_eq_true (by first | (with_reducible assumption) | assumption)
          have q5 : (x5_1 : Int) < ((x0_1.length : Int) : Int) := of_decide_eq_true (by first | (with_reducible assumption) | assumption)
          obtain ⟨go5, co5, eo5, gb5, gl5, cl5, HG5⟩ := Kd.R_form HO_0.out (by omega)
          (first | cases eo5 | (injection eo5 with ea_ en_ ec_; (first | subst ea_ | (injection ea_ with ea_; subst ea_)); subst ec_; clear en_))
          have GB5 := Aside0.mk gb5
          have GG5 := Aside0.mk HG5
          clear gb5 gl5 HG5
          have HMgo5 := Aside0.mk (show (P0_ go5 ∨ w.heap.size ≤ go5) from (HO_0.out.1 _ rfl))
          obtain ⟨ce5, hcl5, hM5, hcc5, hfr5⟩ := Kd.R_elem HO_0.out z186 (x5_1 : Int) p5 q5
          obtain rfl := k186_openM hM5
          have hx5_0 : wr.cell? ⟨go5, (x5_1 : Int).toNat * 5, none⟩ = some (.int .i64 ((rd_T186 x0_1 x5_1).f0)) := hcc5 0 _ rfl
          have hx5_1 : wr.cell? ⟨go5, (x5_1 : Int).toNat * 5 + 1, none⟩ = some (.string ((rd_T186 x0_1 x5_1).f1)) := hcc5 1 _ rfl
          have hx5_2 : wr.cell? ⟨go5, (x5_1 : Int).toNat * 5 + 2, none⟩ = some (.string ((rd_T186 x0_1 x5_1).f2)) := hcc5 2 _ rfl
          have hx5_3 : wr.cell? ⟨go5, (x5_1 : Int).toNat * 5 + 3, none⟩ = some (.int .i64 ((rd_T186 x0_1 x5_1).f3)) := hcc5 3 _ rfl
          have hx5_4 : wr.cell? ⟨go5, (x5_1 : Int).toNat * 5 + 4, none⟩ = some (.int .i64 ((rd_T186 x0_1 x5_1).f4)) := hcc5 4 _ rfl
          have hf5_0 : wr.frozen? ⟨go5, (x5_1 : Int).toNat * 5, none⟩ = false := hfr5 0
          have hf5_1 : wr.frozen? ⟨go5, (x5_1 : Int).toNat * 5 + 1, none⟩ = false := hfr5 1
          have hf5_2 : wr.frozen? ⟨go5, (x5_1 : Int).toNat * 5 + 2, none⟩ = false := hfr5 2
          have hf5_3 : wr.frozen? ⟨go5, (x5_1 : Int).toNat * 5 + 3, none⟩ = false := hfr5 3
          have hf5_4 : wr.frozen? ⟨go5, (x5_1 : Int).toNat * 5 + 4, none⟩ = false := hfr5 4
          clear hcl5 hcc5 hfr5 hM5
          replace p5 := eq_true p5
          replace q5 := eq_true q5
          have HX13 := Aside0.mk (show Kd.R k186 186 wr w0.heap.size (fun k_ => (P0_ k_ ∨ w.heap.size ≤ k_)) (.slice (some ⟨go5, 0, none⟩) x0_1.length co12) x0_1 from (by (with_reducible repeat (first | apply Kd.R_alloc | apply Kd.R_drewN | apply Kd.R_drew)); exact HO_0.out))
          obtain ⟨ce13, hcl13, hM13, hcc13, hfr13⟩ := Kd.R_elem HX13.out z186 (x5_1 : Int) (of_decide_eq_true (by first | (with_reducible assumption) | assumption)) (by have h_ : (x5_1 : Int) < ((x0_1.length : Int) : Int) := of_decide_eq_true (by first | (with_reducible assumption) | assumption); first | exact h_ | (have e_ := (Kd.R_reads' HO_0.out).1; omega) | simpa using h_)
          obtain rfl := k186_openM hM13
          have HP13 := Kd.R_seg HX13.out (x5_1 : Int) (of_decide_eq_true (by first | (with_reducible assumption) | assumption)) (by have h_ : (x5_1 : Int) < ((x0_1.length : Int) : Int) := of_decide_eq_true (by first | (with_reducible assumption) | assumption); first | exact h_ | (have e_ := (Kd.R_reads' HO_0.out).1; omega) | simpa using h_) (seg := [.int .i64 x1_1]) (j := 0) hcl13 hcc13 (show 1 ≤ 5 from by decide) (x' := (⟨x1_1, (rd_T186 x0_1 x5_1).f1, (rd_T186 x0_1 x5_1).f2, (rd_T186 x0_1 x5_1).f3, (rd_T186 x0_1 x5_1).f4⟩ : S186)) (k186_mkM _ _ _ (⟨x1_1, (rd_T186 x0_1 x5_1).f1, (rd_T186 x0_1 x5_1).f2, (rd_T186 x0_1 x5_1).f3, (rd_T186 x0_1 x5_1).f4⟩ : S186) ) (fun _ hk => hk)
          have hx13_0 := hcc13 0 _ rfl
          (try simp only [show (k186).sz = 5 from rfl, Nat.mul_one, Nat.add_zero] at hx13_0)
          have hf13_0 := hfr13 0
          (try simp only [show (k186).sz = 5 from rfl, Nat.mul_one, Nat.add_zero] at hf13_0)
          clear hcl13 hcc13 hfr13 hM13
          go_wp2_with (first | ((with_reducible refine gate_store (t := 3) (p := 16) rfl ?_); refine store_event (t := 3) (p := 16) (v := ?vo_w14) (w1 := (wr.setCell ⟨go5, (x5_1 : Int).toNat * 5, none⟩ (.int .i64 x1_1))) ?hg ?ho ?hn ?hr ?_; (case ho => rfl); (case hg => rfl); (case hn => rfl); (case hr => first | (go_simp; done) | (go_simp; rfl)); intro w14 hw; have hg : wr.grownBy w14 (some go5) := (by rw [hw]; exact HP13.2); have hp_ : Kd.R k186 186 w14 w0.heap.size (fun k_ => (P0_ k_ ∨ w.heap.size ≤ k_)) (.slice (some ⟨go5, 0, none⟩) x0_1.length co12) y1214 := (by rw [hw, Ny1214.out]; exact HP13.1); clear HP13; have n0_ := Aside0.mk (hp_); have n1_ := Aside0.mk ((by rw [hw]; exact below_set (HB.out) GB5.out : Below w0.heap.size w0 w14)); have n2_ := Aside0.mk (Kept.of_grown (S := (fun k_ => P0_ k_)) hg (by repeat (first | (with_reducible first | exact HK.out | apply Kept.alloc | apply Kept.drewN | apply Kept.drew) | exact HK.out)) (fun k_ e_ => (HO_0.out.1 k_ e_))); clear HO_0; clear HB; clear HK; have HO_0 := n0_; have HB := n1_; have HK := n2_; clear n0_ n1_ n2_; clear hg hw hp_) | ((with_reducible refine gate_callee (f := 123) rfl ?_); refine goesL_ (some 22) rfl rfl Try.func123 (by kernel_rfl) rfl #[.int .i64 (wrap64 (x1_1 + 1))] rfl (by (try simp only [List.map_toArray, List.map_cons, List.map_nil]); first | done | rfl | (simp only [List.length_drop, List.length_take]; rfl)) ?_; (with_reducible refine (laws_markText.calls k1 (wrap64 (x1_1 + 1)) t1215 _ A6.out).mono ?_); rintro e w15 ⟨rfl, hb⟩; refine ⟨_, rfl, ?_⟩; have n0_ := Aside0.mk (Kd.R_below (by (with_reducible repeat (first | apply Kd.R_alloc | apply Kd.R_drewN | apply Kd.R_drew)); exact HO_0.out) hb); have n1_ := Aside0.mk (Kept.below (S := (fun k_ => P0_ k_)) (by repeat (first | (with_reducible first | exact HK.out | apply Kept.alloc | apply Kept.drewN | apply Kept.drew) | exact HK.out)) hb); have n2_ := Aside0.mk (below_step (by repeat (first | (with_reducible first | exact HB.out | apply below_alloc | apply pw_below_drewN | apply below_drew1) | exact HB.out)) hb); clear HO_0; clear HK; clear HB; have HO_0 := n0_; have HK := n1_; have HB := n2_; clear n0_ n1_ n2_; (try clear hb); (try clear hb2); (try clear hk); (try clear hi); have p7 : 0 ≤ (x5_1 : Int) := of_decide_eq_true (by first | (with_reducible assumption) | assumption); have q7 : (x5_1 : Int) < ((x0_1.length : Int) : Int) := of_decide_eq_true (by first | (with_reducible assumption) | assumption); obtain ⟨ce7, hcl7, hM7, hcc7, hfr7⟩ := Kd.R_elem HO_0.out z186 (x5_1 : Int) p7 q7; obtain rfl := k186_openM hM7; have hx7_0 : w15.cell? ⟨go5, (x5_1 : Int).toNat * 5, none⟩ = some (.int .i64 ((rd_T186 y1214 x5_1).f0)) := hcc7 0 _ rfl; have hx7_1 : w15.cell? ⟨go5, (x5_1 : Int).toNat * 5 + 1, none⟩ = some (.string ((rd_T186 y1214 x5_1).f1)) := hcc7 1 _ rfl; have hx7_2 : w15.cell? ⟨go5, (x5_1 : Int).toNat * 5 + 2, none⟩ = some (.string ((rd_T186 y1214 x5_1).f2)) := hcc7 2 _ rfl; have hx7_3 : w15.cell? ⟨go5, (x5_1 : Int).toNat * 5 + 3, none⟩ = some (.int .i64 ((rd_T186 y1214 x5_1).f3)) := hcc7 3 _ rfl; have hx7_4 : w15.cell? ⟨go5, (x5_1 : Int).toNat * 5 + 4, none⟩ = some (.int .i64 ((rd_T186 y1214 x5_1).f4)) := hcc7 4 _ rfl; have hf7_0 : w15.frozen? ⟨go5, (x5_1 : Int).toNat * 5, none⟩ = false := hfr7 0; have hf7_1 : w15.frozen? ⟨go5, (x5_1 : Int).toNat * 5 + 1, none⟩ = false := hfr7 1; have hf7_2 : w15.frozen? ⟨go5, (x5_1 : Int).toNat * 5 + 2, none⟩ = false := hfr7 2; have hf7_3 : w15.frozen? ⟨go5, (x5_1 : Int).toNat * 5 + 3, none⟩ = false := hfr7 3; have hf7_4 : w15.frozen? ⟨go5, (x5_1 : Int).toNat * 5 + 4, none⟩ = false := hfr7 4; clear hcl7 hcc7 hfr7 hM7; replace p7 := eq_true p7; replace q7 := eq_true q7; have HX16 := Aside0.mk (show Kd.R k186 186 w15 w0.heap.size (fun k_ => (P0_ k_ ∨ w.heap.size ≤ k_)) (.slice (some ⟨go5, 0, none⟩) x0_1.length co12) y1214 from (by (with_reducible repeat (first | apply Kd.R_alloc | apply Kd.R_drewN | apply Kd.R_drew)); exact HO_0.out)); obtain ⟨ce16, hcl16, hM16, hcc16, hfr16⟩ := Kd.R_elem HX16.out z186 (x5_1 : Int) (of_decide_eq_true (by first | (with_reducible assumption) | assumption)) (by have h_ : (x5_1 : Int) < ((x0_1.length : Int) : Int) := of_decide_eq_true (by first | (with_reducible assumption) | assumption); first | exact h_ | (have e_ := (Kd.R_reads' HO_0.out).1; omega) | simpa using h_); obtain rfl := k186_openM hM16; have HP16 := Kd.R_seg HX16.out (x5_1 : Int) (of_decide_eq_true (by first | (with_reducible assumption) | assumption)) (by have h_ : (x5_1 : Int) < ((x0_1.length : Int) : Int) := of_decide_eq_true (by first | (with_reducible assumption) | assumption); first | exact h_ | (have e_ := (Kd.R_reads' HO_0.out).1; omega) | simpa using h_) (seg := [.string t1215]) (j := 1) hcl16 hcc16 (show 2 ≤ 5 from by decide) (x' := (⟨(rd_T186 y1214 x5_1).f0, t1215, (rd_T186 y1214 x5_1).f2, (rd_T186 y1214 x5_1).f3, (rd_T186 y1214 x5_1).f4⟩ : S186)) (k186_mkM _ _ _ (⟨(rd_T186 y1214 x5_1).f0, t1215, (rd_T186 y1214 x5_1).f2, (rd_T186 y1214 x5_1).f3, (rd_T186 y1214 x5_1).f4⟩ : S186) ) (fun _ hk => hk); have hx16_1 := hcc16 1 _ rfl; (try simp only [show (k186).sz = 5 from rfl, Nat.mul_one, Nat.add_zero] at hx16_1); have hf16_1 := hfr16 1; (try simp only [show (k186).sz = 5 from rfl, Nat.mul_one, Nat.add_zero] at hf16_1); clear hcl16 hcc16 hfr16 hM16) | ((with_reducible refine gate_store (t := 9) (p := 24) rfl ?_); refine store_event (t := 9) (p := 24) (v := ?vo_w17) (w1 := (w15.setCell ⟨go5, (x5_1 : Int).toNat * 5 + 1, none⟩ (.string t1215))) ?hg ?ho ?hn ?hr ?_; (case ho => rfl); (case hg => rfl); (case hn => rfl); (case hr => first | (go_simp; done) | (go_simp; rfl)); intro w17 hw; have hg : w15.grownBy w17 (some go5) := (by rw [hw]; exact HP16.2); have hp_ : Kd.R k186 186 w17 w0.heap.size (fun k_ => (P0_ k_ ∨ w.heap.size ≤ k_)) (.slice (some ⟨go5, 0, none⟩) x0_1.length co12) y1216 := (by rw [hw, Ny1216.out]; exact HP16.1); clear HP16; have n0_ := Aside0.mk (hp_); have n1_ := Aside0.mk ((by rw [hw]; exact below_set (HB.out) GB5.out : Below w0.heap.size w0 w17)); have n2_ := Aside0.mk (Kept.of_grown (S := (fun k_ => P0_ k_)) hg (by repeat (first | (with_reducible first | exact HK.out | apply Kept.alloc | apply Kept.drewN | apply Kept.drew) | exact HK.out)) (fun k_ e_ => (HO_0.out.1 k_ e_))); clear HO_0; clear HB; clear HK; have HO_0 := n0_; have HB := n1_; have HK := n2_; clear n0_ n1_ n2_; clear hg hw hp_) | ((with_reducible refine gate_callee (f := 123) rfl ?_); refine goesL_ (some 30) rfl rfl Try.func123 (by kernel_rfl) rfl #[.int .i64 (wrap64 ((wrap64 (x1_1 + 1)) + 1))] rfl (by (try simp only [List.map_toArray, List.map_cons, List.map_nil]); first | done | rfl | (simp only [List.length_drop, List.length_take]; rfl)) ?_; (with_reducible refine (laws_markText.calls k1 (wrap64 ((wrap64 (x1_1 + 1)) + 1)) t1217 _ A8.out).mono ?_); rintro e w18 ⟨rfl, hb⟩; refine ⟨_, rfl, ?_⟩; have n0_ := Aside0.mk (Kd.R_below (by (with_reducible repeat (first | apply Kd.R_alloc | apply Kd.R_drewN | apply Kd.R_drew)); exact HO_0.out) hb); have n1_ := Aside0.mk (Kept.below (S := (fun k_ => P0_ k_)) (by repeat (first | (with_reducible first | exact HK.out | apply Kept.alloc | apply Kept.drewN | apply Kept.drew) | exact HK.out)) hb); have n2_ := Aside0.mk (below_step (by repeat (first | (with_reducible first | exact HB.out | apply below_alloc | apply pw_below_drewN | apply below_drew1) | exact HB.out)) hb); clear HO_0; clear HK; clear HB; have HO_0 := n0_; have HK := n1_; have HB := n2_; clear n0_ n1_ n2_; (try clear hb); (try clear hb2); (try clear hk); (try clear hi); have p9 : 0 ≤ (x5_1 : Int) := of_decide_eq_true (by first | (with_reducible assumption) | assumption); have q9 : (x5_1 : Int) < ((x0_1.length : Int) : Int) := of_decide_eq_true (by first | (with_reducible assumption) | assumption); obtain ⟨ce9, hcl9, hM9, hcc9, hfr9⟩ := Kd.R_elem HO_0.out z186 (x5_1 : Int) p9 q9; obtain rfl := k186_openM hM9; have hx9_0 : w18.cell? ⟨go5, (x5_1 : Int).toNat * 5, none⟩ = some (.int .i64 ((rd_T186 y1216 x5_1).f0)) := hcc9 0 _ rfl; have hx9_1 : w18.cell? ⟨go5, (x5_1 : Int).toNat * 5 + 1, none⟩ = some (.string ((rd_T186 y1216 x5_1).f1)) := hcc9 1 _ rfl; have hx9_2 : w18.cell? ⟨go5, (x5_1 : Int).toNat * 5 + 2, none⟩ = some (.string ((rd_T186 y1216 x5_1).f2)) := hcc9 2 _ rfl; have hx9_3 : w18.cell? ⟨go5, (x5_1 : Int).toNat * 5 + 3, none⟩ = some (.int .i64 ((rd_T186 y1216 x5_1).f3)) := hcc9 3 _ rfl; have hx9_4 : w18.cell? ⟨go5, (x5_1 : Int).toNat * 5 + 4, none⟩ = some (.int .i64 ((rd_T186 y1216 x5_1).f4)) := hcc9 4 _ rfl; have hf9_0 : w18.frozen? ⟨go5, (x5_1 : Int).toNat * 5, none⟩ = false := hfr9 0; have hf9_1 : w18.frozen? ⟨go5, (x5_1 : Int).toNat * 5 + 1, none⟩ = false := hfr9 1; have hf9_2 : w18.frozen? ⟨go5, (x5_1 : Int).toNat * 5 + 2, none⟩ = false := hfr9 2; have hf9_3 : w18.frozen? ⟨go5, (x5_1 : Int).toNat * 5 + 3, none⟩ = false := hfr9 3; have hf9_4 : w18.frozen? ⟨go5, (x5_1 : Int).toNat * 5 + 4, none⟩ = false := hfr9 4; clear hcl9 hcc9 hfr9 hM9; replace p9 := eq_true p9; replace q9 := eq_true q9; have HX19 := Aside0.mk (show Kd.R k186 186 w18 w0.heap.size (fun k_ => (P0_ k_ ∨ w.heap.size ≤ k_)) (.slice (some ⟨go5, 0, none⟩) x0_1.length co12) y1216 from (by (with_reducible repeat (first | apply Kd.R_alloc | apply Kd.R_drewN | apply Kd.R_drew)); exact HO_0.out)); obtain ⟨ce19, hcl19, hM19, hcc19, hfr19⟩ := Kd.R_elem HX19.out z186 (x5_1 : Int) (of_decide_eq_true (by first | (with_reducible assumption) | assumption)) (by have h_ : (x5_1 : Int) < ((x0_1.length : Int) : Int) := of_decide_eq_true (by first | (with_reducible assumption) | assumption); first | exact h_ | (have e_ := (Kd.R_reads' HO_0.out).1; omega) | simpa using h_); obtain rfl := k186_openM hM19; have HP19 := Kd.R_seg HX19.out (x5_1 : Int) (of_decide_eq_true (by first | (with_reducible assumption) | assumption)) (by have h_ : (x5_1 : Int) < ((x0_1.length : Int) : Int) := of_decide_eq_true (by first | (with_reducible assumption) | assumption); first | exact h_ | (have e_ := (Kd.R_reads' HO_0.out).1; omega) | simpa using h_) (seg := [.string t1217]) (j := 2) hcl19 hcc19 (show 3 ≤ 5 from by decide) (x' := (⟨(rd_T186 y1216 x5_1).f0, (rd_T186 y1216 x5_1).f1, t1217, (rd_T186 y1216 x5_1).f3, (rd_T186 y1216 x5_1).f4⟩ : S186)) (k186_mkM _ _ _ (⟨(rd_T186 y1216 x5_1).f0, (rd_T186 y1216 x5_1).f1, t1217, (rd_T186 y1216 x5_1).f3, (rd_T186 y1216 x5_1).f4⟩ : S186) ) (fun _ hk => hk); have hx19_2 := hcc19 2 _ rfl; (try simp only [show (k186).sz = 5 from rfl, Nat.mul_one, Nat.add_zero] at hx19_2); have hf19_2 := hfr19 2; (try simp only [show (k186).sz = 5 from rfl, Nat.mul_one, Nat.add_zero] at hf19_2); clear hcl19 hcc19 hfr19 hM19) | ((with_reducible refine gate_store (t := 9) (p := 32) rfl ?_); refine store_event (t := 9) (p := 32) (v := ?vo_w20) (w1 := (w18.setCell ⟨go5, (x5_1 : Int).toNat * 5 + 2, none⟩ (.string t1217))) ?hg ?ho ?hn ?hr ?_; (case ho => rfl); (case hg => rfl); (case hn => rfl); (case hr => first | (go_simp; done) | (go_simp; rfl)); intro w20 hw; have hg : w18.grownBy w20 (some go5) := (by rw [hw]; exact HP19.2); have hp_ : Kd.R k186 186 w20 w0.heap.size (fun k_ => (P0_ k_ ∨ w.heap.size ≤ k_)) (.slice (some ⟨go5, 0, none⟩) x0_1.length co12) y1218 := (by rw [hw, Ny1218.out]; exact HP19.1); clear HP19; have n0_ := Aside0.mk (hp_); have n1_ := Aside0.mk ((by rw [hw]; exact below_set (HB.out) GB5.out : Below w0.heap.size w0 w20)); have n2_ := Aside0.mk (Kept.of_grown (S := (fun k_ => P0_ k_)) hg (by repeat (first | (with_reducible first | exact HK.out | apply Kept.alloc | apply Kept.drewN | apply Kept.drew) | exact HK.out)) (fun k_ e_ => (HO_0.out.1 k_ e_))); clear HO_0; clear HB; clear HK; have HO_0 := n0_; have HB := n1_; have HK := n2_; clear n0_ n1_ n2_; clear hg hw hp_; have p10 : 0 ≤ (x5_1 : Int) := of_decide_eq_true (by first | (with_reducible assumption) | assumption); have q10 : (x5_1 : Int) < ((x0_1.length : Int) : Int) := of_decide_eq_true (by first | (with_reducible assumption) | assumption); obtain ⟨ce10, hcl10, hM10, hcc10, hfr10⟩ := Kd.R_elem HO_0.out z186 (x5_1 : Int) p10 q10; obtain rfl := k186_openM hM10; have hx10_0 : w20.cell? ⟨go5, (x5_1 : Int).toNat * 5, none⟩ = some (.int .i64 ((rd_T186 y1218 x5_1).f0)) := hcc10 0 _ rfl; have hx10_1 : w20.cell? ⟨go5, (x5_1 : Int).toNat * 5 + 1, none⟩ = some (.string ((rd_T186 y1218 x5_1).f1)) := hcc10 1 _ rfl; have hx10_2 : w20.cell? ⟨go5, (x5_1 : Int).toNat * 5 + 2, none⟩ = some (.string ((rd_T186 y1218 x5_1).f2)) := hcc10 2 _ rfl; have hx10_3 : w20.cell? ⟨go5, (x5_1 : Int).toNat * 5 + 3, none⟩ = some (.int .i64 ((rd_T186 y1218 x5_1).f3)) := hcc10 3 _ rfl; have hx10_4 : w20.cell? ⟨go5, (x5_1 : Int).toNat * 5 + 4, none⟩ = some (.int .i64 ((rd_T186 y1218 x5_1).f4)) := hcc10 4 _ rfl; have hf10_0 : w20.frozen? ⟨go5, (x5_1 : Int).toNat * 5, none⟩ = false := hfr10 0; have hf10_1 : w20.frozen? ⟨go5, (x5_1 : Int).toNat * 5 + 1, none⟩ = false := hfr10 1; have hf10_2 : w20.frozen? ⟨go5, (x5_1 : Int).toNat * 5 + 2, none⟩ = false := hfr10 2; have hf10_3 : w20.frozen? ⟨go5, (x5_1 : Int).toNat * 5 + 3, none⟩ = false := hfr10 3; have hf10_4 : w20.frozen? ⟨go5, (x5_1 : Int).toNat * 5 + 4, none⟩ = false := hfr10 4; clear hcl10 hcc10 hfr10 hM10; replace p10 := eq_true p10; replace q10 := eq_true q10; have HX21 := Aside0.mk (show Kd.R k186 186 w20 w0.heap.size (fun k_ => (P0_ k_ ∨ w.heap.size ≤ k_)) (.slice (some ⟨go5, 0, none⟩) x0_1.length co12) y1218 from (by (with_reducible repeat (first | apply Kd.R_alloc | apply Kd.R_drewN | apply Kd.R_drew)); exact HO_0.out)); obtain ⟨ce21, hcl21, hM21, hcc21, hfr21⟩ := Kd.R_elem HX21.out z186 (x5_1 : Int) (of_decide_eq_true (by first | (with_reducible assumption) | assumption)) (by have h_ : (x5_1 : Int) < ((x0_1.length : Int) : Int) := of_decide_eq_true (by first | (with_reducible assumption) | assumption); first | exact h_ | (have e_ := (Kd.R_reads' HO_0.out).1; omega) | simpa using h_); obtain rfl := k186_openM hM21; have HP21 := Kd.R_seg HX21.out (x5_1 : Int) (of_decide_eq_true (by first | (with_reducible assumption) | assumption)) (by have h_ : (x5_1 : Int) < ((x0_1.length : Int) : Int) := of_decide_eq_true (by first | (with_reducible assumption) | assumption); first | exact h_ | (have e_ := (Kd.R_reads' HO_0.out).1; omega) | simpa using h_) (seg := [.int .i64 (wrap64 ((wrap64 ((wrap64 (x1_1 + 1)) + 1)) + 1))]) (j := 3) hcl21 hcc21 (show 4 ≤ 5 from by decide) (x' := (⟨(rd_T186 y1218 x5_1).f0, (rd_T186 y1218 x5_1).f1, (rd_T186 y1218 x5_1).f2, wrap64 ((wrap64 ((wrap64 (x1_1 + 1)) + 1)) + 1), (rd_T186 y1218 x5_1).f4⟩ : S186)) (k186_mkM _ _ _ (⟨(rd_T186 y1218 x5_1).f0, (rd_T186 y1218 x5_1).f1, (rd_T186 y1218 x5_1).f2, wrap64 ((wrap64 ((wrap64 (x1_1 + 1)) + 1)) + 1), (rd_T186 y1218 x5_1).f4⟩ : S186) ) (fun _ hk => hk); have hx21_3 := hcc21 3 _ rfl; (try simp only [show (k186).sz = 5 from rfl, Nat.mul_one, Nat.add_zero] at hx21_3); have hf21_3 := hfr21 3; (try simp only [show (k186).sz = 5 from rfl, Nat.mul_one, Nat.add_zero] at hf21_3); clear hcl21 hcc21 hfr21 hM21) | ((with_reducible refine gate_store (t := 3) (p := 39) rfl ?_); refine store_event (t := 3) (p := 39) (v := ?vo_w22) (w1 := (w20.setCell ⟨go5, (x5_1 : Int).toNat * 5 + 3, none⟩ (.int .i64 (wrap64 ((wrap64 ((wrap64 (x1_1 + 1)) + 1)) + 1))))) ?hg ?ho ?hn ?hr ?_; (case ho => rfl); (case hg => rfl); (case hn => rfl); (case hr => first | (go_simp; done) | (go_simp; rfl)); intro w22 hw; have hg : w20.grownBy w22 (some go5) := (by rw [hw]; exact HP21.2); have hp_ : Kd.R k186 186 w22 w0.heap.size (fun k_ => (P0_ k_ ∨ w.heap.size ≤ k_)) (.slice (some ⟨go5, 0, none⟩) x0_1.length co12) y1219 := (by rw [hw, Ny1219.out]; exact HP21.1); clear HP21; have n0_ := Aside0.mk (hp_); have n1_ := Aside0.mk ((by rw [hw]; exact below_set (HB.out) GB5.out : Below w0.heap.size w0 w22)); have n2_ := Aside0.mk (Kept.of_grown (S := (fun k_ => P0_ k_)) hg (by repeat (first | (with_reducible first | exact HK.out | apply Kept.alloc | apply Kept.drewN | apply Kept.drew) | exact HK.out)) (fun k_ e_ => (HO_0.out.1 k_ e_))); clear HO_0; clear HB; clear HK; have HO_0 := n0_; have HB := n1_; have HK := n2_; clear n0_ n1_ n2_; clear hg hw hp_; have p11 : 0 ≤ (x5_1 : Int) := of_decide_eq_true (by first | (with_reducible assumption) | assumption); have q11 : (x5_1 : Int) < ((x0_1.length : Int) : Int) := of_decide_eq_true (by first | (with_reducible assumption) | assumption); obtain ⟨ce11, hcl11, hM11, hcc11, hfr11⟩ := Kd.R_elem HO_0.out z186 (x5_1 : Int) p11 q11; obtain rfl := k186_openM hM11; have hx11_0 : w22.cell? ⟨go5, (x5_1 : Int).toNat * 5, none⟩ = some (.int .i64 ((rd_T186 y1219 x5_1).f0)) := hcc11 0 _ rfl; have hx11_1 : w22.cell? ⟨go5, (x5_1 : Int).toNat * 5 + 1, none⟩ = some (.string ((rd_T186 y1219 x5_1).f1)) := hcc11 1 _ rfl; have hx11_2 : w22.cell? ⟨go5, (x5_1 : Int).toNat * 5 + 2, none⟩ = some (.string ((rd_T186 y1219 x5_1).f2)) := hcc11 2 _ rfl; have hx11_3 : w22.cell? ⟨go5, (x5_1 : Int).toNat * 5 + 3, none⟩ = some (.int .i64 ((rd_T186 y1219 x5_1).f3)) := hcc11 3 _ rfl; have hx11_4 : w22.cell? ⟨go5, (x5_1 : Int).toNat * 5 + 4, none⟩ = some (.int .i64 ((rd_T186 y1219 x5_1).f4)) := hcc11 4 _ rfl; have hf11_0 : w22.frozen? ⟨go5, (x5_1 : Int).toNat * 5, none⟩ = false := hfr11 0; have hf11_1 : w22.frozen? ⟨go5, (x5_1 : Int).toNat * 5 + 1, none⟩ = false := hfr11 1; have hf11_2 : w22.frozen? ⟨go5, (x5_1 : Int).toNat * 5 + 2, none⟩ = false := hfr11 2; have hf11_3 : w22.frozen? ⟨go5, (x5_1 : Int).toNat * 5 + 3, none⟩ = false := hfr11 3; have hf11_4 : w22.frozen? ⟨go5, (x5_1 : Int).toNat * 5 + 4, none⟩ = false := hfr11 4; clear hcl11 hcc11 hfr11 hM11; replace p11 := eq_true p11; replace q11 := eq_true q11; have HX23 := Aside0.mk (show Kd.R k186 186 w22 w0.heap.size (fun k_ => (P0_ k_ ∨ w.heap.size ≤ k_)) (.slice (some ⟨go5, 0, none⟩) x0_1.length co12) y1219 from (by (with_reducible repeat (first | apply Kd.R_alloc | apply Kd.R_drewN | apply Kd.R_drew)); exact HO_0.out)); obtain ⟨ce23, hcl23, hM23, hcc23, hfr23⟩ := Kd.R_elem HX23.out z186 (x5_1 : Int) (of_decide_eq_true (by first | (with_reducible assumption) | assumption)) (by have h_ : (x5_1 : Int) < ((x0_1.length : Int) : Int) := of_decide_eq_true (by first | (with_reducible assumption) | assumption); first | exact h_ | (have e_ := (Kd.R_reads' HO_0.out).1; omega) | simpa using h_); obtain rfl := k186_openM hM23; have HP23 := Kd.R_seg HX23.out (x5_1 : Int) (of_decide_eq_true (by first | (with_reducible assumption) | assumption)) (by have h_ : (x5_1 : Int) < ((x0_1.length : Int) : Int) := of_decide_eq_true (by first | (with_reducible assumption) | assumption); first | exact h_ | (have e_ := (Kd.R_reads' HO_0.out).1; omega) | simpa using h_) (seg := [.int .i64 (wrap64 ((wrap64 ((wrap64 ((wrap64 (x1_1 + 1)) + 1)) + 1)) + 1))]) (j := 4) hcl23 hcc23 (show 5 ≤ 5 from by decide) (x' := (⟨(rd_T186 y1219 x5_1).f0, (rd_T186 y1219 x5_1).f1, (rd_T186 y1219 x5_1).f2, (rd_T186 y1219 x5_1).f3, wrap64 ((wrap64 ((wrap64 ((wrap64 (x1_1 + 1)) + 1)) + 1)) + 1)⟩ : S186)) (k186_mkM _ _ _ (⟨(rd_T186 y1219 x5_1).f0, (rd_T186 y1219 x5_1).f1, (rd_T186 y1219 x5_1).f2, (rd_T186 y1219 x5_1).f3, wrap64 ((wrap64 ((wrap64 ((wrap64 (x1_1 + 1)) + 1)) + 1)) + 1)⟩ : S186) ) (fun _ hk => hk); have hx23_4 := hcc23 4 _ rfl; (try simp only [show (k186).sz = 5 from rfl, Nat.mul_one, Nat.add_zero] at hx23_4); have hf23_4 := hfr23 4; (try simp only [show (k186).sz = 5 from rfl, Nat.mul_one, Nat.add_zero] at hf23_4); clear hcl23 hcc23 hfr23 hM23) | ((with_reducible refine gate_store (t := 3) (p := 46) rfl ?_); refine store_event (t := 3) (p := 46) (v := ?vo_w24) (w1 := (w22.setCell ⟨go5, (x5_1 : Int).toNat * 5 + 4, none⟩ (.int .i64 (wrap64 ((wrap64 ((wrap64 ((wrap64 (x1_1 + 1)) + 1)) + 1)) + 1))))) ?hg ?ho ?hn ?hr ?_; (case ho => rfl); (case hg => rfl); (case hn => rfl); (case hr => first | (go_simp; done) | (go_simp; rfl)); intro w24 hw; have hg : w22.grownBy w24 (some go5) := (by rw [hw]; exact HP23.2); have hp_ : Kd.R k186 186 w24 w0.heap.size (fun k_ => (P0_ k_ ∨ w.heap.size ≤ k_)) (.slice (some ⟨go5, 0, none⟩) x0_1.length co12) y1220 := (by rw [hw, Ny1220.out]; exact HP23.1); clear HP23; have n0_ := Aside0.mk (hp_); have n1_ := Aside0.mk ((by rw [hw]; exact below_set (HB.out) GB5.out : Below w0.heap.size w0 w24)); have n2_ := Aside0.mk (Kept.of_grown (S := (fun k_ => P0_ k_)) hg (by repeat (first | (with_reducible first | exact HK.out | apply Kept.alloc | apply Kept.drewN | apply Kept.drew) | exact HK.out)) (fun k_ e_ => (HO_0.out.1 k_ e_))); clear HO_0; clear HB; clear HK; have HO_0 := n0_; have HB := n1_; have HK := n2_; clear n0_ n1_ n2_; clear hg hw hp_))
          go_roundg k1
          case measure => have := HK1.out; omega
          case rel => exact ⟨(y1220), (wrap64 ((wrap64 ((wrap64 ((wrap64 ((wrap64 (x1_1 + 1)) + 1)) + 1)) + 1)) + 1)), (wrap64 (x5_1 + 1)), (by first | rfl | (simp; done) | (simp [*]; done)), (by first | rfl | (simp; done) | (simp [*]; done)), H', ⟨by have := HK1.out; omega⟩, ⟨by (with_reducible repeat (first | apply Kd.R_alloc | apply Kd.R_drewN | apply Kd.R_drew)); exact HO_0.out⟩, ⟨by repeat (first | (with_reducible first | exact HK.out | apply Kept.alloc | apply Kept.drewN | apply Kept.drew) | exact HK.out)⟩, ⟨by repeat (first | (with_reducible first | exact HB.out | apply below_alloc | apply pw_below_drewN | apply below_drew1) | exact HB.out)⟩⟩
        · rw [if_neg c4] at H
          exact absurd H (by simp)
      · rw [if_neg c3] at H
        have c3b0 : decide (x5_1 < (x0_1.length : Int)) = false := decide_eq_false c3
        clear c3
        simp only [Option.some.injEq, Prod.mk.injEq] at H
        obtain ⟨rfl, rfl⟩ := H
        obtain ⟨Ao25, co25, eo25⟩ := Kd.R_slice HO_0.out
        subst eo25
        go_wp2
        go_ret
        exact ⟨by first | rfl | (simp [errW_none, errW_some] <;> rfl) | (simp [*, errW_none, errW_some] <;> rfl), by (with_reducible repeat (first | apply Kd.R_alloc | apply Kd.R_drewN | apply Kd.R_drew)); exact HO_0.out, by repeat (first | (with_reducible first | exact HB.out | apply below_alloc | apply pw_below_drewN | apply below_drew1) | exact HB.out), by repeat (first | (with_reducible first | exact HK.out | apply Kept.alloc | apply Kept.drewN | apply Kept.drew) | exact HK.out)⟩

/-! ### laws_markTxS: marks, printed by markwalk.py -/
set_option maxHeartbeats 4000000 in
set_option maxRecDepth 100000 in
theorem laws_markTxS.marks {B : Nat} {a w : World} {P : Nat → Prop} {H : Nat → Nat → Prop} {A : Option Addr} {n c : Nat} {x : Int} (hR : Rw w B P H 186 5 (fun _ => True) A n) (hn : n ≤ 1048576) (h0 : 0 ≤ x) (h1 : x ≤ 100000000000000) (e0 : Mk B a w P H) :
    Calls Try.prog 88 #[.slice A n c, .int .i64 x] e0.now fun r W => ∃ m : Int, r = .returned (.int .i64 m) ∧ (∃ e : Mk B a w P H, W = e.now) ∧ 0 ≤ m ∧ m ≤ x + 5 * n := by
  have HR := Aside0.mk hR
  have HX := Aside0.mk (And.intro h0 h1)
  clear hR h0 h1
  have hn' : (n : Int) ≤ 1048576 := by omega
  go_enter Try.func88, Try.ntmps88
  go_wp2
  go_loopg [1, 5] n (fun g v1 v5 w' => ∃ (i : Int) (y : Int) (e : Mk B a w P H), v1 = .int .i64 y ∧ v5 = .int .i64 i ∧ w' = e.now ∧ 0 ≤ i ∧ i ≤ n ∧ Aside0 ((n : Int) - i ≤ g) ∧ Aside0 (0 ≤ y ∧ y ≤ x + 5 * i))
  case atStart => exact ⟨0, x, e0, rfl, rfl, rfl, Int.le_refl _, by omega, ⟨by omega⟩, ⟨HX.out.1, by omega⟩⟩
  case round =>
    obtain ⟨i, y, e, rfl, rfl, rfl, hi0, hi1, HG, HY⟩ := hrel
    by_cases c1 : i < (n : Int)
    · obtain ⟨g, hA, hC, hF, hS⟩ := HR.out.open_ (a := a) (i := i.toNat) (by omega)
      subst hA
      have HC := Aside0.mk hC
      have HF := Aside0.mk hF
      have HS := Aside0.mk hS
      clear hC hF hS
      have hy0 : 0 ≤ y ∧ y ≤ 200000000000000 := by have := HY.out; have := HX.out; omega
      have HWy_1 := Aside0.mk (show wrap64 (y + 1) = y + 1 from unw (by omega) (by omega))
      have HWy_2 := Aside0.mk (show wrap64 (wrap64 (y + 1) + 1) = y + 2 from (congrArg (fun q : Int => wrap64 (q + 1)) HWy_1.out).trans (by show wrap64 (y + 1 + 1) = _; rw [unw (by omega) (by omega)]; omega))
      have HWy_3 := Aside0.mk (show wrap64 (wrap64 (wrap64 (y + 1) + 1) + 1) = y + 3 from (congrArg (fun q : Int => wrap64 (q + 1)) HWy_2.out).trans (by show wrap64 (y + 2 + 1) = _; rw [unw (by omega) (by omega)]; omega))
      have HWy_4 := Aside0.mk (show wrap64 (wrap64 (wrap64 (wrap64 (y + 1) + 1) + 1) + 1) = y + 4 from (congrArg (fun q : Int => wrap64 (q + 1)) HWy_3.out).trans (by show wrap64 (y + 3 + 1) = _; rw [unw (by omega) (by omega)]; omega))
      have HWy_5 := Aside0.mk (show wrap64 (wrap64 (wrap64 (wrap64 (wrap64 (y + 1) + 1) + 1) + 1) + 1) = y + 5 from (congrArg (fun q : Int => wrap64 (q + 1)) HWy_4.out).trans (by show wrap64 (y + 4 + 1) = _; rw [unw (by omega) (by omega)]; omega))
      obtain ⟨t1, ht1⟩ := laws_markText.does (n := wrap64 (y + 1)) (by have := HWy_1.out; omega)
      have HT1 := Aside0.mk ht1
      clear ht1
      obtain ⟨t2, ht2⟩ := laws_markText.does (n := wrap64 (wrap64 (y + 1) + 1)) (by have := HWy_2.out; omega)
      have HT2 := Aside0.mk ht2
      clear ht2
      clear hy0
      obtain ⟨u0, hu0⟩ := HC.out 0 (by decide) e
      have hf0 := HF.out (i.toNat * 5 + 0) e
      simp only [Nat.add_zero] at hu0 hf0
      go_wp2_with (first | ((with_reducible refine gate_store (t := 3) (p := 16) rfl ?_); refine store_event (t := 3) (p := 16) (v := ?vo_w0) (w1 := (e.now.setCell ⟨g, i.toNat * 5, none⟩ (.int .i64 (y)))) ?hg ?ho ?hn ?hr ?_; (case ho => rfl); (case hg => rfl); (case hn => rfl); (case hr => first | (go_simp; done) | (go_simp; rfl)); intro w9 hw; obtain ⟨e1, he9⟩ := HS.out 0 (by decide) (by trivial) e (.int .i64 (y)); (try simp only [Nat.mul_one, Nat.add_zero] at he9); rw [he9] at hw; subst hw; clear he9 hu0 hf0; skip) | ((with_reducible refine gate_callee (f := 123) rfl ?_); refine goesL_ (some 22) rfl rfl Try.func123 (by kernel_rfl) rfl #[.int .i64 (wrap64 (y + 1))] rfl (by (try simp only [List.map_toArray, List.map_cons, List.map_nil]); first | done | rfl) ?_; refine (HT1.out _).mono ?_; rintro _ w9 ⟨rfl, hb⟩; obtain ⟨e2, rfl⟩ := e1.next hb; clear hb; refine ⟨_, rfl, ?_⟩; obtain ⟨u1, hu1⟩ := HC.out 1 (by decide) e2; have hf1 := HF.out (i.toNat * 5 + 1) e2) | ((with_reducible refine gate_store (t := 9) (p := 24) rfl ?_); refine store_event (t := 9) (p := 24) (v := ?vo_w1) (w1 := (e2.now.setCell ⟨g, i.toNat * 5 + 1, none⟩ (.string t1))) ?hg ?ho ?hn ?hr ?_; (case ho => rfl); (case hg => rfl); (case hn => rfl); (case hr => first | (go_simp; done) | (go_simp; rfl)); intro w9 hw; obtain ⟨e3, he9⟩ := HS.out 1 (by decide) (by trivial) e2 (.string t1); (try simp only [Nat.mul_one, Nat.add_zero] at he9); rw [he9] at hw; subst hw; clear he9 hu1 hf1; skip) | ((with_reducible refine gate_callee (f := 123) rfl ?_); refine goesL_ (some 30) rfl rfl Try.func123 (by kernel_rfl) rfl #[.int .i64 (wrap64 (wrap64 (y + 1) + 1))] rfl (by (try simp only [List.map_toArray, List.map_cons, List.map_nil]); first | done | rfl) ?_; refine (HT2.out _).mono ?_; rintro _ w9 ⟨rfl, hb⟩; obtain ⟨e4, rfl⟩ := e3.next hb; clear hb; refine ⟨_, rfl, ?_⟩; obtain ⟨u2, hu2⟩ := HC.out 2 (by decide) e4; have hf2 := HF.out (i.toNat * 5 + 2) e4) | ((with_reducible refine gate_store (t := 9) (p := 32) rfl ?_); refine store_event (t := 9) (p := 32) (v := ?vo_w2) (w1 := (e4.now.setCell ⟨g, i.toNat * 5 + 2, none⟩ (.string t2))) ?hg ?ho ?hn ?hr ?_; (case ho => rfl); (case hg => rfl); (case hn => rfl); (case hr => first | (go_simp; done) | (go_simp; rfl)); intro w9 hw; obtain ⟨e5, he9⟩ := HS.out 2 (by decide) (by trivial) e4 (.string t2); (try simp only [Nat.mul_one, Nat.add_zero] at he9); rw [he9] at hw; subst hw; clear he9 hu2 hf2; obtain ⟨u3, hu3⟩ := HC.out 3 (by decide) e5; have hf3 := HF.out (i.toNat * 5 + 3) e5) | ((with_reducible refine gate_store (t := 3) (p := 39) rfl ?_); refine store_event (t := 3) (p := 39) (v := ?vo_w3) (w1 := (e5.now.setCell ⟨g, i.toNat * 5 + 3, none⟩ (.int .i64 (wrap64 (wrap64 (wrap64 (y + 1) + 1) + 1))))) ?hg ?ho ?hn ?hr ?_; (case ho => rfl); (case hg => rfl); (case hn => rfl); (case hr => first | (go_simp; done) | (go_simp; rfl)); intro w9 hw; obtain ⟨e6, he9⟩ := HS.out 3 (by decide) (by trivial) e5 (.int .i64 (wrap64 (wrap64 (wrap64 (y + 1) + 1) + 1))); (try simp only [Nat.mul_one, Nat.add_zero] at he9); rw [he9] at hw; subst hw; clear he9 hu3 hf3; obtain ⟨u4, hu4⟩ := HC.out 4 (by decide) e6; have hf4 := HF.out (i.toNat * 5 + 4) e6) | ((with_reducible refine gate_store (t := 3) (p := 46) rfl ?_); refine store_event (t := 3) (p := 46) (v := ?vo_w4) (w1 := (e6.now.setCell ⟨g, i.toNat * 5 + 4, none⟩ (.int .i64 (wrap64 (wrap64 (wrap64 (wrap64 (y + 1) + 1) + 1) + 1))))) ?hg ?ho ?hn ?hr ?_; (case ho => rfl); (case hg => rfl); (case hn => rfl); (case hr => first | (go_simp; done) | (go_simp; rfl)); intro w9 hw; obtain ⟨e7, he9⟩ := HS.out 4 (by decide) (by trivial) e6 (.int .i64 (wrap64 (wrap64 (wrap64 (wrap64 (y + 1) + 1) + 1) + 1))); (try simp only [Nat.mul_one, Nat.add_zero] at he9); rw [he9] at hw; subst hw; clear he9 hu4 hf4; skip))
      go_roundg (n - i.toNat - 1)
      case measure => have := HG.out; omega
      case rel => exact ⟨i + 1, wrap64 (wrap64 (wrap64 (wrap64 (wrap64 (y + 1) + 1) + 1) + 1) + 1), e7, rfl, rfl, rfl, by omega, by omega, ⟨by omega⟩, ⟨by have := HY.out; have := HX.out; have := HWy_5.out; constructor <;> omega⟩⟩
    · have hi : i = n := by omega
      go_wp2
      go_ret
      exact ⟨y, rfl, ⟨e, rfl⟩, HY.out.1, by have := HY.out.2; rw [hi] at this; omega⟩

end Go.Proofs.Ytadkhkpchankjaa.F
