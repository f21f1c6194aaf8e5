/-
What functions of the program come to, walked one by one.
Conditions: none beside those that each theorem names.
-/
import Derived.Test.YtggmeldoecnkaaaAvAU
set_option linter.unusedVariables false
set_option linter.unusedSimpArgs false
namespace Go.Proofs.Ytggmeldoecnkaaa.Av
open Go.RowKit
set_option maxRecDepth 20000
set_option maxHeartbeats 4000000
theorem t_heldTxS (l : List S35) (k : Int) (hl : l.length ≤ 40000000) (hk : 0 ≤ k ∧ k ≤ 100000000) : ∃ r0 : Int, ((-1 ≤ r0 ∧ r0 ≤ k + 5 * l.length ∧ (0 ≤ r0 → r0 = k + 5 * l.length)) ∧ (Upto (mkTx k) (fun n => l[n]?) l.length → r0 = k + 5 * l.length)) ∧ Fn Try.prog 23 [lV (l.map d35), iV k] (lookH []) (iV r0) (lookH []) := by
 have key : ∃ x' h', ((fun x' h' => ∃ r0 : Int, ((-1 ≤ r0 ∧ r0 ≤ k + 5 * l.length ∧ (0 ≤ r0 → r0 = k + 5 * l.length)) ∧ (Upto (mkTx k) (fun n => l[n]?) l.length → r0 = k + 5 * l.length)) ∧ x' = iV r0 ∧ h' = [])) x' h' ∧ Fn Try.prog 23 [lV (l.map d35), iV k] (lookH []) x' (lookH h') := by
  refine Fn.bodyX (N := 60) hτ Try.func23 rfl rfl rfl rfl ?_
  refine sk ⟨[(0, lV (l.map d35)), (1, iV k)], [], 80⟩ ?_
  refine X.seq ?_
  refine sk ⟨[(0, lV (l.map d35)), (1, iV k), (5, iV 0)], [], 96⟩ ?_
  refine X.block ?_
  -- 2: v1 : Int, v5 : Int
  refine X.loop (σ := { g : Int × Int // (fun (v1 : Int) (v5 : Int) => 0 ≤ v5 ∧ v5 ≤ l.length ∧ v1 = k + 5 * v5) g.1 g.2 }) (fun g => (fun (v1 : Int) (v5 : Int) => ⟨[(0, lV (l.map d35)), (1, iV v1), (5, iV v5)], [], 96⟩) g.1.1 g.1.2) (fun g => (fun (v1 : Int) (v5 : Int) => (l.length - v5).toNat) g.1.1 g.1.2) ⟨(k, 0), ⟨by first | omega | (dsimp only; omega), by first | omega | (dsimp only; omega), by first | omega | (dsimp only; omega)⟩⟩ (Wk.less (by kernel_rfl)) (fun g => ?_)
  obtain ⟨⟨v1, v5⟩, hg2⟩ := g
  have hg2 : 0 ≤ v5 ∧ v5 ≤ l.length ∧ v1 = k + 5 * v5 := hg2
  obtain ⟨_, _, _⟩ := hg2
  refine X.seq ?_
  refine X.seq ?_
  have el3 : (l.map d35).length = l.length := List.length_map ..
  refine rk ⟨[(0, lV (l.map d35)), (1, iV v1), (5, iV v5), (9, bV (decide ((v5 : Int) < ((l.map d35).length : Int))))], [], 160⟩ ?_
  refine if_ (b := decide ((v5 : Int) < ((l.map d35).length : Int))) (fun hb4 => ?_) (fun hb4 => ?_)
  ·replace hb4 := of_decide_eq_true (hb4)
   refine X.skip ?_
   refine X.seq ?_
   refine X.block ?_
   refine X.seq ?_
   refine X.seq (rs 2 ?_)
   obtain ⟨x5, hx5⟩ : ∃ x, l[Int.toNat v5]? = some x := ⟨_, List.getElem?_eq_getElem (by first | omega | (simp; done) | (simp; omega))⟩
   refine CH.idx hτ (d35 x5) (rows := (l.map d35)) (n := v5) (sz := 5) (by kernel_rfl) (by kernel_rfl) (by first | omega | (simp; done) | (simp; omega)) (by rw [List.getElem?_map, hx5]; rfl) (by kernel_rfl) ?_
   refine go 4 ?_
   refine ek ⟨[(0, lV (l.map d35)), (1, iV v1), (5, iV v5), (18, bV (x5.f0 != v1))], [], 272⟩ ?_
   refine if_ (b := (x5.f0 != v1)) (fun hb6 => ?_) (fun hb6 => ?_)
   ·replace hb6 := bne_iff_ne.1 (hb6)
    refine sk ⟨[(4, iV (-1))], [], 288⟩ ?_
    refine X.ret ?_
    exact ⟨trivial, _, _, ⟨(-1), ⟨⟨by omega, by omega, fun h => by omega⟩, (fun hM => by first | omega | (have hq := hM _ _ (by omega) (by omega) (‹l[_]? = some _›); exfalso; first | (have := hq.1; omega) | (have := hq.2.2.2.1; omega) | (have := hq.2.2.2.2; omega) | (exact ‹¬ _› (by rw [hq.2.1]; congr 2 <;> omega)) | (exact ‹¬ _› (by rw [hq.2.2.1]; congr 2 <;> omega))))⟩, rfl, rfl⟩, mkr⟩
   ·replace hb6 := bne_eq_false_iff_eq.1 (hb6)
    refine X.skip ?_
    refine X.seq ?_
    refine X.rk ⟨[(0, lV (l.map d35)), (1, iV (wrap64 (v1 + 1))), (5, iV v5)], [], 320⟩ hτ hmix (by kernel_rfl) (by kernel_rfl) (s2 := ⟨[(0, lV (l.map d35)), (1, iV (v1 + 1)), (5, iV v5)], [], 320⟩) (congrArg (fun z : Int => (⟨[(0, lV (l.map d35)), (1, iV z), (5, iV v5)], [], 320⟩ : St)) (show wrap64 (v1 + 1) = (v1 + 1) by rw [w64 (n := (v1 + 1)) (by omega) (by omega)])) ?_
    refine X.seq ?_
    refine X.seq (rs 2 ?_)
    refine CH.idx hτ (d35 x5) (rows := (l.map d35)) (n := v5) (sz := 5) (by kernel_rfl) (by kernel_rfl) (by first | omega | (simp; done) | (simp; omega)) (by rw [List.getElem?_map, hx5]; rfl) (by kernel_rfl) ?_
    refine go 3 ?_
    obtain ⟨r7, hr9, hf8⟩ := l_markText (v1 + 1) (by omega)
    replace hr9 := hr9.symm; subst hr9
    refine ca hf8 Try.func58 ?_
    refine go 1 ?_
    refine ek ⟨[(0, lV (l.map d35)), (1, iV (v1 + 1)), (5, iV v5), (28, bV (!(x5.f1.toList == (mt (v1 + 1)).toList)))], [], 448⟩ ?_
    refine if_ (b := !(x5.f1.toList == (mt (v1 + 1)).toList)) (fun hb11 => ?_) (fun hb11 => ?_)
    ·replace hb11 := beq_no (bnot_yes (hb11))
     refine sk ⟨[(4, iV (-1))], [], 464⟩ ?_
     refine X.ret ?_
     exact ⟨trivial, _, _, ⟨(-1), ⟨⟨by omega, by omega, fun h => by omega⟩, (fun hM => by first | omega | (have hq := hM _ _ (by omega) (by omega) (‹l[_]? = some _›); exfalso; first | (have := hq.1; omega) | (have := hq.2.2.2.1; omega) | (have := hq.2.2.2.2; omega) | (exact ‹¬ _› (by rw [hq.2.1]; congr 2 <;> omega)) | (exact ‹¬ _› (by rw [hq.2.2.1]; congr 2 <;> omega))))⟩, rfl, rfl⟩, mkr⟩
    ·replace hb11 := beq_yes (bnot_no (hb11))
     refine X.skip ?_
     refine X.seq ?_
     refine X.rk ⟨[(0, lV (l.map d35)), (1, iV (wrap64 ((v1 + 1) + 1))), (5, iV v5)], [], 496⟩ hτ hmix (by kernel_rfl) (by kernel_rfl) (s2 := ⟨[(0, lV (l.map d35)), (1, iV ((v1 + 1) + 1)), (5, iV v5)], [], 496⟩) (congrArg (fun z : Int => (⟨[(0, lV (l.map d35)), (1, iV z), (5, iV v5)], [], 496⟩ : St)) (show wrap64 ((v1 + 1) + 1) = ((v1 + 1) + 1) by rw [w64 (n := ((v1 + 1) + 1)) (by omega) (by omega)])) ?_
     refine X.seq ?_
     refine X.seq (rs 2 ?_)
     refine CH.idx hτ (d35 x5) (rows := (l.map d35)) (n := v5) (sz := 5) (by kernel_rfl) (by kernel_rfl) (by first | omega | (simp; done) | (simp; omega)) (by rw [List.getElem?_map, hx5]; rfl) (by kernel_rfl) ?_
     refine go 3 ?_
     obtain ⟨r12, hr14, hf13⟩ := l_markText ((v1 + 1) + 1) (by omega)
     replace hr14 := hr14.symm; subst hr14
     refine ca hf13 Try.func58 ?_
     refine go 1 ?_
     refine ek ⟨[(0, lV (l.map d35)), (1, iV ((v1 + 1) + 1)), (5, iV v5), (38, bV (!(x5.f2.toList == (mt ((v1 + 1) + 1)).toList)))], [], 624⟩ ?_
     refine if_ (b := !(x5.f2.toList == (mt ((v1 + 1) + 1)).toList)) (fun hb16 => ?_) (fun hb16 => ?_)
     ·replace hb16 := beq_no (bnot_yes (hb16))
      refine sk ⟨[(4, iV (-1))], [], 640⟩ ?_
      refine X.ret ?_
      exact ⟨trivial, _, _, ⟨(-1), ⟨⟨by omega, by omega, fun h => by omega⟩, (fun hM => by first | omega | (have hq := hM _ _ (by omega) (by omega) (‹l[_]? = some _›); exfalso; first | (have := hq.1; omega) | (have := hq.2.2.2.1; omega) | (have := hq.2.2.2.2; omega) | (exact ‹¬ _› (by rw [hq.2.1]; congr 2 <;> omega)) | (exact ‹¬ _› (by rw [hq.2.2.1]; congr 2 <;> omega))))⟩, rfl, rfl⟩, mkr⟩
     ·replace hb16 := beq_yes (bnot_no (hb16))
      refine X.skip ?_
      refine X.seq ?_
      refine X.rk ⟨[(0, lV (l.map d35)), (1, iV (wrap64 (((v1 + 1) + 1) + 1))), (5, iV v5)], [], 672⟩ hτ hmix (by kernel_rfl) (by kernel_rfl) (s2 := ⟨[(0, lV (l.map d35)), (1, iV (((v1 + 1) + 1) + 1)), (5, iV v5)], [], 672⟩) (congrArg (fun z : Int => (⟨[(0, lV (l.map d35)), (1, iV z), (5, iV v5)], [], 672⟩ : St)) (show wrap64 (((v1 + 1) + 1) + 1) = (((v1 + 1) + 1) + 1) by rw [w64 (n := (((v1 + 1) + 1) + 1)) (by omega) (by omega)])) ?_
      refine X.seq ?_
      refine X.seq (rs 2 ?_)
      refine CH.idx hτ (d35 x5) (rows := (l.map d35)) (n := v5) (sz := 5) (by kernel_rfl) (by kernel_rfl) (by first | omega | (simp; done) | (simp; omega)) (by rw [List.getElem?_map, hx5]; rfl) (by kernel_rfl) ?_
      refine go 4 ?_
      refine ek ⟨[(0, lV (l.map d35)), (1, iV (((v1 + 1) + 1) + 1)), (5, iV v5), (47, bV (x5.f3 != (((v1 + 1) + 1) + 1)))], [], 784⟩ ?_
      refine if_ (b := (x5.f3 != (((v1 + 1) + 1) + 1))) (fun hb17 => ?_) (fun hb17 => ?_)
      ·replace hb17 := bne_iff_ne.1 (hb17)
       refine sk ⟨[(4, iV (-1))], [], 800⟩ ?_
       refine X.ret ?_
       exact ⟨trivial, _, _, ⟨(-1), ⟨⟨by omega, by omega, fun h => by omega⟩, (fun hM => by first | omega | (have hq := hM _ _ (by omega) (by omega) (‹l[_]? = some _›); exfalso; first | (have := hq.1; omega) | (have := hq.2.2.2.1; omega) | (have := hq.2.2.2.2; omega) | (exact ‹¬ _› (by rw [hq.2.1]; congr 2 <;> omega)) | (exact ‹¬ _› (by rw [hq.2.2.1]; congr 2 <;> omega))))⟩, rfl, rfl⟩, mkr⟩
      ·replace hb17 := bne_eq_false_iff_eq.1 (hb17)
       refine X.skip ?_
       refine X.seq ?_
       refine X.rk ⟨[(0, lV (l.map d35)), (1, iV (wrap64 ((((v1 + 1) + 1) + 1) + 1))), (5, iV v5)], [], 832⟩ hτ hmix (by kernel_rfl) (by kernel_rfl) (s2 := ⟨[(0, lV (l.map d35)), (1, iV ((((v1 + 1) + 1) + 1) + 1)), (5, iV v5)], [], 832⟩) (congrArg (fun z : Int => (⟨[(0, lV (l.map d35)), (1, iV z), (5, iV v5)], [], 832⟩ : St)) (show wrap64 ((((v1 + 1) + 1) + 1) + 1) = ((((v1 + 1) + 1) + 1) + 1) by rw [w64 (n := ((((v1 + 1) + 1) + 1) + 1)) (by omega) (by omega)])) ?_
       refine X.seq ?_
       refine X.seq (rs 2 ?_)
       refine CH.idx hτ (d35 x5) (rows := (l.map d35)) (n := v5) (sz := 5) (by kernel_rfl) (by kernel_rfl) (by first | omega | (simp; done) | (simp; omega)) (by rw [List.getElem?_map, hx5]; rfl) (by kernel_rfl) ?_
       refine go 4 ?_
       refine ek ⟨[(0, lV (l.map d35)), (1, iV ((((v1 + 1) + 1) + 1) + 1)), (5, iV v5), (56, bV (x5.f4 != ((((v1 + 1) + 1) + 1) + 1)))], [], 944⟩ ?_
       refine if_ (b := (x5.f4 != ((((v1 + 1) + 1) + 1) + 1))) (fun hb18 => ?_) (fun hb18 => ?_)
       ·replace hb18 := bne_iff_ne.1 (hb18)
        refine sk ⟨[(4, iV (-1))], [], 960⟩ ?_
        refine X.ret ?_
        exact ⟨trivial, _, _, ⟨(-1), ⟨⟨by omega, by omega, fun h => by omega⟩, (fun hM => by first | omega | (have hq := hM _ _ (by omega) (by omega) (‹l[_]? = some _›); exfalso; first | (have := hq.1; omega) | (have := hq.2.2.2.1; omega) | (have := hq.2.2.2.2; omega) | (exact ‹¬ _› (by rw [hq.2.1]; congr 2 <;> omega)) | (exact ‹¬ _› (by rw [hq.2.2.1]; congr 2 <;> omega))))⟩, rfl, rfl⟩, mkr⟩
       ·replace hb18 := bne_eq_false_iff_eq.1 (hb18)
        refine X.skip ?_
        refine X.rk ⟨[(0, lV (l.map d35)), (1, iV (wrap64 (((((v1 + 1) + 1) + 1) + 1) + 1))), (5, iV v5)], [], 992⟩ hτ hmix (by kernel_rfl) (by kernel_rfl) (s2 := ⟨[(0, lV (l.map d35)), (1, iV (((((v1 + 1) + 1) + 1) + 1) + 1)), (5, iV v5)], [], 992⟩) (congrArg (fun z : Int => (⟨[(0, lV (l.map d35)), (1, iV z), (5, iV v5)], [], 992⟩ : St)) (show wrap64 (((((v1 + 1) + 1) + 1) + 1) + 1) = (((((v1 + 1) + 1) + 1) + 1) + 1) by rw [w64 (n := (((((v1 + 1) + 1) + 1) + 1) + 1)) (by omega) (by omega)])) ?_
        refine X.rk ⟨[(0, lV (l.map d35)), (1, iV (((((v1 + 1) + 1) + 1) + 1) + 1)), (5, iV (wrap64 (v5 + 1)))], [], 1040⟩ hτ hmix (by kernel_rfl) (by kernel_rfl) (s2 := ⟨[(0, lV (l.map d35)), (1, iV (((((v1 + 1) + 1) + 1) + 1) + 1)), (5, iV (v5 + 1))], [], 1040⟩) (congrArg (fun z : Int => (⟨[(0, lV (l.map d35)), (1, iV (((((v1 + 1) + 1) + 1) + 1) + 1)), (5, iV z)], [], 1040⟩ : St)) (show wrap64 (v5 + 1) = (v5 + 1) by rw [w64 (n := (v5 + 1)) (by omega) (by omega)])) ?_
        refine ⟨⟨((((((v1 + 1) + 1) + 1) + 1) + 1), (v5 + 1)), ⟨by first | omega | (dsimp only; omega), by first | omega | (dsimp only; omega), by first | omega | (dsimp only; omega)⟩⟩, by first | exact rfl | omega | (dsimp only; omega) | (simp only [List.length_append, List.length_cons, List.length_nil, List.length_set]; omega) | (simp; done) | (simp; omega), Wk.mk' [] (by kernel_rfl) (by kernel_rfl) (by kernel_rfl)⟩
  ·replace hb4 := of_decide_eq_false (hb4)
   refine X.exit ?_
   refine sk ⟨[(4, iV v1)], [], 192⟩ ?_
   refine X.ret ?_
   exact ⟨trivial, _, _, ⟨v1, ⟨⟨by omega, by omega, fun h => by omega⟩, (fun hM => by first | omega | (have hq := hM _ _ (by omega) (by omega) (‹l[_]? = some _›); exfalso; first | (have := hq.1; omega) | (have := hq.2.2.2.1; omega) | (have := hq.2.2.2.2; omega) | (exact ‹¬ _› (by rw [hq.2.1]; congr 2 <;> omega)) | (exact ‹¬ _› (by rw [hq.2.2.1]; congr 2 <;> omega))))⟩, rfl, rfl⟩, mkr⟩
 obtain ⟨_, _, ⟨r0, h1_, rfl, rfl⟩, hf⟩ := key
 exact ⟨r0, h1_, hf⟩

theorem t_markBlockS (l : List S72) (k : Int) (hl : SmL l) (hk : 0 ≤ k ∧ k + 9 * l.length + wgT blM l ≤ 40000000) : ∃ r0 : Int, ∃ q0 : List S72, (q0.length = l.length ∧ wgT blM q0 = wgT blM l ∧ r0 = k + 9 * l.length + wgT blM l ∧ Upto (mkBk k q0) (fun n => q0[n]?) l.length) ∧ Fn Try.prog 32 [rV 0, iV k] (lookH [(0, some (.nst 14 72 [(6, 1, 9), (8, 1, 9), (9, 1, 3), (10, 5, 35), (12, 2, 165)] (l.map d72) []))]) (iV r0) (lookH [(0, some (.nst 14 72 [(6, 1, 9), (8, 1, 9), (9, 1, 3), (10, 5, 35), (12, 2, 165)] (q0.map d72) []))]) := by
 have key : ∃ x' h', ((fun x' h' => ∃ r0 : Int, ∃ q0 : List S72, (q0.length = l.length ∧ wgT blM q0 = wgT blM l ∧ r0 = k + 9 * l.length + wgT blM l ∧ Upto (mkBk k q0) (fun n => q0[n]?) l.length) ∧ x' = iV r0 ∧ h' = [(0, some (.nst 14 72 [(6, 1, 9), (8, 1, 9), (9, 1, 3), (10, 5, 35), (12, 2, 165)] (q0.map d72) []))])) x' h' ∧ Fn Try.prog 32 [rV 0, iV k] (lookH [(0, some (.nst 14 72 [(6, 1, 9), (8, 1, 9), (9, 1, 3), (10, 5, 35), (12, 2, 165)] (l.map d72) []))]) x' (lookH h') := by
  refine Fn.bodyX (N := 121) hτ Try.func32 rfl rfl rfl rfl ?_
  refine sk ⟨[(0, rV 0), (1, iV k)], [(0, some (.nst 14 72 [(6, 1, 9), (8, 1, 9), (9, 1, 3), (10, 5, 35), (12, 2, 165)] (l.map d72) []))], 80⟩ ?_
  refine X.seq ?_
  refine sk ⟨[(0, rV 0), (1, iV k), (5, iV 0)], [(0, some (.nst 14 72 [(6, 1, 9), (8, 1, 9), (9, 1, 3), (10, 5, 35), (12, 2, 165)] (l.map d72) []))], 96⟩ ?_
  refine X.block ?_
  -- 2: L0 : List S72, v1 : Int, v5 : Int
  refine X.loop (σ := { g : (List S72) × Int × Int // (fun (L0 : List S72) (v1 : Int) (v5 : Int) => 0 ≤ v5 ∧ v5 ≤ l.length ∧ v1 = k + 9 * v5 + wgT blM (L0.take (v5).toNat) ∧ wgT blM (L0.take (v5).toNat) = wgT blM (l.take (v5).toNat) ∧ L0.length = l.length ∧ (∀ (j : Nat), v5 ≤ (j : Int) → L0[j]? = l[j]?) ∧ Upto (mkBk k L0) (fun n => L0[n]?) v5) g.1 g.2.1 g.2.2 }) (fun g => (fun (L0 : List S72) (v1 : Int) (v5 : Int) => ⟨[(0, rV 0), (1, iV v1), (5, iV v5)], [(0, some (.nst 14 72 [(6, 1, 9), (8, 1, 9), (9, 1, 3), (10, 5, 35), (12, 2, 165)] (L0.map d72) []))], 96⟩) g.1.1 g.1.2.1 g.1.2.2) (fun g => (fun (L0 : List S72) (v1 : Int) (v5 : Int) => (l.length - v5).toNat) g.1.1 g.1.2.1 g.1.2.2) ⟨(l, k, 0), ⟨by first | omega | (dsimp only; omega), by first | omega | (dsimp only; omega), by simp [wgT], rfl, rfl, fun _ _ => rfl, upto_zero⟩⟩ (Wk.less (by kernel_rfl)) (fun g => ?_)
  obtain ⟨⟨L0, v1, v5⟩, hg2⟩ := g
  have hg2 : 0 ≤ v5 ∧ v5 ≤ l.length ∧ v1 = k + 9 * v5 + wgT blM (L0.take (v5).toNat) ∧ wgT blM (L0.take (v5).toNat) = wgT blM (l.take (v5).toNat) ∧ L0.length = l.length ∧ (∀ (j : Nat), v5 ≤ (j : Int) → L0[j]? = l[j]?) ∧ Upto (mkBk k L0) (fun n => L0[n]?) v5 := hg2
  obtain ⟨_, _, hk1, hac1, hL, hA, hU⟩ := hg2
  refine X.seq ?_
  refine X.seq ?_
  have hlb : (l.map d72).length = l.length := List.length_map ..
  have hll := hl.1
  have el3 : (L0.map d72).length = L0.length := List.length_map ..
  refine rk ⟨[(0, rV 0), (1, iV v1), (5, iV v5), (9, bV (decide ((v5 : Int) < ((L0.map d72).length : Int))))], [(0, some (.nst 14 72 [(6, 1, 9), (8, 1, 9), (9, 1, 3), (10, 5, 35), (12, 2, 165)] (L0.map d72) []))], 160⟩ ?_
  refine if_ (b := decide ((v5 : Int) < ((L0.map d72).length : Int))) (fun hb4 => ?_) (fun hb4 => ?_)
  ·replace hb4 := of_decide_eq_true (hb4)
   refine X.skip ?_
   refine X.seq ?_
   refine X.block ?_
   refine X.seq ?_
   have hle := wgT_le blM l (Int.toNat v5)
   have hle2 := wgT_le blM l (Int.toNat (v5 + 1))
   refine rs 3 ?_
   refine CH.idxR hτ (rows := (L0.map d72)) (n := v5) (b := 0) (by kernel_rfl) (by kernel_rfl) (by first | omega | (simp; done) | (simp; omega)) (by simp only [List.length_map, List.length_set]; first | omega | (simp; done) | (simp; omega)) (by kernel_rfl) ?_
   refine go 1 ?_
   obtain ⟨x5, hx5⟩ : ∃ x, L0[Int.toNat v5]? = some x := ⟨_, List.getElem?_eq_getElem (by first | omega | (simp; done) | (simp; omega))⟩
   have hx0 := (hA _ (by omega)).symm.trans hx5; have hxs := all_at hl.2 hx0; have b1 := hxs.2.1.1; have b2 := hxs.2.2.1.1.1; have b3 := hxs.2.2.1.2; have b4 := hxs.2.2.2.1.1; have b5 := hxs.2.2.2.2.1.1; have hst := wgT_takeB (by omega) hx0
   refine CH.stN hτ (rows := (L0.map d72)) (n := Int.toNat v5) (p := 0) (len := 1) (op := []) (L := []) (d72 x5) (by kernel_rfl) (by kernel_rfl) (by rw [List.getElem?_map, hx5]; rfl) trivial trivial (by kernel_rfl) ?_
   refine CH.endk ⟨[(0, rV 0), (1, iV v1), (5, iV v5)], [(0, some (.nst 14 72 [(6, 1, 9), (8, 1, 9), (9, 1, 3), (10, 5, 35), (12, 2, 165)] ((L0.map d72).set (Int.toNat v5) (d72 (⟨v1, x5.f1, x5.f2, x5.f3, x5.f4, x5.f5, x5.f6, x5.f7, x5.f8, x5.f9⟩ : S72))) []))], 256⟩ (by kernel_rfl) (by kernel_rfl) (s2 := ⟨[(0, rV 0), (1, iV v1), (5, iV v5)], [(0, some (.nst 14 72 [(6, 1, 9), (8, 1, 9), (9, 1, 3), (10, 5, 35), (12, 2, 165)] ((L0.set (Int.toNat v5) (⟨v1, x5.f1, x5.f2, x5.f3, x5.f4, x5.f5, x5.f6, x5.f7, x5.f8, x5.f9⟩ : S72)).map d72) []))], 256⟩) (congrArg (fun z : List (List D) => (⟨[(0, rV 0), (1, iV v1), (5, iV v5)], [(0, some (.nst 14 72 [(6, 1, 9), (8, 1, 9), (9, 1, 3), (10, 5, 35), (12, 2, 165)] z []))], 256⟩ : St)) (show ((L0.map d72).set (Int.toNat v5) (d72 (⟨v1, x5.f1, x5.f2, x5.f3, x5.f4, x5.f5, x5.f6, x5.f7, x5.f8, x5.f9⟩ : S72))) = ((L0.set (Int.toNat v5) (⟨v1, x5.f1, x5.f2, x5.f3, x5.f4, x5.f5, x5.f6, x5.f7, x5.f8, x5.f9⟩ : S72)).map d72) from List.map_set.symm)) ?_
   refine X.seq ?_
   refine X.rk ⟨[(0, rV 0), (1, iV (wrap64 (v1 + 1))), (5, iV v5)], [(0, some (.nst 14 72 [(6, 1, 9), (8, 1, 9), (9, 1, 3), (10, 5, 35), (12, 2, 165)] ((L0.set (Int.toNat v5) (⟨v1, x5.f1, x5.f2, x5.f3, x5.f4, x5.f5, x5.f6, x5.f7, x5.f8, x5.f9⟩ : S72)).map d72) []))], 304⟩ hτ hmix (by kernel_rfl) (by kernel_rfl) (s2 := ⟨[(0, rV 0), (1, iV (v1 + 1)), (5, iV v5)], [(0, some (.nst 14 72 [(6, 1, 9), (8, 1, 9), (9, 1, 3), (10, 5, 35), (12, 2, 165)] ((L0.set (Int.toNat v5) (⟨v1, x5.f1, x5.f2, x5.f3, x5.f4, x5.f5, x5.f6, x5.f7, x5.f8, x5.f9⟩ : S72)).map d72) []))], 304⟩) (congrArg (fun z : Int => (⟨[(0, rV 0), (1, iV z), (5, iV v5)], [(0, some (.nst 14 72 [(6, 1, 9), (8, 1, 9), (9, 1, 3), (10, 5, 35), (12, 2, 165)] ((L0.set (Int.toNat v5) (⟨v1, x5.f1, x5.f2, x5.f3, x5.f4, x5.f5, x5.f6, x5.f7, x5.f8, x5.f9⟩ : S72)).map d72) []))], 304⟩ : St)) (show wrap64 (v1 + 1) = (v1 + 1) by rw [w64 (n := (v1 + 1)) (by omega) (by omega)])) ?_
   refine X.seq (rs 3 ?_)
   refine CH.idxR hτ (rows := ((L0.set (Int.toNat v5) (⟨v1, x5.f1, x5.f2, x5.f3, x5.f4, x5.f5, x5.f6, x5.f7, x5.f8, x5.f9⟩ : S72)).map d72)) (n := v5) (b := 0) (by kernel_rfl) (by kernel_rfl) (by first | omega | (simp; done) | (simp; omega)) (by simp only [List.length_map, List.length_set]; first | omega | (simp; done) | (simp; omega)) (by kernel_rfl) ?_
   refine go 1 ?_
   obtain ⟨x6, hx6⟩ : ∃ x, (L0.set (Int.toNat v5) (⟨v1, x5.f1, x5.f2, x5.f3, x5.f4, x5.f5, x5.f6, x5.f7, x5.f8, x5.f9⟩ : S72))[Int.toNat v5]? = some x := ⟨_, List.getElem?_eq_getElem (by first | omega | (simp; done) | (simp; omega))⟩
   have p6 := set_get hx6; have q0hx6 := congrArg (fun a : S72 => a.f4.f2.length) p6; simp only at q0hx6; have q1hx6 := congrArg (fun a : S72 => a.f5.f1.length) p6; simp only at q1hx6; have q2hx6 := congrArg (fun a : S72 => a.f5.f2.length) p6; simp only at q2hx6; have q3hx6 := congrArg (fun a : S72 => a.f6.length) p6; simp only at q3hx6; have q4hx6 := congrArg (fun a : S72 => a.f8.length) p6; simp only at q4hx6
   refine CH.stN hτ (rows := ((L0.set (Int.toNat v5) (⟨v1, x5.f1, x5.f2, x5.f3, x5.f4, x5.f5, x5.f6, x5.f7, x5.f8, x5.f9⟩ : S72)).map d72)) (n := Int.toNat v5) (p := 1) (len := 1) (op := []) (L := []) (d72 x6) (by kernel_rfl) (by kernel_rfl) (by rw [List.getElem?_map, hx6]; rfl) trivial trivial (by kernel_rfl) ?_
   refine CH.endk ⟨[(0, rV 0), (1, iV (v1 + 1)), (5, iV v5)], [(0, some (.nst 14 72 [(6, 1, 9), (8, 1, 9), (9, 1, 3), (10, 5, 35), (12, 2, 165)] (((L0.set (Int.toNat v5) (⟨v1, x5.f1, x5.f2, x5.f3, x5.f4, x5.f5, x5.f6, x5.f7, x5.f8, x5.f9⟩ : S72)).map d72).set (Int.toNat v5) (d72 (⟨x6.f0, (v1 + 1), x6.f2, x6.f3, x6.f4, x6.f5, x6.f6, x6.f7, x6.f8, x6.f9⟩ : S72))) []))], 400⟩ (by kernel_rfl) (by kernel_rfl) (s2 := ⟨[(0, rV 0), (1, iV (v1 + 1)), (5, iV v5)], [(0, some (.nst 14 72 [(6, 1, 9), (8, 1, 9), (9, 1, 3), (10, 5, 35), (12, 2, 165)] ((L0.set (Int.toNat v5) (⟨x6.f0, (v1 + 1), x6.f2, x6.f3, x6.f4, x6.f5, x6.f6, x6.f7, x6.f8, x6.f9⟩ : S72)).map d72) []))], 400⟩) (congrArg (fun z : List (List D) => (⟨[(0, rV 0), (1, iV (v1 + 1)), (5, iV v5)], [(0, some (.nst 14 72 [(6, 1, 9), (8, 1, 9), (9, 1, 3), (10, 5, 35), (12, 2, 165)] z []))], 400⟩ : St)) (show (((L0.set (Int.toNat v5) (⟨v1, x5.f1, x5.f2, x5.f3, x5.f4, x5.f5, x5.f6, x5.f7, x5.f8, x5.f9⟩ : S72)).map d72).set (Int.toNat v5) (d72 (⟨x6.f0, (v1 + 1), x6.f2, x6.f3, x6.f4, x6.f5, x6.f6, x6.f7, x6.f8, x6.f9⟩ : S72))) = ((L0.set (Int.toNat v5) (⟨x6.f0, (v1 + 1), x6.f2, x6.f3, x6.f4, x6.f5, x6.f6, x6.f7, x6.f8, x6.f9⟩ : S72)).map d72) from (by rw [← List.map_set, List.set_set]))) ?_
   refine X.seq ?_
   refine X.rk ⟨[(0, rV 0), (1, iV (wrap64 ((v1 + 1) + 1))), (5, iV v5)], [(0, some (.nst 14 72 [(6, 1, 9), (8, 1, 9), (9, 1, 3), (10, 5, 35), (12, 2, 165)] ((L0.set (Int.toNat v5) (⟨x6.f0, (v1 + 1), x6.f2, x6.f3, x6.f4, x6.f5, x6.f6, x6.f7, x6.f8, x6.f9⟩ : S72)).map d72) []))], 448⟩ hτ hmix (by kernel_rfl) (by kernel_rfl) (s2 := ⟨[(0, rV 0), (1, iV ((v1 + 1) + 1)), (5, iV v5)], [(0, some (.nst 14 72 [(6, 1, 9), (8, 1, 9), (9, 1, 3), (10, 5, 35), (12, 2, 165)] ((L0.set (Int.toNat v5) (⟨x6.f0, (v1 + 1), x6.f2, x6.f3, x6.f4, x6.f5, x6.f6, x6.f7, x6.f8, x6.f9⟩ : S72)).map d72) []))], 448⟩) (congrArg (fun z : Int => (⟨[(0, rV 0), (1, iV z), (5, iV v5)], [(0, some (.nst 14 72 [(6, 1, 9), (8, 1, 9), (9, 1, 3), (10, 5, 35), (12, 2, 165)] ((L0.set (Int.toNat v5) (⟨x6.f0, (v1 + 1), x6.f2, x6.f3, x6.f4, x6.f5, x6.f6, x6.f7, x6.f8, x6.f9⟩ : S72)).map d72) []))], 448⟩ : St)) (show wrap64 ((v1 + 1) + 1) = ((v1 + 1) + 1) by rw [w64 (n := ((v1 + 1) + 1)) (by omega) (by omega)])) ?_
   refine X.seq (rs 3 ?_)
   refine CH.idxR hτ (rows := ((L0.set (Int.toNat v5) (⟨x6.f0, (v1 + 1), x6.f2, x6.f3, x6.f4, x6.f5, x6.f6, x6.f7, x6.f8, x6.f9⟩ : S72)).map d72)) (n := v5) (b := 0) (by kernel_rfl) (by kernel_rfl) (by first | omega | (simp; done) | (simp; omega)) (by simp only [List.length_map, List.length_set]; first | omega | (simp; done) | (simp; omega)) (by kernel_rfl) ?_
   refine go 1 ?_
   obtain ⟨x7, hx7⟩ : ∃ x, (L0.set (Int.toNat v5) (⟨x6.f0, (v1 + 1), x6.f2, x6.f3, x6.f4, x6.f5, x6.f6, x6.f7, x6.f8, x6.f9⟩ : S72))[Int.toNat v5]? = some x := ⟨_, List.getElem?_eq_getElem (by first | omega | (simp; done) | (simp; omega))⟩
   have p8 := set_get hx7; have q0hx7 := congrArg (fun a : S72 => a.f4.f2.length) p8; simp only at q0hx7; have q1hx7 := congrArg (fun a : S72 => a.f5.f1.length) p8; simp only at q1hx7; have q2hx7 := congrArg (fun a : S72 => a.f5.f2.length) p8; simp only at q2hx7; have q3hx7 := congrArg (fun a : S72 => a.f6.length) p8; simp only at q3hx7; have q4hx7 := congrArg (fun a : S72 => a.f8.length) p8; simp only at q4hx7
   refine CH.stN hτ (rows := ((L0.set (Int.toNat v5) (⟨x6.f0, (v1 + 1), x6.f2, x6.f3, x6.f4, x6.f5, x6.f6, x6.f7, x6.f8, x6.f9⟩ : S72)).map d72)) (n := Int.toNat v5) (p := 2) (len := 1) (op := []) (L := []) (d72 x7) (by kernel_rfl) (by kernel_rfl) (by rw [List.getElem?_map, hx7]; rfl) trivial trivial (by kernel_rfl) ?_
   refine CH.endk ⟨[(0, rV 0), (1, iV ((v1 + 1) + 1)), (5, iV v5)], [(0, some (.nst 14 72 [(6, 1, 9), (8, 1, 9), (9, 1, 3), (10, 5, 35), (12, 2, 165)] (((L0.set (Int.toNat v5) (⟨x6.f0, (v1 + 1), x6.f2, x6.f3, x6.f4, x6.f5, x6.f6, x6.f7, x6.f8, x6.f9⟩ : S72)).map d72).set (Int.toNat v5) (d72 (⟨x7.f0, x7.f1, ((v1 + 1) + 1), x7.f3, x7.f4, x7.f5, x7.f6, x7.f7, x7.f8, x7.f9⟩ : S72))) []))], 544⟩ (by kernel_rfl) (by kernel_rfl) (s2 := ⟨[(0, rV 0), (1, iV ((v1 + 1) + 1)), (5, iV v5)], [(0, some (.nst 14 72 [(6, 1, 9), (8, 1, 9), (9, 1, 3), (10, 5, 35), (12, 2, 165)] ((L0.set (Int.toNat v5) (⟨x7.f0, x7.f1, ((v1 + 1) + 1), x7.f3, x7.f4, x7.f5, x7.f6, x7.f7, x7.f8, x7.f9⟩ : S72)).map d72) []))], 544⟩) (congrArg (fun z : List (List D) => (⟨[(0, rV 0), (1, iV ((v1 + 1) + 1)), (5, iV v5)], [(0, some (.nst 14 72 [(6, 1, 9), (8, 1, 9), (9, 1, 3), (10, 5, 35), (12, 2, 165)] z []))], 544⟩ : St)) (show (((L0.set (Int.toNat v5) (⟨x6.f0, (v1 + 1), x6.f2, x6.f3, x6.f4, x6.f5, x6.f6, x6.f7, x6.f8, x6.f9⟩ : S72)).map d72).set (Int.toNat v5) (d72 (⟨x7.f0, x7.f1, ((v1 + 1) + 1), x7.f3, x7.f4, x7.f5, x7.f6, x7.f7, x7.f8, x7.f9⟩ : S72))) = ((L0.set (Int.toNat v5) (⟨x7.f0, x7.f1, ((v1 + 1) + 1), x7.f3, x7.f4, x7.f5, x7.f6, x7.f7, x7.f8, x7.f9⟩ : S72)).map d72) from (by rw [← List.map_set, List.set_set]))) ?_
   refine X.seq ?_
   refine X.rk ⟨[(0, rV 0), (1, iV (wrap64 (((v1 + 1) + 1) + 1))), (5, iV v5)], [(0, some (.nst 14 72 [(6, 1, 9), (8, 1, 9), (9, 1, 3), (10, 5, 35), (12, 2, 165)] ((L0.set (Int.toNat v5) (⟨x7.f0, x7.f1, ((v1 + 1) + 1), x7.f3, x7.f4, x7.f5, x7.f6, x7.f7, x7.f8, x7.f9⟩ : S72)).map d72) []))], 592⟩ hτ hmix (by kernel_rfl) (by kernel_rfl) (s2 := ⟨[(0, rV 0), (1, iV (((v1 + 1) + 1) + 1)), (5, iV v5)], [(0, some (.nst 14 72 [(6, 1, 9), (8, 1, 9), (9, 1, 3), (10, 5, 35), (12, 2, 165)] ((L0.set (Int.toNat v5) (⟨x7.f0, x7.f1, ((v1 + 1) + 1), x7.f3, x7.f4, x7.f5, x7.f6, x7.f7, x7.f8, x7.f9⟩ : S72)).map d72) []))], 592⟩) (congrArg (fun z : Int => (⟨[(0, rV 0), (1, iV z), (5, iV v5)], [(0, some (.nst 14 72 [(6, 1, 9), (8, 1, 9), (9, 1, 3), (10, 5, 35), (12, 2, 165)] ((L0.set (Int.toNat v5) (⟨x7.f0, x7.f1, ((v1 + 1) + 1), x7.f3, x7.f4, x7.f5, x7.f6, x7.f7, x7.f8, x7.f9⟩ : S72)).map d72) []))], 592⟩ : St)) (show wrap64 (((v1 + 1) + 1) + 1) = (((v1 + 1) + 1) + 1) by rw [w64 (n := (((v1 + 1) + 1) + 1)) (by omega) (by omega)])) ?_
   refine X.seq (rs 3 ?_)
   obtain ⟨r8, hr10, hf9⟩ := l_markText (((v1 + 1) + 1) + 1) (by omega)
   replace hr10 := hr10.symm; subst hr10
   refine ca hf9 Try.func58 ?_
   refine CH.idxR hτ (rows := ((L0.set (Int.toNat v5) (⟨x7.f0, x7.f1, ((v1 + 1) + 1), x7.f3, x7.f4, x7.f5, x7.f6, x7.f7, x7.f8, x7.f9⟩ : S72)).map d72)) (n := v5) (b := 0) (by kernel_rfl) (by kernel_rfl) (by first | omega | (simp; done) | (simp; omega)) (by simp only [List.length_map, List.length_set]; first | omega | (simp; done) | (simp; omega)) (by kernel_rfl) ?_
   refine go 1 ?_
   obtain ⟨x12, hx12⟩ : ∃ x, (L0.set (Int.toNat v5) (⟨x7.f0, x7.f1, ((v1 + 1) + 1), x7.f3, x7.f4, x7.f5, x7.f6, x7.f7, x7.f8, x7.f9⟩ : S72))[Int.toNat v5]? = some x := ⟨_, List.getElem?_eq_getElem (by first | omega | (simp; done) | (simp; omega))⟩
   have p10 := set_get hx12; have q0hx12 := congrArg (fun a : S72 => a.f4.f2.length) p10; simp only at q0hx12; have q1hx12 := congrArg (fun a : S72 => a.f5.f1.length) p10; simp only at q1hx12; have q2hx12 := congrArg (fun a : S72 => a.f5.f2.length) p10; simp only at q2hx12; have q3hx12 := congrArg (fun a : S72 => a.f6.length) p10; simp only at q3hx12; have q4hx12 := congrArg (fun a : S72 => a.f8.length) p10; simp only at q4hx12
   refine CH.stN hτ (rows := ((L0.set (Int.toNat v5) (⟨x7.f0, x7.f1, ((v1 + 1) + 1), x7.f3, x7.f4, x7.f5, x7.f6, x7.f7, x7.f8, x7.f9⟩ : S72)).map d72)) (n := Int.toNat v5) (p := 3) (len := 1) (op := []) (L := []) (d72 x12) (by kernel_rfl) (by kernel_rfl) (by rw [List.getElem?_map, hx12]; rfl) trivial trivial (by kernel_rfl) ?_
   refine CH.endk ⟨[(0, rV 0), (1, iV (((v1 + 1) + 1) + 1)), (5, iV v5)], [(0, some (.nst 14 72 [(6, 1, 9), (8, 1, 9), (9, 1, 3), (10, 5, 35), (12, 2, 165)] (((L0.set (Int.toNat v5) (⟨x7.f0, x7.f1, ((v1 + 1) + 1), x7.f3, x7.f4, x7.f5, x7.f6, x7.f7, x7.f8, x7.f9⟩ : S72)).map d72).set (Int.toNat v5) (d72 (⟨x12.f0, x12.f1, x12.f2, (mt (((v1 + 1) + 1) + 1)), x12.f4, x12.f5, x12.f6, x12.f7, x12.f8, x12.f9⟩ : S72))) []))], 704⟩ (by kernel_rfl) (by kernel_rfl) (s2 := ⟨[(0, rV 0), (1, iV (((v1 + 1) + 1) + 1)), (5, iV v5)], [(0, some (.nst 14 72 [(6, 1, 9), (8, 1, 9), (9, 1, 3), (10, 5, 35), (12, 2, 165)] ((L0.set (Int.toNat v5) (⟨x12.f0, x12.f1, x12.f2, (mt (((v1 + 1) + 1) + 1)), x12.f4, x12.f5, x12.f6, x12.f7, x12.f8, x12.f9⟩ : S72)).map d72) []))], 704⟩) (congrArg (fun z : List (List D) => (⟨[(0, rV 0), (1, iV (((v1 + 1) + 1) + 1)), (5, iV v5)], [(0, some (.nst 14 72 [(6, 1, 9), (8, 1, 9), (9, 1, 3), (10, 5, 35), (12, 2, 165)] z []))], 704⟩ : St)) (show (((L0.set (Int.toNat v5) (⟨x7.f0, x7.f1, ((v1 + 1) + 1), x7.f3, x7.f4, x7.f5, x7.f6, x7.f7, x7.f8, x7.f9⟩ : S72)).map d72).set (Int.toNat v5) (d72 (⟨x12.f0, x12.f1, x12.f2, (mt (((v1 + 1) + 1) + 1)), x12.f4, x12.f5, x12.f6, x12.f7, x12.f8, x12.f9⟩ : S72))) = ((L0.set (Int.toNat v5) (⟨x12.f0, x12.f1, x12.f2, (mt (((v1 + 1) + 1) + 1)), x12.f4, x12.f5, x12.f6, x12.f7, x12.f8, x12.f9⟩ : S72)).map d72) from (by rw [← List.map_set, List.set_set]))) ?_
   refine X.seq ?_
   refine X.rk ⟨[(0, rV 0), (1, iV (wrap64 ((((v1 + 1) + 1) + 1) + 1))), (5, iV v5)], [(0, some (.nst 14 72 [(6, 1, 9), (8, 1, 9), (9, 1, 3), (10, 5, 35), (12, 2, 165)] ((L0.set (Int.toNat v5) (⟨x12.f0, x12.f1, x12.f2, (mt (((v1 + 1) + 1) + 1)), x12.f4, x12.f5, x12.f6, x12.f7, x12.f8, x12.f9⟩ : S72)).map d72) []))], 752⟩ hτ hmix (by kernel_rfl) (by kernel_rfl) (s2 := ⟨[(0, rV 0), (1, iV ((((v1 + 1) + 1) + 1) + 1)), (5, iV v5)], [(0, some (.nst 14 72 [(6, 1, 9), (8, 1, 9), (9, 1, 3), (10, 5, 35), (12, 2, 165)] ((L0.set (Int.toNat v5) (⟨x12.f0, x12.f1, x12.f2, (mt (((v1 + 1) + 1) + 1)), x12.f4, x12.f5, x12.f6, x12.f7, x12.f8, x12.f9⟩ : S72)).map d72) []))], 752⟩) (congrArg (fun z : Int => (⟨[(0, rV 0), (1, iV z), (5, iV v5)], [(0, some (.nst 14 72 [(6, 1, 9), (8, 1, 9), (9, 1, 3), (10, 5, 35), (12, 2, 165)] ((L0.set (Int.toNat v5) (⟨x12.f0, x12.f1, x12.f2, (mt (((v1 + 1) + 1) + 1)), x12.f4, x12.f5, x12.f6, x12.f7, x12.f8, x12.f9⟩ : S72)).map d72) []))], 752⟩ : St)) (show wrap64 ((((v1 + 1) + 1) + 1) + 1) = ((((v1 + 1) + 1) + 1) + 1) by rw [w64 (n := ((((v1 + 1) + 1) + 1) + 1)) (by omega) (by omega)])) ?_
   refine X.seq (rs 3 ?_)
   refine CH.idxR hτ (rows := ((L0.set (Int.toNat v5) (⟨x12.f0, x12.f1, x12.f2, (mt (((v1 + 1) + 1) + 1)), x12.f4, x12.f5, x12.f6, x12.f7, x12.f8, x12.f9⟩ : S72)).map d72)) (n := v5) (b := 0) (by kernel_rfl) (by kernel_rfl) (by first | omega | (simp; done) | (simp; omega)) (by simp only [List.length_map, List.length_set]; first | omega | (simp; done) | (simp; omega)) (by kernel_rfl) ?_
   refine go 2 ?_
   obtain ⟨x13, hx13⟩ : ∃ x, (L0.set (Int.toNat v5) (⟨x12.f0, x12.f1, x12.f2, (mt (((v1 + 1) + 1) + 1)), x12.f4, x12.f5, x12.f6, x12.f7, x12.f8, x12.f9⟩ : S72))[Int.toNat v5]? = some x := ⟨_, List.getElem?_eq_getElem (by first | omega | (simp; done) | (simp; omega))⟩
   have p12 := set_get hx13; have q0hx13 := congrArg (fun a : S72 => a.f4.f2.length) p12; simp only at q0hx13; have q1hx13 := congrArg (fun a : S72 => a.f5.f1.length) p12; simp only at q1hx13; have q2hx13 := congrArg (fun a : S72 => a.f5.f2.length) p12; simp only at q2hx13; have q3hx13 := congrArg (fun a : S72 => a.f6.length) p12; simp only at q3hx13; have q4hx13 := congrArg (fun a : S72 => a.f8.length) p12; simp only at q4hx13
   refine CH.stN hτ (rows := ((L0.set (Int.toNat v5) (⟨x12.f0, x12.f1, x12.f2, (mt (((v1 + 1) + 1) + 1)), x12.f4, x12.f5, x12.f6, x12.f7, x12.f8, x12.f9⟩ : S72)).map d72)) (n := Int.toNat v5) (p := 4) (len := 1) (op := []) (L := []) (d72 x13) (by kernel_rfl) (by kernel_rfl) (by rw [List.getElem?_map, hx13]; rfl) trivial trivial (by kernel_rfl) ?_
   refine CH.endk ⟨[(0, rV 0), (1, iV ((((v1 + 1) + 1) + 1) + 1)), (5, iV v5)], [(0, some (.nst 14 72 [(6, 1, 9), (8, 1, 9), (9, 1, 3), (10, 5, 35), (12, 2, 165)] (((L0.set (Int.toNat v5) (⟨x12.f0, x12.f1, x12.f2, (mt (((v1 + 1) + 1) + 1)), x12.f4, x12.f5, x12.f6, x12.f7, x12.f8, x12.f9⟩ : S72)).map d72).set (Int.toNat v5) (d72 (⟨x13.f0, x13.f1, x13.f2, x13.f3, (⟨((((v1 + 1) + 1) + 1) + 1), x13.f4.f1, x13.f4.f2⟩ : S68), x13.f5, x13.f6, x13.f7, x13.f8, x13.f9⟩ : S72))) []))], 864⟩ (by kernel_rfl) (by kernel_rfl) (s2 := ⟨[(0, rV 0), (1, iV ((((v1 + 1) + 1) + 1) + 1)), (5, iV v5)], [(0, some (.nst 14 72 [(6, 1, 9), (8, 1, 9), (9, 1, 3), (10, 5, 35), (12, 2, 165)] ((L0.set (Int.toNat v5) (⟨x13.f0, x13.f1, x13.f2, x13.f3, (⟨((((v1 + 1) + 1) + 1) + 1), x13.f4.f1, x13.f4.f2⟩ : S68), x13.f5, x13.f6, x13.f7, x13.f8, x13.f9⟩ : S72)).map d72) []))], 864⟩) (congrArg (fun z : List (List D) => (⟨[(0, rV 0), (1, iV ((((v1 + 1) + 1) + 1) + 1)), (5, iV v5)], [(0, some (.nst 14 72 [(6, 1, 9), (8, 1, 9), (9, 1, 3), (10, 5, 35), (12, 2, 165)] z []))], 864⟩ : St)) (show (((L0.set (Int.toNat v5) (⟨x12.f0, x12.f1, x12.f2, (mt (((v1 + 1) + 1) + 1)), x12.f4, x12.f5, x12.f6, x12.f7, x12.f8, x12.f9⟩ : S72)).map d72).set (Int.toNat v5) (d72 (⟨x13.f0, x13.f1, x13.f2, x13.f3, (⟨((((v1 + 1) + 1) + 1) + 1), x13.f4.f1, x13.f4.f2⟩ : S68), x13.f5, x13.f6, x13.f7, x13.f8, x13.f9⟩ : S72))) = ((L0.set (Int.toNat v5) (⟨x13.f0, x13.f1, x13.f2, x13.f3, (⟨((((v1 + 1) + 1) + 1) + 1), x13.f4.f1, x13.f4.f2⟩ : S68), x13.f5, x13.f6, x13.f7, x13.f8, x13.f9⟩ : S72)).map d72) from (by rw [← List.map_set, List.set_set]))) ?_
   refine X.seq ?_
   refine X.rk ⟨[(0, rV 0), (1, iV (wrap64 (((((v1 + 1) + 1) + 1) + 1) + 1))), (5, iV v5)], [(0, some (.nst 14 72 [(6, 1, 9), (8, 1, 9), (9, 1, 3), (10, 5, 35), (12, 2, 165)] ((L0.set (Int.toNat v5) (⟨x13.f0, x13.f1, x13.f2, x13.f3, (⟨((((v1 + 1) + 1) + 1) + 1), x13.f4.f1, x13.f4.f2⟩ : S68), x13.f5, x13.f6, x13.f7, x13.f8, x13.f9⟩ : S72)).map d72) []))], 912⟩ hτ hmix (by kernel_rfl) (by kernel_rfl) (s2 := ⟨[(0, rV 0), (1, iV (((((v1 + 1) + 1) + 1) + 1) + 1)), (5, iV v5)], [(0, some (.nst 14 72 [(6, 1, 9), (8, 1, 9), (9, 1, 3), (10, 5, 35), (12, 2, 165)] ((L0.set (Int.toNat v5) (⟨x13.f0, x13.f1, x13.f2, x13.f3, (⟨((((v1 + 1) + 1) + 1) + 1), x13.f4.f1, x13.f4.f2⟩ : S68), x13.f5, x13.f6, x13.f7, x13.f8, x13.f9⟩ : S72)).map d72) []))], 912⟩) (congrArg (fun z : Int => (⟨[(0, rV 0), (1, iV z), (5, iV v5)], [(0, some (.nst 14 72 [(6, 1, 9), (8, 1, 9), (9, 1, 3), (10, 5, 35), (12, 2, 165)] ((L0.set (Int.toNat v5) (⟨x13.f0, x13.f1, x13.f2, x13.f3, (⟨((((v1 + 1) + 1) + 1) + 1), x13.f4.f1, x13.f4.f2⟩ : S68), x13.f5, x13.f6, x13.f7, x13.f8, x13.f9⟩ : S72)).map d72) []))], 912⟩ : St)) (show wrap64 (((((v1 + 1) + 1) + 1) + 1) + 1) = (((((v1 + 1) + 1) + 1) + 1) + 1) by rw [w64 (n := (((((v1 + 1) + 1) + 1) + 1) + 1)) (by omega) (by omega)])) ?_
   refine X.seq (rs 3 ?_)
   refine CH.idxR hτ (rows := ((L0.set (Int.toNat v5) (⟨x13.f0, x13.f1, x13.f2, x13.f3, (⟨((((v1 + 1) + 1) + 1) + 1), x13.f4.f1, x13.f4.f2⟩ : S68), x13.f5, x13.f6, x13.f7, x13.f8, x13.f9⟩ : S72)).map d72)) (n := v5) (b := 0) (by kernel_rfl) (by kernel_rfl) (by first | omega | (simp; done) | (simp; omega)) (by simp only [List.length_map, List.length_set]; first | omega | (simp; done) | (simp; omega)) (by kernel_rfl) ?_
   refine go 2 ?_
   obtain ⟨x14, hx14⟩ : ∃ x, (L0.set (Int.toNat v5) (⟨x13.f0, x13.f1, x13.f2, x13.f3, (⟨((((v1 + 1) + 1) + 1) + 1), x13.f4.f1, x13.f4.f2⟩ : S68), x13.f5, x13.f6, x13.f7, x13.f8, x13.f9⟩ : S72))[Int.toNat v5]? = some x := ⟨_, List.getElem?_eq_getElem (by first | omega | (simp; done) | (simp; omega))⟩
   have p14 := set_get hx14; have q0hx14 := congrArg (fun a : S72 => a.f4.f2.length) p14; simp only at q0hx14; have q1hx14 := congrArg (fun a : S72 => a.f5.f1.length) p14; simp only at q1hx14; have q2hx14 := congrArg (fun a : S72 => a.f5.f2.length) p14; simp only at q2hx14; have q3hx14 := congrArg (fun a : S72 => a.f6.length) p14; simp only at q3hx14; have q4hx14 := congrArg (fun a : S72 => a.f8.length) p14; simp only at q4hx14
   refine CH.stN hτ (rows := ((L0.set (Int.toNat v5) (⟨x13.f0, x13.f1, x13.f2, x13.f3, (⟨((((v1 + 1) + 1) + 1) + 1), x13.f4.f1, x13.f4.f2⟩ : S68), x13.f5, x13.f6, x13.f7, x13.f8, x13.f9⟩ : S72)).map d72)) (n := Int.toNat v5) (p := 5) (len := 1) (op := []) (L := []) (d72 x14) (by kernel_rfl) (by kernel_rfl) (by rw [List.getElem?_map, hx14]; rfl) trivial trivial (by kernel_rfl) ?_
   refine CH.endk ⟨[(0, rV 0), (1, iV (((((v1 + 1) + 1) + 1) + 1) + 1)), (5, iV v5)], [(0, some (.nst 14 72 [(6, 1, 9), (8, 1, 9), (9, 1, 3), (10, 5, 35), (12, 2, 165)] (((L0.set (Int.toNat v5) (⟨x13.f0, x13.f1, x13.f2, x13.f3, (⟨((((v1 + 1) + 1) + 1) + 1), x13.f4.f1, x13.f4.f2⟩ : S68), x13.f5, x13.f6, x13.f7, x13.f8, x13.f9⟩ : S72)).map d72).set (Int.toNat v5) (d72 (⟨x14.f0, x14.f1, x14.f2, x14.f3, (⟨x14.f4.f0, (((((v1 + 1) + 1) + 1) + 1) + 1), x14.f4.f2⟩ : S68), x14.f5, x14.f6, x14.f7, x14.f8, x14.f9⟩ : S72))) []))], 1024⟩ (by kernel_rfl) (by kernel_rfl) (s2 := ⟨[(0, rV 0), (1, iV (((((v1 + 1) + 1) + 1) + 1) + 1)), (5, iV v5)], [(0, some (.nst 14 72 [(6, 1, 9), (8, 1, 9), (9, 1, 3), (10, 5, 35), (12, 2, 165)] ((L0.set (Int.toNat v5) (⟨x14.f0, x14.f1, x14.f2, x14.f3, (⟨x14.f4.f0, (((((v1 + 1) + 1) + 1) + 1) + 1), x14.f4.f2⟩ : S68), x14.f5, x14.f6, x14.f7, x14.f8, x14.f9⟩ : S72)).map d72) []))], 1024⟩) (congrArg (fun z : List (List D) => (⟨[(0, rV 0), (1, iV (((((v1 + 1) + 1) + 1) + 1) + 1)), (5, iV v5)], [(0, some (.nst 14 72 [(6, 1, 9), (8, 1, 9), (9, 1, 3), (10, 5, 35), (12, 2, 165)] z []))], 1024⟩ : St)) (show (((L0.set (Int.toNat v5) (⟨x13.f0, x13.f1, x13.f2, x13.f3, (⟨((((v1 + 1) + 1) + 1) + 1), x13.f4.f1, x13.f4.f2⟩ : S68), x13.f5, x13.f6, x13.f7, x13.f8, x13.f9⟩ : S72)).map d72).set (Int.toNat v5) (d72 (⟨x14.f0, x14.f1, x14.f2, x14.f3, (⟨x14.f4.f0, (((((v1 + 1) + 1) + 1) + 1) + 1), x14.f4.f2⟩ : S68), x14.f5, x14.f6, x14.f7, x14.f8, x14.f9⟩ : S72))) = ((L0.set (Int.toNat v5) (⟨x14.f0, x14.f1, x14.f2, x14.f3, (⟨x14.f4.f0, (((((v1 + 1) + 1) + 1) + 1) + 1), x14.f4.f2⟩ : S68), x14.f5, x14.f6, x14.f7, x14.f8, x14.f9⟩ : S72)).map d72) from (by rw [← List.map_set, List.set_set]))) ?_
   refine X.seq ?_
   refine X.rk ⟨[(0, rV 0), (1, iV (wrap64 ((((((v1 + 1) + 1) + 1) + 1) + 1) + 1))), (5, iV v5)], [(0, some (.nst 14 72 [(6, 1, 9), (8, 1, 9), (9, 1, 3), (10, 5, 35), (12, 2, 165)] ((L0.set (Int.toNat v5) (⟨x14.f0, x14.f1, x14.f2, x14.f3, (⟨x14.f4.f0, (((((v1 + 1) + 1) + 1) + 1) + 1), x14.f4.f2⟩ : S68), x14.f5, x14.f6, x14.f7, x14.f8, x14.f9⟩ : S72)).map d72) []))], 1072⟩ hτ hmix (by kernel_rfl) (by kernel_rfl) (s2 := ⟨[(0, rV 0), (1, iV ((((((v1 + 1) + 1) + 1) + 1) + 1) + 1)), (5, iV v5)], [(0, some (.nst 14 72 [(6, 1, 9), (8, 1, 9), (9, 1, 3), (10, 5, 35), (12, 2, 165)] ((L0.set (Int.toNat v5) (⟨x14.f0, x14.f1, x14.f2, x14.f3, (⟨x14.f4.f0, (((((v1 + 1) + 1) + 1) + 1) + 1), x14.f4.f2⟩ : S68), x14.f5, x14.f6, x14.f7, x14.f8, x14.f9⟩ : S72)).map d72) []))], 1072⟩) (congrArg (fun z : Int => (⟨[(0, rV 0), (1, iV z), (5, iV v5)], [(0, some (.nst 14 72 [(6, 1, 9), (8, 1, 9), (9, 1, 3), (10, 5, 35), (12, 2, 165)] ((L0.set (Int.toNat v5) (⟨x14.f0, x14.f1, x14.f2, x14.f3, (⟨x14.f4.f0, (((((v1 + 1) + 1) + 1) + 1) + 1), x14.f4.f2⟩ : S68), x14.f5, x14.f6, x14.f7, x14.f8, x14.f9⟩ : S72)).map d72) []))], 1072⟩ : St)) (show wrap64 ((((((v1 + 1) + 1) + 1) + 1) + 1) + 1) = ((((((v1 + 1) + 1) + 1) + 1) + 1) + 1) by rw [w64 (n := ((((((v1 + 1) + 1) + 1) + 1) + 1) + 1)) (by omega) (by omega)])) ?_
   refine X.seq (rs 2 ?_)
   refine CH.idxR hτ (rows := ((L0.set (Int.toNat v5) (⟨x14.f0, x14.f1, x14.f2, x14.f3, (⟨x14.f4.f0, (((((v1 + 1) + 1) + 1) + 1) + 1), x14.f4.f2⟩ : S68), x14.f5, x14.f6, x14.f7, x14.f8, x14.f9⟩ : S72)).map d72)) (n := v5) (b := 0) (by kernel_rfl) (by kernel_rfl) (by first | omega | (simp; done) | (simp; omega)) (by simp only [List.length_map, List.length_set]; first | omega | (simp; done) | (simp; omega)) (by kernel_rfl) ?_
   refine go 2 ?_
   obtain ⟨x15, hx15⟩ : ∃ x, (L0.set (Int.toNat v5) (⟨x14.f0, x14.f1, x14.f2, x14.f3, (⟨x14.f4.f0, (((((v1 + 1) + 1) + 1) + 1) + 1), x14.f4.f2⟩ : S68), x14.f5, x14.f6, x14.f7, x14.f8, x14.f9⟩ : S72))[Int.toNat v5]? = some x := ⟨_, List.getElem?_eq_getElem (by first | omega | (simp; done) | (simp; omega))⟩
   have p16 := set_get hx15; have q0hx15 := congrArg (fun a : S72 => a.f4.f2.length) p16; simp only at q0hx15; have q1hx15 := congrArg (fun a : S72 => a.f5.f1.length) p16; simp only at q1hx15; have q2hx15 := congrArg (fun a : S72 => a.f5.f2.length) p16; simp only at q2hx15; have q3hx15 := congrArg (fun a : S72 => a.f6.length) p16; simp only at q3hx15; have q4hx15 := congrArg (fun a : S72 => a.f8.length) p16; simp only at q4hx15
   refine CH.ldN hτ (rows := ((L0.set (Int.toNat v5) (⟨x14.f0, x14.f1, x14.f2, x14.f3, (⟨x14.f4.f0, (((((v1 + 1) + 1) + 1) + 1) + 1), x14.f4.f2⟩ : S68), x14.f5, x14.f6, x14.f7, x14.f8, x14.f9⟩ : S72)).map d72)) (n := Int.toNat v5) (p := 6) (op := []) (d72 x15) (.sl (x15.f4.f2.map dS)) (by kernel_rfl) (by kernel_rfl) (by rw [List.getElem?_map, hx15]; rfl) rfl trivial (by kernel_rfl) ?_
   refine go 1 ?_
   obtain ⟨r16, q17, hr19, hf18⟩ := t_markStringS x15.f4.f2 ((((((v1 + 1) + 1) + 1) + 1) + 1) + 1) (by first | assumption | omega) (by first | assumption | omega)
   obtain ⟨hql, hqk, hqm⟩ := hr19
   refine CH.callB hf18 Try.func78 ⟨rfl, rfl⟩ 1152 1 9 (x15.f4.f2.map dS) true 9 (q17.map dS) (by kernel_rfl) (by kernel_rfl) (by kernel_rfl) (by kernel_rfl) (by kernel_rfl) (by first | (simp; done) | (simp; omega)) (by kernel_rfl) ?_
   refine go 1 ?_
   refine ek ⟨[(0, rV 0), (1, iV r16), (5, iV v5)], [(0, some (.nst 14 72 [(6, 1, 9), (8, 1, 9), (9, 1, 3), (10, 5, 35), (12, 2, 165)] ((L0.set (Int.toNat v5) (⟨x14.f0, x14.f1, x14.f2, x14.f3, (⟨x14.f4.f0, (((((v1 + 1) + 1) + 1) + 1) + 1), x14.f4.f2⟩ : S68), x14.f5, x14.f6, x14.f7, x14.f8, x14.f9⟩ : S72)).map d72) [(Int.toNat v5, 6, 1152)])), (1152, some (.row 1 9 (q17.map dS) false true))], 1216⟩ ?_
   refine X.weak (Wk.closeN (wd := 14) (wd' := 1) (i := Int.toNat v5) (j := 6) (r := 1152) (e := 72) (ty := 9) (co := [(6, 1, 9), (8, 1, 9), (9, 1, 3), (10, 5, 35), (12, 2, 165)]) (rows := ((L0.set (Int.toNat v5) (⟨x14.f0, x14.f1, x14.f2, x14.f3, (⟨x14.f4.f0, (((((v1 + 1) + 1) + 1) + 1) + 1), x14.f4.f2⟩ : S68), x14.f5, x14.f6, x14.f7, x14.f8, x14.f9⟩ : S72)).map d72)) (q := (q17.map dS)) (op2 := []) 0 (d72 x15) (by kernel_rfl) (by kernel_rfl) (by rw [List.getElem?_map, hx15]; rfl) (flat_d dS (fun x => rfl)) (by exact trivial) (by kernel_rfl) (by kernel_rfl) (by kernel_rfl) (by kernel_rfl)) ?_
   refine X.sub (fun z : List (List D) => (⟨[(0, rV 0), (1, iV r16), (5, iV v5)], (0, some (.nst 14 72 [(6, 1, 9), (8, 1, 9), (9, 1, 3), (10, 5, 35), (12, 2, 165)] z [])) :: (1152, none) :: [(0, some (.nst 14 72 [(6, 1, 9), (8, 1, 9), (9, 1, 3), (10, 5, 35), (12, 2, 165)] ((L0.set (Int.toNat v5) (⟨x14.f0, x14.f1, x14.f2, x14.f3, (⟨x14.f4.f0, (((((v1 + 1) + 1) + 1) + 1) + 1), x14.f4.f2⟩ : S68), x14.f5, x14.f6, x14.f7, x14.f8, x14.f9⟩ : S72)).map d72) [(Int.toNat v5, 6, 1152)])), (1152, some (.row 1 9 (q17.map dS) false true))], 1216⟩ : St)) (show ((L0.set (Int.toNat v5) (⟨x14.f0, x14.f1, x14.f2, x14.f3, (⟨x14.f4.f0, (((((v1 + 1) + 1) + 1) + 1) + 1), x14.f4.f2⟩ : S68), x14.f5, x14.f6, x14.f7, x14.f8, x14.f9⟩ : S72)).map d72).set (Int.toNat v5) ((d72 x15).set 6 (.sl (q17.map dS))) = ((L0.set (Int.toNat v5) (⟨x15.f0, x15.f1, x15.f2, x15.f3, (⟨x15.f4.f0, x15.f4.f1, q17⟩ : S68), x15.f5, x15.f6, x15.f7, x15.f8, x15.f9⟩ : S72)).map d72) from (List.map_set (f := d72) (l := (L0.set (Int.toNat v5) (⟨x14.f0, x14.f1, x14.f2, x14.f3, (⟨x14.f4.f0, (((((v1 + 1) + 1) + 1) + 1) + 1), x14.f4.f2⟩ : S68), x14.f5, x14.f6, x14.f7, x14.f8, x14.f9⟩ : S72))) (i := Int.toNat v5) (a := (⟨x15.f0, x15.f1, x15.f2, x15.f3, (⟨x15.f4.f0, x15.f4.f1, q17⟩ : S68), x15.f5, x15.f6, x15.f7, x15.f8, x15.f9⟩ : S72))).symm.trans (congrArg (List.map d72) (List.set_set ..))) ?_
   refine X.weak (Wk.less (s1 := ⟨[(0, rV 0), (1, iV r16), (5, iV v5)], [(0, some (.nst 14 72 [(6, 1, 9), (8, 1, 9), (9, 1, 3), (10, 5, 35), (12, 2, 165)] ((L0.set (Int.toNat v5) (⟨x15.f0, x15.f1, x15.f2, x15.f3, (⟨x15.f4.f0, x15.f4.f1, q17⟩ : S68), x15.f5, x15.f6, x15.f7, x15.f8, x15.f9⟩ : S72)).map d72) []))], 1216⟩) (by kernel_rfl)) ?_
   refine X.seq ?_
   have c1 := hql
   have d1 := hqm
   refine rs 3 ?_
   refine CH.idxR hτ (rows := ((L0.set (Int.toNat v5) (⟨x15.f0, x15.f1, x15.f2, x15.f3, (⟨x15.f4.f0, x15.f4.f1, q17⟩ : S68), x15.f5, x15.f6, x15.f7, x15.f8, x15.f9⟩ : S72)).map d72)) (n := v5) (b := 0) (by kernel_rfl) (by kernel_rfl) (by first | omega | (simp; done) | (simp; omega)) (by simp only [List.length_map, List.length_set]; first | omega | (simp; done) | (simp; omega)) (by kernel_rfl) ?_
   refine go 2 ?_
   obtain ⟨x20, hx20⟩ : ∃ x, (L0.set (Int.toNat v5) (⟨x15.f0, x15.f1, x15.f2, x15.f3, (⟨x15.f4.f0, x15.f4.f1, q17⟩ : S68), x15.f5, x15.f6, x15.f7, x15.f8, x15.f9⟩ : S72))[Int.toNat v5]? = some x := ⟨_, List.getElem?_eq_getElem (by first | omega | (simp; done) | (simp; omega))⟩
   have p17 := set_get hx20; have q0hx20 := congrArg (fun a : S72 => a.f4.f2.length) p17; simp only at q0hx20; have q1hx20 := congrArg (fun a : S72 => a.f5.f1.length) p17; simp only at q1hx20; have q2hx20 := congrArg (fun a : S72 => a.f5.f2.length) p17; simp only at q2hx20; have q3hx20 := congrArg (fun a : S72 => a.f6.length) p17; simp only at q3hx20; have q4hx20 := congrArg (fun a : S72 => a.f8.length) p17; simp only at q4hx20
   refine CH.stN hτ (rows := ((L0.set (Int.toNat v5) (⟨x15.f0, x15.f1, x15.f2, x15.f3, (⟨x15.f4.f0, x15.f4.f1, q17⟩ : S68), x15.f5, x15.f6, x15.f7, x15.f8, x15.f9⟩ : S72)).map d72)) (n := Int.toNat v5) (p := 7) (len := 1) (op := []) (L := []) (d72 x20) (by kernel_rfl) (by kernel_rfl) (by rw [List.getElem?_map, hx20]; rfl) trivial trivial (by kernel_rfl) ?_
   refine CH.endk ⟨[(0, rV 0), (1, iV r16), (5, iV v5)], [(0, some (.nst 14 72 [(6, 1, 9), (8, 1, 9), (9, 1, 3), (10, 5, 35), (12, 2, 165)] (((L0.set (Int.toNat v5) (⟨x15.f0, x15.f1, x15.f2, x15.f3, (⟨x15.f4.f0, x15.f4.f1, q17⟩ : S68), x15.f5, x15.f6, x15.f7, x15.f8, x15.f9⟩ : S72)).map d72).set (Int.toNat v5) (d72 (⟨x20.f0, x20.f1, x20.f2, x20.f3, x20.f4, (⟨r16, x20.f5.f1, x20.f5.f2⟩ : S69), x20.f6, x20.f7, x20.f8, x20.f9⟩ : S72))) []))], 1328⟩ (by kernel_rfl) (by kernel_rfl) (s2 := ⟨[(0, rV 0), (1, iV r16), (5, iV v5)], [(0, some (.nst 14 72 [(6, 1, 9), (8, 1, 9), (9, 1, 3), (10, 5, 35), (12, 2, 165)] ((L0.set (Int.toNat v5) (⟨x20.f0, x20.f1, x20.f2, x20.f3, x20.f4, (⟨r16, x20.f5.f1, x20.f5.f2⟩ : S69), x20.f6, x20.f7, x20.f8, x20.f9⟩ : S72)).map d72) []))], 1328⟩) (congrArg (fun z : List (List D) => (⟨[(0, rV 0), (1, iV r16), (5, iV v5)], [(0, some (.nst 14 72 [(6, 1, 9), (8, 1, 9), (9, 1, 3), (10, 5, 35), (12, 2, 165)] z []))], 1328⟩ : St)) (show (((L0.set (Int.toNat v5) (⟨x15.f0, x15.f1, x15.f2, x15.f3, (⟨x15.f4.f0, x15.f4.f1, q17⟩ : S68), x15.f5, x15.f6, x15.f7, x15.f8, x15.f9⟩ : S72)).map d72).set (Int.toNat v5) (d72 (⟨x20.f0, x20.f1, x20.f2, x20.f3, x20.f4, (⟨r16, x20.f5.f1, x20.f5.f2⟩ : S69), x20.f6, x20.f7, x20.f8, x20.f9⟩ : S72))) = ((L0.set (Int.toNat v5) (⟨x20.f0, x20.f1, x20.f2, x20.f3, x20.f4, (⟨r16, x20.f5.f1, x20.f5.f2⟩ : S69), x20.f6, x20.f7, x20.f8, x20.f9⟩ : S72)).map d72) from (by rw [← List.map_set, List.set_set]))) ?_
   refine X.seq ?_
   refine X.rk ⟨[(0, rV 0), (1, iV (wrap64 (r16 + 1))), (5, iV v5)], [(0, some (.nst 14 72 [(6, 1, 9), (8, 1, 9), (9, 1, 3), (10, 5, 35), (12, 2, 165)] ((L0.set (Int.toNat v5) (⟨x20.f0, x20.f1, x20.f2, x20.f3, x20.f4, (⟨r16, x20.f5.f1, x20.f5.f2⟩ : S69), x20.f6, x20.f7, x20.f8, x20.f9⟩ : S72)).map d72) []))], 1376⟩ hτ hmix (by kernel_rfl) (by kernel_rfl) (s2 := ⟨[(0, rV 0), (1, iV (r16 + 1)), (5, iV v5)], [(0, some (.nst 14 72 [(6, 1, 9), (8, 1, 9), (9, 1, 3), (10, 5, 35), (12, 2, 165)] ((L0.set (Int.toNat v5) (⟨x20.f0, x20.f1, x20.f2, x20.f3, x20.f4, (⟨r16, x20.f5.f1, x20.f5.f2⟩ : S69), x20.f6, x20.f7, x20.f8, x20.f9⟩ : S72)).map d72) []))], 1376⟩) (congrArg (fun z : Int => (⟨[(0, rV 0), (1, iV z), (5, iV v5)], [(0, some (.nst 14 72 [(6, 1, 9), (8, 1, 9), (9, 1, 3), (10, 5, 35), (12, 2, 165)] ((L0.set (Int.toNat v5) (⟨x20.f0, x20.f1, x20.f2, x20.f3, x20.f4, (⟨r16, x20.f5.f1, x20.f5.f2⟩ : S69), x20.f6, x20.f7, x20.f8, x20.f9⟩ : S72)).map d72) []))], 1376⟩ : St)) (show wrap64 (r16 + 1) = (r16 + 1) by rw [w64 (n := (r16 + 1)) (by omega) (by omega)])) ?_
   refine X.seq (rs 2 ?_)
   refine CH.idxR hτ (rows := ((L0.set (Int.toNat v5) (⟨x20.f0, x20.f1, x20.f2, x20.f3, x20.f4, (⟨r16, x20.f5.f1, x20.f5.f2⟩ : S69), x20.f6, x20.f7, x20.f8, x20.f9⟩ : S72)).map d72)) (n := v5) (b := 0) (by kernel_rfl) (by kernel_rfl) (by first | omega | (simp; done) | (simp; omega)) (by simp only [List.length_map, List.length_set]; first | omega | (simp; done) | (simp; omega)) (by kernel_rfl) ?_
   refine go 2 ?_
   obtain ⟨x21, hx21⟩ : ∃ x, (L0.set (Int.toNat v5) (⟨x20.f0, x20.f1, x20.f2, x20.f3, x20.f4, (⟨r16, x20.f5.f1, x20.f5.f2⟩ : S69), x20.f6, x20.f7, x20.f8, x20.f9⟩ : S72))[Int.toNat v5]? = some x := ⟨_, List.getElem?_eq_getElem (by first | omega | (simp; done) | (simp; omega))⟩
   have p19 := set_get hx21; have q0hx21 := congrArg (fun a : S72 => a.f4.f2.length) p19; simp only at q0hx21; have q1hx21 := congrArg (fun a : S72 => a.f5.f1.length) p19; simp only at q1hx21; have q2hx21 := congrArg (fun a : S72 => a.f5.f2.length) p19; simp only at q2hx21; have q3hx21 := congrArg (fun a : S72 => a.f6.length) p19; simp only at q3hx21; have q4hx21 := congrArg (fun a : S72 => a.f8.length) p19; simp only at q4hx21
   refine CH.ldN hτ (rows := ((L0.set (Int.toNat v5) (⟨x20.f0, x20.f1, x20.f2, x20.f3, x20.f4, (⟨r16, x20.f5.f1, x20.f5.f2⟩ : S69), x20.f6, x20.f7, x20.f8, x20.f9⟩ : S72)).map d72)) (n := Int.toNat v5) (p := 8) (op := []) (d72 x21) (.sl (x21.f5.f1.map dS)) (by kernel_rfl) (by kernel_rfl) (by rw [List.getElem?_map, hx21]; rfl) rfl trivial (by kernel_rfl) ?_
   refine go 1 ?_
   obtain ⟨r22, q23, hr25, hf24⟩ := t_markStringS x21.f5.f1 (r16 + 1) (by first | assumption | omega) (by first | assumption | omega)
   obtain ⟨hql, hqk, hqm⟩ := hr25
   refine CH.callB hf24 Try.func78 ⟨rfl, rfl⟩ 1456 1 9 (x21.f5.f1.map dS) true 9 (q23.map dS) (by kernel_rfl) (by kernel_rfl) (by kernel_rfl) (by kernel_rfl) (by kernel_rfl) (by first | (simp; done) | (simp; omega)) (by kernel_rfl) ?_
   refine go 1 ?_
   refine ek ⟨[(0, rV 0), (1, iV r22), (5, iV v5)], [(0, some (.nst 14 72 [(6, 1, 9), (8, 1, 9), (9, 1, 3), (10, 5, 35), (12, 2, 165)] ((L0.set (Int.toNat v5) (⟨x20.f0, x20.f1, x20.f2, x20.f3, x20.f4, (⟨r16, x20.f5.f1, x20.f5.f2⟩ : S69), x20.f6, x20.f7, x20.f8, x20.f9⟩ : S72)).map d72) [(Int.toNat v5, 8, 1456)])), (1456, some (.row 1 9 (q23.map dS) false true))], 1520⟩ ?_
   refine X.weak (Wk.closeN (wd := 14) (wd' := 1) (i := Int.toNat v5) (j := 8) (r := 1456) (e := 72) (ty := 9) (co := [(6, 1, 9), (8, 1, 9), (9, 1, 3), (10, 5, 35), (12, 2, 165)]) (rows := ((L0.set (Int.toNat v5) (⟨x20.f0, x20.f1, x20.f2, x20.f3, x20.f4, (⟨r16, x20.f5.f1, x20.f5.f2⟩ : S69), x20.f6, x20.f7, x20.f8, x20.f9⟩ : S72)).map d72)) (q := (q23.map dS)) (op2 := []) 0 (d72 x21) (by kernel_rfl) (by kernel_rfl) (by rw [List.getElem?_map, hx21]; rfl) (flat_d dS (fun x => rfl)) (by exact trivial) (by kernel_rfl) (by kernel_rfl) (by kernel_rfl) (by kernel_rfl)) ?_
   refine X.sub (fun z : List (List D) => (⟨[(0, rV 0), (1, iV r22), (5, iV v5)], (0, some (.nst 14 72 [(6, 1, 9), (8, 1, 9), (9, 1, 3), (10, 5, 35), (12, 2, 165)] z [])) :: (1456, none) :: [(0, some (.nst 14 72 [(6, 1, 9), (8, 1, 9), (9, 1, 3), (10, 5, 35), (12, 2, 165)] ((L0.set (Int.toNat v5) (⟨x20.f0, x20.f1, x20.f2, x20.f3, x20.f4, (⟨r16, x20.f5.f1, x20.f5.f2⟩ : S69), x20.f6, x20.f7, x20.f8, x20.f9⟩ : S72)).map d72) [(Int.toNat v5, 8, 1456)])), (1456, some (.row 1 9 (q23.map dS) false true))], 1520⟩ : St)) (show ((L0.set (Int.toNat v5) (⟨x20.f0, x20.f1, x20.f2, x20.f3, x20.f4, (⟨r16, x20.f5.f1, x20.f5.f2⟩ : S69), x20.f6, x20.f7, x20.f8, x20.f9⟩ : S72)).map d72).set (Int.toNat v5) ((d72 x21).set 8 (.sl (q23.map dS))) = ((L0.set (Int.toNat v5) (⟨x21.f0, x21.f1, x21.f2, x21.f3, x21.f4, (⟨x21.f5.f0, q23, x21.f5.f2⟩ : S69), x21.f6, x21.f7, x21.f8, x21.f9⟩ : S72)).map d72) from (List.map_set (f := d72) (l := (L0.set (Int.toNat v5) (⟨x20.f0, x20.f1, x20.f2, x20.f3, x20.f4, (⟨r16, x20.f5.f1, x20.f5.f2⟩ : S69), x20.f6, x20.f7, x20.f8, x20.f9⟩ : S72))) (i := Int.toNat v5) (a := (⟨x21.f0, x21.f1, x21.f2, x21.f3, x21.f4, (⟨x21.f5.f0, q23, x21.f5.f2⟩ : S69), x21.f6, x21.f7, x21.f8, x21.f9⟩ : S72))).symm.trans (congrArg (List.map d72) (List.set_set ..))) ?_
   refine X.weak (Wk.less (s1 := ⟨[(0, rV 0), (1, iV r22), (5, iV v5)], [(0, some (.nst 14 72 [(6, 1, 9), (8, 1, 9), (9, 1, 3), (10, 5, 35), (12, 2, 165)] ((L0.set (Int.toNat v5) (⟨x21.f0, x21.f1, x21.f2, x21.f3, x21.f4, (⟨x21.f5.f0, q23, x21.f5.f2⟩ : S69), x21.f6, x21.f7, x21.f8, x21.f9⟩ : S72)).map d72) []))], 1520⟩) (by kernel_rfl)) ?_
   refine X.seq ?_
   have c2 := hql
   have d2 := hqm
   refine rs 2 ?_
   refine CH.idxR hτ (rows := ((L0.set (Int.toNat v5) (⟨x21.f0, x21.f1, x21.f2, x21.f3, x21.f4, (⟨x21.f5.f0, q23, x21.f5.f2⟩ : S69), x21.f6, x21.f7, x21.f8, x21.f9⟩ : S72)).map d72)) (n := v5) (b := 0) (by kernel_rfl) (by kernel_rfl) (by first | omega | (simp; done) | (simp; omega)) (by simp only [List.length_map, List.length_set]; first | omega | (simp; done) | (simp; omega)) (by kernel_rfl) ?_
   refine go 2 ?_
   obtain ⟨x26, hx26⟩ : ∃ x, (L0.set (Int.toNat v5) (⟨x21.f0, x21.f1, x21.f2, x21.f3, x21.f4, (⟨x21.f5.f0, q23, x21.f5.f2⟩ : S69), x21.f6, x21.f7, x21.f8, x21.f9⟩ : S72))[Int.toNat v5]? = some x := ⟨_, List.getElem?_eq_getElem (by first | omega | (simp; done) | (simp; omega))⟩
   have p20 := set_get hx26; have q0hx26 := congrArg (fun a : S72 => a.f4.f2.length) p20; simp only at q0hx26; have q1hx26 := congrArg (fun a : S72 => a.f5.f1.length) p20; simp only at q1hx26; have q2hx26 := congrArg (fun a : S72 => a.f5.f2.length) p20; simp only at q2hx26; have q3hx26 := congrArg (fun a : S72 => a.f6.length) p20; simp only at q3hx26; have q4hx26 := congrArg (fun a : S72 => a.f8.length) p20; simp only at q4hx26
   refine CH.ldN hτ (rows := ((L0.set (Int.toNat v5) (⟨x21.f0, x21.f1, x21.f2, x21.f3, x21.f4, (⟨x21.f5.f0, q23, x21.f5.f2⟩ : S69), x21.f6, x21.f7, x21.f8, x21.f9⟩ : S72)).map d72)) (n := Int.toNat v5) (p := 9) (op := []) (d72 x26) (.sl (x26.f5.f2.map dI)) (by kernel_rfl) (by kernel_rfl) (by rw [List.getElem?_map, hx26]; rfl) rfl trivial (by kernel_rfl) ?_
   refine go 1 ?_
   obtain ⟨r27, q28, hr30, hf29⟩ := t_markIntS x26.f5.f2 r22 (by first | assumption | omega) (by first | assumption | omega)
   obtain ⟨hql, hqk, hqm⟩ := hr30
   refine CH.callB hf29 Try.func79 ⟨rfl, rfl⟩ 1600 1 3 (x26.f5.f2.map dI) true 3 (q28.map dI) (by kernel_rfl) (by kernel_rfl) (by kernel_rfl) (by kernel_rfl) (by kernel_rfl) (by first | (simp; done) | (simp; omega)) (by kernel_rfl) ?_
   refine go 1 ?_
   refine ek ⟨[(0, rV 0), (1, iV r27), (5, iV v5)], [(0, some (.nst 14 72 [(6, 1, 9), (8, 1, 9), (9, 1, 3), (10, 5, 35), (12, 2, 165)] ((L0.set (Int.toNat v5) (⟨x21.f0, x21.f1, x21.f2, x21.f3, x21.f4, (⟨x21.f5.f0, q23, x21.f5.f2⟩ : S69), x21.f6, x21.f7, x21.f8, x21.f9⟩ : S72)).map d72) [(Int.toNat v5, 9, 1600)])), (1600, some (.row 1 3 (q28.map dI) false true))], 1664⟩ ?_
   refine X.weak (Wk.closeN (wd := 14) (wd' := 1) (i := Int.toNat v5) (j := 9) (r := 1600) (e := 72) (ty := 3) (co := [(6, 1, 9), (8, 1, 9), (9, 1, 3), (10, 5, 35), (12, 2, 165)]) (rows := ((L0.set (Int.toNat v5) (⟨x21.f0, x21.f1, x21.f2, x21.f3, x21.f4, (⟨x21.f5.f0, q23, x21.f5.f2⟩ : S69), x21.f6, x21.f7, x21.f8, x21.f9⟩ : S72)).map d72)) (q := (q28.map dI)) (op2 := []) 0 (d72 x26) (by kernel_rfl) (by kernel_rfl) (by rw [List.getElem?_map, hx26]; rfl) (flat_d dI (fun x => rfl)) (by exact trivial) (by kernel_rfl) (by kernel_rfl) (by kernel_rfl) (by kernel_rfl)) ?_
   refine X.sub (fun z : List (List D) => (⟨[(0, rV 0), (1, iV r27), (5, iV v5)], (0, some (.nst 14 72 [(6, 1, 9), (8, 1, 9), (9, 1, 3), (10, 5, 35), (12, 2, 165)] z [])) :: (1600, none) :: [(0, some (.nst 14 72 [(6, 1, 9), (8, 1, 9), (9, 1, 3), (10, 5, 35), (12, 2, 165)] ((L0.set (Int.toNat v5) (⟨x21.f0, x21.f1, x21.f2, x21.f3, x21.f4, (⟨x21.f5.f0, q23, x21.f5.f2⟩ : S69), x21.f6, x21.f7, x21.f8, x21.f9⟩ : S72)).map d72) [(Int.toNat v5, 9, 1600)])), (1600, some (.row 1 3 (q28.map dI) false true))], 1664⟩ : St)) (show ((L0.set (Int.toNat v5) (⟨x21.f0, x21.f1, x21.f2, x21.f3, x21.f4, (⟨x21.f5.f0, q23, x21.f5.f2⟩ : S69), x21.f6, x21.f7, x21.f8, x21.f9⟩ : S72)).map d72).set (Int.toNat v5) ((d72 x26).set 9 (.sl (q28.map dI))) = ((L0.set (Int.toNat v5) (⟨x26.f0, x26.f1, x26.f2, x26.f3, x26.f4, (⟨x26.f5.f0, x26.f5.f1, q28⟩ : S69), x26.f6, x26.f7, x26.f8, x26.f9⟩ : S72)).map d72) from (List.map_set (f := d72) (l := (L0.set (Int.toNat v5) (⟨x21.f0, x21.f1, x21.f2, x21.f3, x21.f4, (⟨x21.f5.f0, q23, x21.f5.f2⟩ : S69), x21.f6, x21.f7, x21.f8, x21.f9⟩ : S72))) (i := Int.toNat v5) (a := (⟨x26.f0, x26.f1, x26.f2, x26.f3, x26.f4, (⟨x26.f5.f0, x26.f5.f1, q28⟩ : S69), x26.f6, x26.f7, x26.f8, x26.f9⟩ : S72))).symm.trans (congrArg (List.map d72) (List.set_set ..))) ?_
   refine X.weak (Wk.less (s1 := ⟨[(0, rV 0), (1, iV r27), (5, iV v5)], [(0, some (.nst 14 72 [(6, 1, 9), (8, 1, 9), (9, 1, 3), (10, 5, 35), (12, 2, 165)] ((L0.set (Int.toNat v5) (⟨x26.f0, x26.f1, x26.f2, x26.f3, x26.f4, (⟨x26.f5.f0, x26.f5.f1, q28⟩ : S69), x26.f6, x26.f7, x26.f8, x26.f9⟩ : S72)).map d72) []))], 1664⟩) (by kernel_rfl)) ?_
   refine X.seq ?_
   have c3 := hql
   have d3 := hqm
   refine rs 2 ?_
   refine CH.idxR hτ (rows := ((L0.set (Int.toNat v5) (⟨x26.f0, x26.f1, x26.f2, x26.f3, x26.f4, (⟨x26.f5.f0, x26.f5.f1, q28⟩ : S69), x26.f6, x26.f7, x26.f8, x26.f9⟩ : S72)).map d72)) (n := v5) (b := 0) (by kernel_rfl) (by kernel_rfl) (by first | omega | (simp; done) | (simp; omega)) (by simp only [List.length_map, List.length_set]; first | omega | (simp; done) | (simp; omega)) (by kernel_rfl) ?_
   refine go 1 ?_
   obtain ⟨x31, hx31⟩ : ∃ x, (L0.set (Int.toNat v5) (⟨x26.f0, x26.f1, x26.f2, x26.f3, x26.f4, (⟨x26.f5.f0, x26.f5.f1, q28⟩ : S69), x26.f6, x26.f7, x26.f8, x26.f9⟩ : S72))[Int.toNat v5]? = some x := ⟨_, List.getElem?_eq_getElem (by first | omega | (simp; done) | (simp; omega))⟩
   have p21 := set_get hx31; have q0hx31 := congrArg (fun a : S72 => a.f4.f2.length) p21; simp only at q0hx31; have q1hx31 := congrArg (fun a : S72 => a.f5.f1.length) p21; simp only at q1hx31; have q2hx31 := congrArg (fun a : S72 => a.f5.f2.length) p21; simp only at q2hx31; have q3hx31 := congrArg (fun a : S72 => a.f6.length) p21; simp only at q3hx31; have q4hx31 := congrArg (fun a : S72 => a.f8.length) p21; simp only at q4hx31
   refine CH.ldN hτ (rows := ((L0.set (Int.toNat v5) (⟨x26.f0, x26.f1, x26.f2, x26.f3, x26.f4, (⟨x26.f5.f0, x26.f5.f1, q28⟩ : S69), x26.f6, x26.f7, x26.f8, x26.f9⟩ : S72)).map d72)) (n := Int.toNat v5) (p := 10) (op := []) (d72 x31) (.sl (x31.f6.map d35)) (by kernel_rfl) (by kernel_rfl) (by rw [List.getElem?_map, hx31]; rfl) rfl trivial (by kernel_rfl) ?_
   refine go 1 ?_
   obtain ⟨r32, q33, hr35, hf34⟩ := l_markTxS x31.f6 r27 (by first | assumption | omega) (by omega)
   obtain ⟨hql, hqk, hqm⟩ := hr35
   refine CH.callB hf34 Try.func21 ⟨rfl, rfl⟩ 1728 5 35 (x31.f6.map d35) true 35 (q33.map d35) (by kernel_rfl) (by kernel_rfl) (by kernel_rfl) (by kernel_rfl) (by kernel_rfl) (by first | (simp; done) | (simp; omega)) (by kernel_rfl) ?_
   refine go 1 ?_
   refine ek ⟨[(0, rV 0), (1, iV r32), (5, iV v5)], [(0, some (.nst 14 72 [(6, 1, 9), (8, 1, 9), (9, 1, 3), (10, 5, 35), (12, 2, 165)] ((L0.set (Int.toNat v5) (⟨x26.f0, x26.f1, x26.f2, x26.f3, x26.f4, (⟨x26.f5.f0, x26.f5.f1, q28⟩ : S69), x26.f6, x26.f7, x26.f8, x26.f9⟩ : S72)).map d72) [(Int.toNat v5, 10, 1728)])), (1728, some (.row 5 35 (q33.map d35) false true))], 1792⟩ ?_
   refine X.weak (Wk.closeN (wd := 14) (wd' := 5) (i := Int.toNat v5) (j := 10) (r := 1728) (e := 72) (ty := 35) (co := [(6, 1, 9), (8, 1, 9), (9, 1, 3), (10, 5, 35), (12, 2, 165)]) (rows := ((L0.set (Int.toNat v5) (⟨x26.f0, x26.f1, x26.f2, x26.f3, x26.f4, (⟨x26.f5.f0, x26.f5.f1, q28⟩ : S69), x26.f6, x26.f7, x26.f8, x26.f9⟩ : S72)).map d72)) (q := (q33.map d35)) (op2 := []) 0 (d72 x31) (by kernel_rfl) (by kernel_rfl) (by rw [List.getElem?_map, hx31]; rfl) (flat_d d35 (fun x => rfl)) (by exact trivial) (by kernel_rfl) (by kernel_rfl) (by kernel_rfl) (by kernel_rfl)) ?_
   refine X.sub (fun z : List (List D) => (⟨[(0, rV 0), (1, iV r32), (5, iV v5)], (0, some (.nst 14 72 [(6, 1, 9), (8, 1, 9), (9, 1, 3), (10, 5, 35), (12, 2, 165)] z [])) :: (1728, none) :: [(0, some (.nst 14 72 [(6, 1, 9), (8, 1, 9), (9, 1, 3), (10, 5, 35), (12, 2, 165)] ((L0.set (Int.toNat v5) (⟨x26.f0, x26.f1, x26.f2, x26.f3, x26.f4, (⟨x26.f5.f0, x26.f5.f1, q28⟩ : S69), x26.f6, x26.f7, x26.f8, x26.f9⟩ : S72)).map d72) [(Int.toNat v5, 10, 1728)])), (1728, some (.row 5 35 (q33.map d35) false true))], 1792⟩ : St)) (show ((L0.set (Int.toNat v5) (⟨x26.f0, x26.f1, x26.f2, x26.f3, x26.f4, (⟨x26.f5.f0, x26.f5.f1, q28⟩ : S69), x26.f6, x26.f7, x26.f8, x26.f9⟩ : S72)).map d72).set (Int.toNat v5) ((d72 x31).set 10 (.sl (q33.map d35))) = ((L0.set (Int.toNat v5) (⟨x31.f0, x31.f1, x31.f2, x31.f3, x31.f4, x31.f5, q33, x31.f7, x31.f8, x31.f9⟩ : S72)).map d72) from (List.map_set (f := d72) (l := (L0.set (Int.toNat v5) (⟨x26.f0, x26.f1, x26.f2, x26.f3, x26.f4, (⟨x26.f5.f0, x26.f5.f1, q28⟩ : S69), x26.f6, x26.f7, x26.f8, x26.f9⟩ : S72))) (i := Int.toNat v5) (a := (⟨x31.f0, x31.f1, x31.f2, x31.f3, x31.f4, x31.f5, q33, x31.f7, x31.f8, x31.f9⟩ : S72))).symm.trans (congrArg (List.map d72) (List.set_set ..))) ?_
   refine X.weak (Wk.less (s1 := ⟨[(0, rV 0), (1, iV r32), (5, iV v5)], [(0, some (.nst 14 72 [(6, 1, 9), (8, 1, 9), (9, 1, 3), (10, 5, 35), (12, 2, 165)] ((L0.set (Int.toNat v5) (⟨x31.f0, x31.f1, x31.f2, x31.f3, x31.f4, x31.f5, q33, x31.f7, x31.f8, x31.f9⟩ : S72)).map d72) []))], 1792⟩) (by kernel_rfl)) ?_
   refine X.seq ?_
   have c4 := hql
   have d4 := hqm
   have ft36 := tmod_lt r32 3 (by first | omega | (simp; done) | (simp; omega)) (by omega)
   have fe37 := Int.tmod_eq_emod_of_nonneg (a := r32) (b := 3) (by first | omega | (simp; done) | (simp; omega))
   refine rs 5 ?_
   refine CH.idxR hτ (rows := ((L0.set (Int.toNat v5) (⟨x31.f0, x31.f1, x31.f2, x31.f3, x31.f4, x31.f5, q33, x31.f7, x31.f8, x31.f9⟩ : S72)).map d72)) (n := v5) (b := 0) (by kernel_rfl) (by kernel_rfl) (by first | omega | (simp; done) | (simp; omega)) (by simp only [List.length_map, List.length_set]; first | omega | (simp; done) | (simp; omega)) (by kernel_rfl) ?_
   refine go 1 ?_
   obtain ⟨x38, hx38⟩ : ∃ x, (L0.set (Int.toNat v5) (⟨x31.f0, x31.f1, x31.f2, x31.f3, x31.f4, x31.f5, q33, x31.f7, x31.f8, x31.f9⟩ : S72))[Int.toNat v5]? = some x := ⟨_, List.getElem?_eq_getElem (by first | omega | (simp; done) | (simp; omega))⟩
   have p22 := set_get hx38; have q0hx38 := congrArg (fun a : S72 => a.f4.f2.length) p22; simp only at q0hx38; have q1hx38 := congrArg (fun a : S72 => a.f5.f1.length) p22; simp only at q1hx38; have q2hx38 := congrArg (fun a : S72 => a.f5.f2.length) p22; simp only at q2hx38; have q3hx38 := congrArg (fun a : S72 => a.f6.length) p22; simp only at q3hx38; have q4hx38 := congrArg (fun a : S72 => a.f8.length) p22; simp only at q4hx38
   refine CH.stN hτ (rows := ((L0.set (Int.toNat v5) (⟨x31.f0, x31.f1, x31.f2, x31.f3, x31.f4, x31.f5, q33, x31.f7, x31.f8, x31.f9⟩ : S72)).map d72)) (n := Int.toNat v5) (p := 11) (len := 1) (op := []) (L := []) (d72 x38) (by kernel_rfl) (by kernel_rfl) (by rw [List.getElem?_map, hx38]; rfl) trivial trivial (by kernel_rfl) ?_
   refine CH.endk ⟨[(0, rV 0), (1, iV r32), (5, iV v5)], [(0, some (.nst 14 72 [(6, 1, 9), (8, 1, 9), (9, 1, 3), (10, 5, 35), (12, 2, 165)] (((L0.set (Int.toNat v5) (⟨x31.f0, x31.f1, x31.f2, x31.f3, x31.f4, x31.f5, q33, x31.f7, x31.f8, x31.f9⟩ : S72)).map d72).set (Int.toNat v5) (d72 (⟨x38.f0, x38.f1, x38.f2, x38.f3, x38.f4, x38.f5, x38.f6, ((Int.tmod r32 3) == 0), x38.f8, x38.f9⟩ : S72))) []))], 1920⟩ (by kernel_rfl) (by kernel_rfl) (s2 := ⟨[(0, rV 0), (1, iV r32), (5, iV v5)], [(0, some (.nst 14 72 [(6, 1, 9), (8, 1, 9), (9, 1, 3), (10, 5, 35), (12, 2, 165)] ((L0.set (Int.toNat v5) (⟨x38.f0, x38.f1, x38.f2, x38.f3, x38.f4, x38.f5, x38.f6, ((Int.tmod r32 3) == 0), x38.f8, x38.f9⟩ : S72)).map d72) []))], 1920⟩) (congrArg (fun z : List (List D) => (⟨[(0, rV 0), (1, iV r32), (5, iV v5)], [(0, some (.nst 14 72 [(6, 1, 9), (8, 1, 9), (9, 1, 3), (10, 5, 35), (12, 2, 165)] z []))], 1920⟩ : St)) (show (((L0.set (Int.toNat v5) (⟨x31.f0, x31.f1, x31.f2, x31.f3, x31.f4, x31.f5, q33, x31.f7, x31.f8, x31.f9⟩ : S72)).map d72).set (Int.toNat v5) (d72 (⟨x38.f0, x38.f1, x38.f2, x38.f3, x38.f4, x38.f5, x38.f6, ((Int.tmod r32 3) == 0), x38.f8, x38.f9⟩ : S72))) = ((L0.set (Int.toNat v5) (⟨x38.f0, x38.f1, x38.f2, x38.f3, x38.f4, x38.f5, x38.f6, ((Int.tmod r32 3) == 0), x38.f8, x38.f9⟩ : S72)).map d72) from (by rw [← List.map_set, List.set_set]))) ?_
   refine X.seq ?_
   refine X.rk ⟨[(0, rV 0), (1, iV (wrap64 (r32 + 1))), (5, iV v5)], [(0, some (.nst 14 72 [(6, 1, 9), (8, 1, 9), (9, 1, 3), (10, 5, 35), (12, 2, 165)] ((L0.set (Int.toNat v5) (⟨x38.f0, x38.f1, x38.f2, x38.f3, x38.f4, x38.f5, x38.f6, ((Int.tmod r32 3) == 0), x38.f8, x38.f9⟩ : S72)).map d72) []))], 1968⟩ hτ hmix (by kernel_rfl) (by kernel_rfl) (s2 := ⟨[(0, rV 0), (1, iV (r32 + 1)), (5, iV v5)], [(0, some (.nst 14 72 [(6, 1, 9), (8, 1, 9), (9, 1, 3), (10, 5, 35), (12, 2, 165)] ((L0.set (Int.toNat v5) (⟨x38.f0, x38.f1, x38.f2, x38.f3, x38.f4, x38.f5, x38.f6, ((Int.tmod r32 3) == 0), x38.f8, x38.f9⟩ : S72)).map d72) []))], 1968⟩) (congrArg (fun z : Int => (⟨[(0, rV 0), (1, iV z), (5, iV v5)], [(0, some (.nst 14 72 [(6, 1, 9), (8, 1, 9), (9, 1, 3), (10, 5, 35), (12, 2, 165)] ((L0.set (Int.toNat v5) (⟨x38.f0, x38.f1, x38.f2, x38.f3, x38.f4, x38.f5, x38.f6, ((Int.tmod r32 3) == 0), x38.f8, x38.f9⟩ : S72)).map d72) []))], 1968⟩ : St)) (show wrap64 (r32 + 1) = (r32 + 1) by rw [w64 (n := (r32 + 1)) (by omega) (by omega)])) ?_
   refine X.seq (rs 2 ?_)
   refine CH.idxR hτ (rows := ((L0.set (Int.toNat v5) (⟨x38.f0, x38.f1, x38.f2, x38.f3, x38.f4, x38.f5, x38.f6, ((Int.tmod r32 3) == 0), x38.f8, x38.f9⟩ : S72)).map d72)) (n := v5) (b := 0) (by kernel_rfl) (by kernel_rfl) (by first | omega | (simp; done) | (simp; omega)) (by simp only [List.length_map, List.length_set]; first | omega | (simp; done) | (simp; omega)) (by kernel_rfl) ?_
   refine go 1 ?_
   obtain ⟨x39, hx39⟩ : ∃ x, (L0.set (Int.toNat v5) (⟨x38.f0, x38.f1, x38.f2, x38.f3, x38.f4, x38.f5, x38.f6, ((Int.tmod r32 3) == 0), x38.f8, x38.f9⟩ : S72))[Int.toNat v5]? = some x := ⟨_, List.getElem?_eq_getElem (by first | omega | (simp; done) | (simp; omega))⟩
   have p24 := set_get hx39; have q0hx39 := congrArg (fun a : S72 => a.f4.f2.length) p24; simp only at q0hx39; have q1hx39 := congrArg (fun a : S72 => a.f5.f1.length) p24; simp only at q1hx39; have q2hx39 := congrArg (fun a : S72 => a.f5.f2.length) p24; simp only at q2hx39; have q3hx39 := congrArg (fun a : S72 => a.f6.length) p24; simp only at q3hx39; have q4hx39 := congrArg (fun a : S72 => a.f8.length) p24; simp only at q4hx39
   refine CH.ldN hτ (rows := ((L0.set (Int.toNat v5) (⟨x38.f0, x38.f1, x38.f2, x38.f3, x38.f4, x38.f5, x38.f6, ((Int.tmod r32 3) == 0), x38.f8, x38.f9⟩ : S72)).map d72)) (n := Int.toNat v5) (p := 12) (op := []) (d72 x39) (.sl (x39.f8.map d165)) (by kernel_rfl) (by kernel_rfl) (by rw [List.getElem?_map, hx39]; rfl) rfl trivial (by kernel_rfl) ?_
   refine go 1 ?_
   obtain ⟨r40, q41, hr43, hf42⟩ := t_markValS x39.f8 (r32 + 1) (by first | assumption | omega) (by first | assumption | omega)
   obtain ⟨hql, hqk, hqm⟩ := hr43
   refine CH.callB hf42 Try.func80 ⟨rfl, rfl⟩ 2032 2 165 (x39.f8.map d165) true 165 (q41.map d165) (by kernel_rfl) (by kernel_rfl) (by kernel_rfl) (by kernel_rfl) (by kernel_rfl) (by first | (simp; done) | (simp; omega)) (by kernel_rfl) ?_
   refine go 1 ?_
   refine ek ⟨[(0, rV 0), (1, iV r40), (5, iV v5)], [(0, some (.nst 14 72 [(6, 1, 9), (8, 1, 9), (9, 1, 3), (10, 5, 35), (12, 2, 165)] ((L0.set (Int.toNat v5) (⟨x38.f0, x38.f1, x38.f2, x38.f3, x38.f4, x38.f5, x38.f6, ((Int.tmod r32 3) == 0), x38.f8, x38.f9⟩ : S72)).map d72) [(Int.toNat v5, 12, 2032)])), (2032, some (.row 2 165 (q41.map d165) false true))], 2096⟩ ?_
   refine X.weak (Wk.closeN (wd := 14) (wd' := 2) (i := Int.toNat v5) (j := 12) (r := 2032) (e := 72) (ty := 165) (co := [(6, 1, 9), (8, 1, 9), (9, 1, 3), (10, 5, 35), (12, 2, 165)]) (rows := ((L0.set (Int.toNat v5) (⟨x38.f0, x38.f1, x38.f2, x38.f3, x38.f4, x38.f5, x38.f6, ((Int.tmod r32 3) == 0), x38.f8, x38.f9⟩ : S72)).map d72)) (q := (q41.map d165)) (op2 := []) 0 (d72 x39) (by kernel_rfl) (by kernel_rfl) (by rw [List.getElem?_map, hx39]; rfl) (flat_d d165 (fun x => rfl)) (by exact trivial) (by kernel_rfl) (by kernel_rfl) (by kernel_rfl) (by kernel_rfl)) ?_
   refine X.sub (fun z : List (List D) => (⟨[(0, rV 0), (1, iV r40), (5, iV v5)], (0, some (.nst 14 72 [(6, 1, 9), (8, 1, 9), (9, 1, 3), (10, 5, 35), (12, 2, 165)] z [])) :: (2032, none) :: [(0, some (.nst 14 72 [(6, 1, 9), (8, 1, 9), (9, 1, 3), (10, 5, 35), (12, 2, 165)] ((L0.set (Int.toNat v5) (⟨x38.f0, x38.f1, x38.f2, x38.f3, x38.f4, x38.f5, x38.f6, ((Int.tmod r32 3) == 0), x38.f8, x38.f9⟩ : S72)).map d72) [(Int.toNat v5, 12, 2032)])), (2032, some (.row 2 165 (q41.map d165) false true))], 2096⟩ : St)) (show ((L0.set (Int.toNat v5) (⟨x38.f0, x38.f1, x38.f2, x38.f3, x38.f4, x38.f5, x38.f6, ((Int.tmod r32 3) == 0), x38.f8, x38.f9⟩ : S72)).map d72).set (Int.toNat v5) ((d72 x39).set 12 (.sl (q41.map d165))) = ((L0.set (Int.toNat v5) (⟨x39.f0, x39.f1, x39.f2, x39.f3, x39.f4, x39.f5, x39.f6, x39.f7, q41, x39.f9⟩ : S72)).map d72) from (List.map_set (f := d72) (l := (L0.set (Int.toNat v5) (⟨x38.f0, x38.f1, x38.f2, x38.f3, x38.f4, x38.f5, x38.f6, ((Int.tmod r32 3) == 0), x38.f8, x38.f9⟩ : S72))) (i := Int.toNat v5) (a := (⟨x39.f0, x39.f1, x39.f2, x39.f3, x39.f4, x39.f5, x39.f6, x39.f7, q41, x39.f9⟩ : S72))).symm.trans (congrArg (List.map d72) (List.set_set ..))) ?_
   refine X.weak (Wk.less (s1 := ⟨[(0, rV 0), (1, iV r40), (5, iV v5)], [(0, some (.nst 14 72 [(6, 1, 9), (8, 1, 9), (9, 1, 3), (10, 5, 35), (12, 2, 165)] ((L0.set (Int.toNat v5) (⟨x39.f0, x39.f1, x39.f2, x39.f3, x39.f4, x39.f5, x39.f6, x39.f7, q41, x39.f9⟩ : S72)).map d72) []))], 2096⟩) (by kernel_rfl)) ?_
   refine X.seq ?_
   have c5 := hql
   have d5 := hqm
   refine rs 3 ?_
   obtain ⟨r44, hr46, hf45⟩ := l_markText r40 (by omega)
   replace hr46 := hr46.symm; subst hr46
   refine ca hf45 Try.func58 ?_
   refine CH.idxR hτ (rows := ((L0.set (Int.toNat v5) (⟨x39.f0, x39.f1, x39.f2, x39.f3, x39.f4, x39.f5, x39.f6, x39.f7, q41, x39.f9⟩ : S72)).map d72)) (n := v5) (b := 0) (by kernel_rfl) (by kernel_rfl) (by first | omega | (simp; done) | (simp; omega)) (by simp only [List.length_map, List.length_set]; first | omega | (simp; done) | (simp; omega)) (by kernel_rfl) ?_
   refine go 1 ?_
   obtain ⟨x48, hx48⟩ : ∃ x, (L0.set (Int.toNat v5) (⟨x39.f0, x39.f1, x39.f2, x39.f3, x39.f4, x39.f5, x39.f6, x39.f7, q41, x39.f9⟩ : S72))[Int.toNat v5]? = some x := ⟨_, List.getElem?_eq_getElem (by first | omega | (simp; done) | (simp; omega))⟩
   have p25 := set_get hx48; have q0hx48 := congrArg (fun a : S72 => a.f4.f2.length) p25; simp only at q0hx48; have q1hx48 := congrArg (fun a : S72 => a.f5.f1.length) p25; simp only at q1hx48; have q2hx48 := congrArg (fun a : S72 => a.f5.f2.length) p25; simp only at q2hx48; have q3hx48 := congrArg (fun a : S72 => a.f6.length) p25; simp only at q3hx48; have q4hx48 := congrArg (fun a : S72 => a.f8.length) p25; simp only at q4hx48
   refine CH.stN hτ (rows := ((L0.set (Int.toNat v5) (⟨x39.f0, x39.f1, x39.f2, x39.f3, x39.f4, x39.f5, x39.f6, x39.f7, q41, x39.f9⟩ : S72)).map d72)) (n := Int.toNat v5) (p := 13) (len := 1) (op := []) (L := []) (d72 x48) (by kernel_rfl) (by kernel_rfl) (by rw [List.getElem?_map, hx48]; rfl) trivial trivial (by kernel_rfl) ?_
   refine CH.endk ⟨[(0, rV 0), (1, iV r40), (5, iV v5)], [(0, some (.nst 14 72 [(6, 1, 9), (8, 1, 9), (9, 1, 3), (10, 5, 35), (12, 2, 165)] (((L0.set (Int.toNat v5) (⟨x39.f0, x39.f1, x39.f2, x39.f3, x39.f4, x39.f5, x39.f6, x39.f7, q41, x39.f9⟩ : S72)).map d72).set (Int.toNat v5) (d72 (⟨x48.f0, x48.f1, x48.f2, x48.f3, x48.f4, x48.f5, x48.f6, x48.f7, x48.f8, (mt r40)⟩ : S72))) []))], 2208⟩ (by kernel_rfl) (by kernel_rfl) (s2 := ⟨[(0, rV 0), (1, iV r40), (5, iV v5)], [(0, some (.nst 14 72 [(6, 1, 9), (8, 1, 9), (9, 1, 3), (10, 5, 35), (12, 2, 165)] ((L0.set (Int.toNat v5) (⟨x48.f0, x48.f1, x48.f2, x48.f3, x48.f4, x48.f5, x48.f6, x48.f7, x48.f8, (mt r40)⟩ : S72)).map d72) []))], 2208⟩) (congrArg (fun z : List (List D) => (⟨[(0, rV 0), (1, iV r40), (5, iV v5)], [(0, some (.nst 14 72 [(6, 1, 9), (8, 1, 9), (9, 1, 3), (10, 5, 35), (12, 2, 165)] z []))], 2208⟩ : St)) (show (((L0.set (Int.toNat v5) (⟨x39.f0, x39.f1, x39.f2, x39.f3, x39.f4, x39.f5, x39.f6, x39.f7, q41, x39.f9⟩ : S72)).map d72).set (Int.toNat v5) (d72 (⟨x48.f0, x48.f1, x48.f2, x48.f3, x48.f4, x48.f5, x48.f6, x48.f7, x48.f8, (mt r40)⟩ : S72))) = ((L0.set (Int.toNat v5) (⟨x48.f0, x48.f1, x48.f2, x48.f3, x48.f4, x48.f5, x48.f6, x48.f7, x48.f8, (mt r40)⟩ : S72)).map d72) from (by rw [← List.map_set, List.set_set]))) ?_
   refine X.rk ⟨[(0, rV 0), (1, iV (wrap64 (r40 + 1))), (5, iV v5)], [(0, some (.nst 14 72 [(6, 1, 9), (8, 1, 9), (9, 1, 3), (10, 5, 35), (12, 2, 165)] ((L0.set (Int.toNat v5) (⟨x48.f0, x48.f1, x48.f2, x48.f3, x48.f4, x48.f5, x48.f6, x48.f7, x48.f8, (mt r40)⟩ : S72)).map d72) []))], 2256⟩ hτ hmix (by kernel_rfl) (by kernel_rfl) (s2 := ⟨[(0, rV 0), (1, iV (r40 + 1)), (5, iV v5)], [(0, some (.nst 14 72 [(6, 1, 9), (8, 1, 9), (9, 1, 3), (10, 5, 35), (12, 2, 165)] ((L0.set (Int.toNat v5) (⟨x48.f0, x48.f1, x48.f2, x48.f3, x48.f4, x48.f5, x48.f6, x48.f7, x48.f8, (mt r40)⟩ : S72)).map d72) []))], 2256⟩) (congrArg (fun z : Int => (⟨[(0, rV 0), (1, iV z), (5, iV v5)], [(0, some (.nst 14 72 [(6, 1, 9), (8, 1, 9), (9, 1, 3), (10, 5, 35), (12, 2, 165)] ((L0.set (Int.toNat v5) (⟨x48.f0, x48.f1, x48.f2, x48.f3, x48.f4, x48.f5, x48.f6, x48.f7, x48.f8, (mt r40)⟩ : S72)).map d72) []))], 2256⟩ : St)) (show wrap64 (r40 + 1) = (r40 + 1) by rw [w64 (n := (r40 + 1)) (by omega) (by omega)])) ?_
   refine X.rk ⟨[(0, rV 0), (1, iV (r40 + 1)), (5, iV (wrap64 (v5 + 1)))], [(0, some (.nst 14 72 [(6, 1, 9), (8, 1, 9), (9, 1, 3), (10, 5, 35), (12, 2, 165)] ((L0.set (Int.toNat v5) (⟨x48.f0, x48.f1, x48.f2, x48.f3, x48.f4, x48.f5, x48.f6, x48.f7, x48.f8, (mt r40)⟩ : S72)).map d72) []))], 2304⟩ hτ hmix (by kernel_rfl) (by kernel_rfl) (s2 := ⟨[(0, rV 0), (1, iV (r40 + 1)), (5, iV (v5 + 1))], [(0, some (.nst 14 72 [(6, 1, 9), (8, 1, 9), (9, 1, 3), (10, 5, 35), (12, 2, 165)] ((L0.set (Int.toNat v5) (⟨x48.f0, x48.f1, x48.f2, x48.f3, x48.f4, x48.f5, x48.f6, x48.f7, x48.f8, (mt r40)⟩ : S72)).map d72) []))], 2304⟩) (congrArg (fun z : Int => (⟨[(0, rV 0), (1, iV (r40 + 1)), (5, iV z)], [(0, some (.nst 14 72 [(6, 1, 9), (8, 1, 9), (9, 1, 3), (10, 5, 35), (12, 2, 165)] ((L0.set (Int.toNat v5) (⟨x48.f0, x48.f1, x48.f2, x48.f3, x48.f4, x48.f5, x48.f6, x48.f7, x48.f8, (mt r40)⟩ : S72)).map d72) []))], 2304⟩ : St)) (show wrap64 (v5 + 1) = (v5 + 1) by rw [w64 (n := (v5 + 1)) (by omega) (by omega)])) ?_
   refine ⟨⟨((L0.set (Int.toNat v5) (⟨x48.f0, x48.f1, x48.f2, x48.f3, x48.f4, x48.f5, x48.f6, x48.f7, x48.f8, (mt r40)⟩ : S72)), (r40 + 1), (v5 + 1)), ⟨by first | omega | (dsimp only; omega), by first | omega | (dsimp only; omega), by (try dsimp only); (try simp only [List.set_set]); rw [wgT_setB (by first | omega | (dsimp only; omega)) (by first | omega | (dsimp only; omega))]; (try dsimp only); omega, by (try dsimp only); (try simp only [List.set_set]); rw [wgT_setB (by first | omega | (dsimp only; omega)) (by first | omega | (dsimp only; omega))]; (try dsimp only); omega, by simp only [List.length_set]; omega, fun j hj => by (try dsimp only at hj); (try dsimp only); (try simp only [List.set_set]); rw [List.getElem?_set_ne (by first | omega | (dsimp only; omega))]; exact hA j (by first | omega | (dsimp only; omega)), by (try dsimp only); (try simp only [List.set_set]); refine mkBk_set hU (by first | omega | (dsimp only; omega)) ?_; simp only [p25, p24, p22, p21, p20, p19, p17, p16, p14, p12, p10, p8, p6]; exact ⟨(by (try dsimp only); omega), (by (try dsimp only); omega), (by (try dsimp only); omega), (by (try dsimp only); congr 1; omega), (by (try dsimp only); omega), (by (try dsimp only); omega), (upto_cast d1 (by (try dsimp only); omega) (by (try dsimp only); omega)), (by (try dsimp only); omega), (upto_cast d2 (by (try dsimp only); omega) (by (try dsimp only); omega)), (upto_cast d3 (by (try dsimp only); omega) (by (try dsimp only); omega)), (upto_cast d4 (by (try dsimp only); omega) (by (try dsimp only); omega)), (by (try dsimp only); exact congrArg (fun n : Int => (Int.tmod n 3 == 0)) (by first | omega | (dsimp only; omega))), (upto_cast d5 (by (try dsimp only); omega) (by (try dsimp only); omega)), (by (try dsimp only); congr 1; omega)⟩⟩⟩, by first | exact rfl | omega | (dsimp only; omega) | (simp only [List.length_append, List.length_cons, List.length_nil, List.length_set]; omega) | (simp; done) | (simp; omega), Wk.mk' [] (by kernel_rfl) (by kernel_rfl) (by kernel_rfl)⟩
  ·replace hb4 := of_decide_eq_false (hb4)
   refine X.exit ?_
   refine sk ⟨[(4, iV v1)], [(0, some (.nst 14 72 [(6, 1, 9), (8, 1, 9), (9, 1, 3), (10, 5, 35), (12, 2, 165)] (L0.map d72) []))], 192⟩ ?_
   refine X.ret ?_
   exact ⟨trivial, _, _, ⟨v1, L0, ⟨hL, (by have h1 := wgT_full (f := blM) (l := L0) (i := v5) (by omega); have h2 := wgT_full (f := blM) (l := l) (i := v5) (by omega); omega), (by have h1 := wgT_full (f := blM) (l := L0) (i := v5) (by omega); have h2 := wgT_full (f := blM) (l := l) (i := v5) (by omega); omega), upto_all hU (by omega)⟩, rfl, rfl⟩, mkr⟩
 obtain ⟨_, _, ⟨r0, q0, h1_, rfl, rfl⟩, hf⟩ := key
 exact ⟨r0, q0, h1_, hf⟩

theorem t_heldBlockS (l : List S72) (k : Int) (hl : l.length ≤ 2000000) (hk : 0 ≤ k ∧ k + 9 * l.length + wgT blM l ≤ 40000000) : ∃ r0 : Int, (-1 ≤ r0 ∧ (Upto (mkBk k l) (fun n => l[n]?) l.length → r0 = k + 9 * l.length + wgT blM l)) ∧ Fn Try.prog 34 [lV (l.map d72), iV k] (lookH []) (iV r0) (lookH []) := by
 have key : ∃ x' h', ((fun x' h' => ∃ r0 : Int, (-1 ≤ r0 ∧ (Upto (mkBk k l) (fun n => l[n]?) l.length → r0 = k + 9 * l.length + wgT blM l)) ∧ x' = iV r0 ∧ h' = [])) x' h' ∧ Fn Try.prog 34 [lV (l.map d72), iV k] (lookH []) x' (lookH h') := by
  refine Fn.bodyX (N := 149) hτ Try.func34 rfl rfl rfl rfl ?_
  refine sk ⟨[(0, lV (l.map d72)), (1, iV k)], [], 80⟩ ?_
  refine X.seq ?_
  refine sk ⟨[(0, lV (l.map d72)), (1, iV k), (5, iV 0)], [], 96⟩ ?_
  refine X.block ?_
  -- 2: v1 : Int, v5 : Int
  refine X.loop (σ := { g : Int × Int // (fun (v1 : Int) (v5 : Int) => 0 ≤ v5 ∧ v5 ≤ l.length ∧ v1 = k + 9 * v5 + wgT blM (l.take (v5).toNat)) g.1 g.2 }) (fun g => (fun (v1 : Int) (v5 : Int) => ⟨[(0, lV (l.map d72)), (1, iV v1), (5, iV v5)], [], 96⟩) g.1.1 g.1.2) (fun g => (fun (v1 : Int) (v5 : Int) => (l.length - v5).toNat) g.1.1 g.1.2) ⟨(k, 0), ⟨by first | omega | (dsimp only; omega), by first | omega | (dsimp only; omega), by simp [wgT]⟩⟩ (Wk.less (by kernel_rfl)) (fun g => ?_)
  obtain ⟨⟨v1, v5⟩, hg2⟩ := g
  have hg2 : 0 ≤ v5 ∧ v5 ≤ l.length ∧ v1 = k + 9 * v5 + wgT blM (l.take (v5).toNat) := hg2
  obtain ⟨_, _, hk1⟩ := hg2
  refine X.seq ?_
  refine X.seq ?_
  have el3 : (l.map d72).length = l.length := List.length_map ..
  refine rk ⟨[(0, lV (l.map d72)), (1, iV v1), (5, iV v5), (9, bV (decide ((v5 : Int) < ((l.map d72).length : Int))))], [], 160⟩ ?_
  refine if_ (b := decide ((v5 : Int) < ((l.map d72).length : Int))) (fun hb4 => ?_) (fun hb4 => ?_)
  ·replace hb4 := of_decide_eq_true (hb4)
   refine X.skip ?_
   refine X.seq ?_
   refine X.block ?_
   refine X.seq ?_
   refine X.seq ?_
   have hle := wgT_le blM l (Int.toNat v5)
   have hle2 := wgT_le blM l (Int.toNat (v5 + 1))
   refine rs 2 ?_
   obtain ⟨x5, hx5⟩ : ∃ x, l[Int.toNat v5]? = some x := ⟨_, List.getElem?_eq_getElem (by first | omega | (simp; done) | (simp; omega))⟩
   have hst := wgT_takeB (by omega) hx5
   refine CH.idx hτ (d72 x5) (rows := (l.map d72)) (n := v5) (sz := 14) (by kernel_rfl) (by kernel_rfl) (by first | omega | (simp; done) | (simp; omega)) (by rw [List.getElem?_map, hx5]; rfl) (by kernel_rfl) ?_
   refine go 4 ?_
   refine ek ⟨[(0, lV (l.map d72)), (1, iV v1), (5, iV v5), (18, bV (x5.f0 != v1))], [], 272⟩ ?_
   refine if_ (b := (x5.f0 != v1)) (fun hb6 => ?_) (fun hb6 => ?_)
   ·replace hb6 := bne_iff_ne.1 (hb6)
    refine sk ⟨[(4, iV (-1))], [], 288⟩ ?_
    refine X.ret ?_
    exact ⟨trivial, _, _, ⟨(-1), ⟨(by first | omega | (have h2 := wgT_full (f := blM) (l := l) (i := v5) (by omega); omega)), (fun hM => by first | omega | (have h2 := wgT_full (f := blM) (l := l) (i := v5) (by omega); omega) | (have hq := hM _ _ (by omega) (by omega) (‹l[_]? = some _›); exfalso; (obtain ⟨m0, m1, m2, m3, m4, m5, m6, m7, m8, m9, m10, m11, m12, m13⟩ := hq; first | omega | (have h9 := u5 (upto_cast m12 (by omega) rfl); omega) | (have h9 := u4 (upto_cast m10 (by omega) rfl); omega) | (have h9 := u3 (upto_cast m9 (by omega) rfl); omega) | (have h9 := u2 (upto_cast m8 (by omega) rfl); omega) | (have h9 := u1 (upto_cast m6 (by omega) rfl); omega) | (exact ‹¬ _› (m11.trans (congrArg (fun n : Int => (Int.tmod n 3 == 0)) (by omega)))) | (exact ‹¬ _› (by rw [m3]; congr 2; omega)) | (exact ‹¬ _› (by rw [m13]; congr 2; omega)))))⟩, rfl, rfl⟩, mkr⟩
   ·replace hb6 := bne_eq_false_iff_eq.1 (hb6)
    refine X.skip ?_
    refine X.seq ?_
    refine X.rk ⟨[(0, lV (l.map d72)), (1, iV (wrap64 (v1 + 1))), (5, iV v5)], [], 320⟩ hτ hmix (by kernel_rfl) (by kernel_rfl) (s2 := ⟨[(0, lV (l.map d72)), (1, iV (v1 + 1)), (5, iV v5)], [], 320⟩) (congrArg (fun z : Int => (⟨[(0, lV (l.map d72)), (1, iV z), (5, iV v5)], [], 320⟩ : St)) (show wrap64 (v1 + 1) = (v1 + 1) by rw [w64 (n := (v1 + 1)) (by omega) (by omega)])) ?_
    refine X.seq ?_
    refine X.seq (rs 2 ?_)
    refine CH.idx hτ (d72 x5) (rows := (l.map d72)) (n := v5) (sz := 14) (by kernel_rfl) (by kernel_rfl) (by first | omega | (simp; done) | (simp; omega)) (by rw [List.getElem?_map, hx5]; rfl) (by kernel_rfl) ?_
    refine go 4 ?_
    refine ek ⟨[(0, lV (l.map d72)), (1, iV (v1 + 1)), (5, iV v5), (27, bV (x5.f1 != (v1 + 1)))], [], 432⟩ ?_
    refine if_ (b := (x5.f1 != (v1 + 1))) (fun hb7 => ?_) (fun hb7 => ?_)
    ·replace hb7 := bne_iff_ne.1 (hb7)
     refine sk ⟨[(4, iV (-1))], [], 448⟩ ?_
     refine X.ret ?_
     exact ⟨trivial, _, _, ⟨(-1), ⟨(by first | omega | (have h2 := wgT_full (f := blM) (l := l) (i := v5) (by omega); omega)), (fun hM => by first | omega | (have h2 := wgT_full (f := blM) (l := l) (i := v5) (by omega); omega) | (have hq := hM _ _ (by omega) (by omega) (‹l[_]? = some _›); exfalso; (obtain ⟨m0, m1, m2, m3, m4, m5, m6, m7, m8, m9, m10, m11, m12, m13⟩ := hq; first | omega | (have h9 := u5 (upto_cast m12 (by omega) rfl); omega) | (have h9 := u4 (upto_cast m10 (by omega) rfl); omega) | (have h9 := u3 (upto_cast m9 (by omega) rfl); omega) | (have h9 := u2 (upto_cast m8 (by omega) rfl); omega) | (have h9 := u1 (upto_cast m6 (by omega) rfl); omega) | (exact ‹¬ _› (m11.trans (congrArg (fun n : Int => (Int.tmod n 3 == 0)) (by omega)))) | (exact ‹¬ _› (by rw [m3]; congr 2; omega)) | (exact ‹¬ _› (by rw [m13]; congr 2; omega)))))⟩, rfl, rfl⟩, mkr⟩
    ·replace hb7 := bne_eq_false_iff_eq.1 (hb7)
     refine X.skip ?_
     refine X.seq ?_
     refine X.rk ⟨[(0, lV (l.map d72)), (1, iV (wrap64 ((v1 + 1) + 1))), (5, iV v5)], [], 480⟩ hτ hmix (by kernel_rfl) (by kernel_rfl) (s2 := ⟨[(0, lV (l.map d72)), (1, iV ((v1 + 1) + 1)), (5, iV v5)], [], 480⟩) (congrArg (fun z : Int => (⟨[(0, lV (l.map d72)), (1, iV z), (5, iV v5)], [], 480⟩ : St)) (show wrap64 ((v1 + 1) + 1) = ((v1 + 1) + 1) by rw [w64 (n := ((v1 + 1) + 1)) (by omega) (by omega)])) ?_
     refine X.seq ?_
     refine X.seq (rs 2 ?_)
     refine CH.idx hτ (d72 x5) (rows := (l.map d72)) (n := v5) (sz := 14) (by kernel_rfl) (by kernel_rfl) (by first | omega | (simp; done) | (simp; omega)) (by rw [List.getElem?_map, hx5]; rfl) (by kernel_rfl) ?_
     refine go 4 ?_
     refine ek ⟨[(0, lV (l.map d72)), (1, iV ((v1 + 1) + 1)), (5, iV v5), (36, bV (x5.f2 != ((v1 + 1) + 1)))], [], 592⟩ ?_
     refine if_ (b := (x5.f2 != ((v1 + 1) + 1))) (fun hb8 => ?_) (fun hb8 => ?_)
     ·replace hb8 := bne_iff_ne.1 (hb8)
      refine sk ⟨[(4, iV (-1))], [], 608⟩ ?_
      refine X.ret ?_
      exact ⟨trivial, _, _, ⟨(-1), ⟨(by first | omega | (have h2 := wgT_full (f := blM) (l := l) (i := v5) (by omega); omega)), (fun hM => by first | omega | (have h2 := wgT_full (f := blM) (l := l) (i := v5) (by omega); omega) | (have hq := hM _ _ (by omega) (by omega) (‹l[_]? = some _›); exfalso; (obtain ⟨m0, m1, m2, m3, m4, m5, m6, m7, m8, m9, m10, m11, m12, m13⟩ := hq; first | omega | (have h9 := u5 (upto_cast m12 (by omega) rfl); omega) | (have h9 := u4 (upto_cast m10 (by omega) rfl); omega) | (have h9 := u3 (upto_cast m9 (by omega) rfl); omega) | (have h9 := u2 (upto_cast m8 (by omega) rfl); omega) | (have h9 := u1 (upto_cast m6 (by omega) rfl); omega) | (exact ‹¬ _› (m11.trans (congrArg (fun n : Int => (Int.tmod n 3 == 0)) (by omega)))) | (exact ‹¬ _› (by rw [m3]; congr 2; omega)) | (exact ‹¬ _› (by rw [m13]; congr 2; omega)))))⟩, rfl, rfl⟩, mkr⟩
     ·replace hb8 := bne_eq_false_iff_eq.1 (hb8)
      refine X.skip ?_
      refine X.seq ?_
      refine X.rk ⟨[(0, lV (l.map d72)), (1, iV (wrap64 (((v1 + 1) + 1) + 1))), (5, iV v5)], [], 640⟩ hτ hmix (by kernel_rfl) (by kernel_rfl) (s2 := ⟨[(0, lV (l.map d72)), (1, iV (((v1 + 1) + 1) + 1)), (5, iV v5)], [], 640⟩) (congrArg (fun z : Int => (⟨[(0, lV (l.map d72)), (1, iV z), (5, iV v5)], [], 640⟩ : St)) (show wrap64 (((v1 + 1) + 1) + 1) = (((v1 + 1) + 1) + 1) by rw [w64 (n := (((v1 + 1) + 1) + 1)) (by omega) (by omega)])) ?_
      refine X.seq ?_
      refine X.seq (rs 2 ?_)
      refine CH.idx hτ (d72 x5) (rows := (l.map d72)) (n := v5) (sz := 14) (by kernel_rfl) (by kernel_rfl) (by first | omega | (simp; done) | (simp; omega)) (by rw [List.getElem?_map, hx5]; rfl) (by kernel_rfl) ?_
      refine go 3 ?_
      obtain ⟨r9, hr11, hf10⟩ := l_markText (((v1 + 1) + 1) + 1) (by omega)
      replace hr11 := hr11.symm; subst hr11
      refine ca hf10 Try.func58 ?_
      refine go 1 ?_
      refine ek ⟨[(0, lV (l.map d72)), (1, iV (((v1 + 1) + 1) + 1)), (5, iV v5), (46, bV (!(x5.f3.toList == (mt (((v1 + 1) + 1) + 1)).toList)))], [], 768⟩ ?_
      refine if_ (b := !(x5.f3.toList == (mt (((v1 + 1) + 1) + 1)).toList)) (fun hb13 => ?_) (fun hb13 => ?_)
      ·replace hb13 := beq_no (bnot_yes (hb13))
       refine sk ⟨[(4, iV (-1))], [], 784⟩ ?_
       refine X.ret ?_
       exact ⟨trivial, _, _, ⟨(-1), ⟨(by first | omega | (have h2 := wgT_full (f := blM) (l := l) (i := v5) (by omega); omega)), (fun hM => by first | omega | (have h2 := wgT_full (f := blM) (l := l) (i := v5) (by omega); omega) | (have hq := hM _ _ (by omega) (by omega) (‹l[_]? = some _›); exfalso; (obtain ⟨m0, m1, m2, m3, m4, m5, m6, m7, m8, m9, m10, m11, m12, m13⟩ := hq; first | omega | (have h9 := u5 (upto_cast m12 (by omega) rfl); omega) | (have h9 := u4 (upto_cast m10 (by omega) rfl); omega) | (have h9 := u3 (upto_cast m9 (by omega) rfl); omega) | (have h9 := u2 (upto_cast m8 (by omega) rfl); omega) | (have h9 := u1 (upto_cast m6 (by omega) rfl); omega) | (exact ‹¬ _› (m11.trans (congrArg (fun n : Int => (Int.tmod n 3 == 0)) (by omega)))) | (exact ‹¬ _› (by rw [m3]; congr 2; omega)) | (exact ‹¬ _› (by rw [m13]; congr 2; omega)))))⟩, rfl, rfl⟩, mkr⟩
      ·replace hb13 := beq_yes (bnot_no (hb13))
       refine X.skip ?_
       refine X.seq ?_
       refine X.rk ⟨[(0, lV (l.map d72)), (1, iV (wrap64 ((((v1 + 1) + 1) + 1) + 1))), (5, iV v5)], [], 816⟩ hτ hmix (by kernel_rfl) (by kernel_rfl) (s2 := ⟨[(0, lV (l.map d72)), (1, iV ((((v1 + 1) + 1) + 1) + 1)), (5, iV v5)], [], 816⟩) (congrArg (fun z : Int => (⟨[(0, lV (l.map d72)), (1, iV z), (5, iV v5)], [], 816⟩ : St)) (show wrap64 ((((v1 + 1) + 1) + 1) + 1) = ((((v1 + 1) + 1) + 1) + 1) by rw [w64 (n := ((((v1 + 1) + 1) + 1) + 1)) (by omega) (by omega)])) ?_
       refine X.seq ?_
       refine X.seq (rs 2 ?_)
       refine CH.idx hτ (d72 x5) (rows := (l.map d72)) (n := v5) (sz := 14) (by kernel_rfl) (by kernel_rfl) (by first | omega | (simp; done) | (simp; omega)) (by rw [List.getElem?_map, hx5]; rfl) (by kernel_rfl) ?_
       refine go 5 ?_
       refine ek ⟨[(0, lV (l.map d72)), (1, iV ((((v1 + 1) + 1) + 1) + 1)), (5, iV v5), (56, bV (x5.f4.f0 != ((((v1 + 1) + 1) + 1) + 1)))], [], 944⟩ ?_
       refine if_ (b := (x5.f4.f0 != ((((v1 + 1) + 1) + 1) + 1))) (fun hb14 => ?_) (fun hb14 => ?_)
       ·replace hb14 := bne_iff_ne.1 (hb14)
        refine sk ⟨[(4, iV (-1))], [], 960⟩ ?_
        refine X.ret ?_
        exact ⟨trivial, _, _, ⟨(-1), ⟨(by first | omega | (have h2 := wgT_full (f := blM) (l := l) (i := v5) (by omega); omega)), (fun hM => by first | omega | (have h2 := wgT_full (f := blM) (l := l) (i := v5) (by omega); omega) | (have hq := hM _ _ (by omega) (by omega) (‹l[_]? = some _›); exfalso; (obtain ⟨m0, m1, m2, m3, m4, m5, m6, m7, m8, m9, m10, m11, m12, m13⟩ := hq; first | omega | (have h9 := u5 (upto_cast m12 (by omega) rfl); omega) | (have h9 := u4 (upto_cast m10 (by omega) rfl); omega) | (have h9 := u3 (upto_cast m9 (by omega) rfl); omega) | (have h9 := u2 (upto_cast m8 (by omega) rfl); omega) | (have h9 := u1 (upto_cast m6 (by omega) rfl); omega) | (exact ‹¬ _› (m11.trans (congrArg (fun n : Int => (Int.tmod n 3 == 0)) (by omega)))) | (exact ‹¬ _› (by rw [m3]; congr 2; omega)) | (exact ‹¬ _› (by rw [m13]; congr 2; omega)))))⟩, rfl, rfl⟩, mkr⟩
       ·replace hb14 := bne_eq_false_iff_eq.1 (hb14)
        refine X.skip ?_
        refine X.seq ?_
        refine X.rk ⟨[(0, lV (l.map d72)), (1, iV (wrap64 (((((v1 + 1) + 1) + 1) + 1) + 1))), (5, iV v5)], [], 992⟩ hτ hmix (by kernel_rfl) (by kernel_rfl) (s2 := ⟨[(0, lV (l.map d72)), (1, iV (((((v1 + 1) + 1) + 1) + 1) + 1)), (5, iV v5)], [], 992⟩) (congrArg (fun z : Int => (⟨[(0, lV (l.map d72)), (1, iV z), (5, iV v5)], [], 992⟩ : St)) (show wrap64 (((((v1 + 1) + 1) + 1) + 1) + 1) = (((((v1 + 1) + 1) + 1) + 1) + 1) by rw [w64 (n := (((((v1 + 1) + 1) + 1) + 1) + 1)) (by omega) (by omega)])) ?_
        refine X.seq ?_
        refine X.seq (rs 2 ?_)
        refine CH.idx hτ (d72 x5) (rows := (l.map d72)) (n := v5) (sz := 14) (by kernel_rfl) (by kernel_rfl) (by first | omega | (simp; done) | (simp; omega)) (by rw [List.getElem?_map, hx5]; rfl) (by kernel_rfl) ?_
        refine go 5 ?_
        refine ek ⟨[(0, lV (l.map d72)), (1, iV (((((v1 + 1) + 1) + 1) + 1) + 1)), (5, iV v5), (66, bV (x5.f4.f1 != (((((v1 + 1) + 1) + 1) + 1) + 1)))], [], 1120⟩ ?_
        refine if_ (b := (x5.f4.f1 != (((((v1 + 1) + 1) + 1) + 1) + 1))) (fun hb15 => ?_) (fun hb15 => ?_)
        ·replace hb15 := bne_iff_ne.1 (hb15)
         refine sk ⟨[(4, iV (-1))], [], 1136⟩ ?_
         refine X.ret ?_
         exact ⟨trivial, _, _, ⟨(-1), ⟨(by first | omega | (have h2 := wgT_full (f := blM) (l := l) (i := v5) (by omega); omega)), (fun hM => by first | omega | (have h2 := wgT_full (f := blM) (l := l) (i := v5) (by omega); omega) | (have hq := hM _ _ (by omega) (by omega) (‹l[_]? = some _›); exfalso; (obtain ⟨m0, m1, m2, m3, m4, m5, m6, m7, m8, m9, m10, m11, m12, m13⟩ := hq; first | omega | (have h9 := u5 (upto_cast m12 (by omega) rfl); omega) | (have h9 := u4 (upto_cast m10 (by omega) rfl); omega) | (have h9 := u3 (upto_cast m9 (by omega) rfl); omega) | (have h9 := u2 (upto_cast m8 (by omega) rfl); omega) | (have h9 := u1 (upto_cast m6 (by omega) rfl); omega) | (exact ‹¬ _› (m11.trans (congrArg (fun n : Int => (Int.tmod n 3 == 0)) (by omega)))) | (exact ‹¬ _› (by rw [m3]; congr 2; omega)) | (exact ‹¬ _› (by rw [m13]; congr 2; omega)))))⟩, rfl, rfl⟩, mkr⟩
        ·replace hb15 := bne_eq_false_iff_eq.1 (hb15)
         refine X.skip ?_
         refine X.seq ?_
         refine X.rk ⟨[(0, lV (l.map d72)), (1, iV (wrap64 ((((((v1 + 1) + 1) + 1) + 1) + 1) + 1))), (5, iV v5)], [], 1168⟩ hτ hmix (by kernel_rfl) (by kernel_rfl) (s2 := ⟨[(0, lV (l.map d72)), (1, iV ((((((v1 + 1) + 1) + 1) + 1) + 1) + 1)), (5, iV v5)], [], 1168⟩) (congrArg (fun z : Int => (⟨[(0, lV (l.map d72)), (1, iV z), (5, iV v5)], [], 1168⟩ : St)) (show wrap64 ((((((v1 + 1) + 1) + 1) + 1) + 1) + 1) = ((((((v1 + 1) + 1) + 1) + 1) + 1) + 1) by rw [w64 (n := ((((((v1 + 1) + 1) + 1) + 1) + 1) + 1)) (by omega) (by omega)])) ?_
         refine X.seq (rs 2 ?_)
         refine CH.idx hτ (d72 x5) (rows := (l.map d72)) (n := v5) (sz := 14) (by kernel_rfl) (by kernel_rfl) (by first | omega | (simp; done) | (simp; omega)) (by rw [List.getElem?_map, hx5]; rfl) (by kernel_rfl) ?_
         refine go 4 ?_
         obtain ⟨r16, hr18, hf17⟩ := t_heldStringS x5.f4.f2 ((((((v1 + 1) + 1) + 1) + 1) + 1) + 1) (by first | assumption | omega) (by first | assumption | omega)
         obtain ⟨⟨hhb1, hhb2, hhb3⟩, hhd⟩ := hr18
         refine ca hf17 Try.func83 ?_
         refine go 1 ?_
         refine ek ⟨[(0, lV (l.map d72)), (1, iV r16), (5, iV v5)], [], 1312⟩ ?_
         refine X.seq ?_
         refine X.seq ?_
         have t1 := hhb3
         have u1 := hhd
         refine rk ⟨[(0, lV (l.map d72)), (1, iV r16), (5, iV v5), (78, bV (decide ((r16 : Int) < 0)))], [], 1344⟩ ?_
         refine if_ (b := decide ((r16 : Int) < 0)) (fun hb19 => ?_) (fun hb19 => ?_)
         ·replace hb19 := of_decide_eq_true (hb19)
          refine sk ⟨[(4, iV (-1))], [], 1360⟩ ?_
          refine X.ret ?_
          exact ⟨trivial, _, _, ⟨(-1), ⟨(by first | omega | (have h2 := wgT_full (f := blM) (l := l) (i := v5) (by omega); omega)), (fun hM => by first | omega | (have h2 := wgT_full (f := blM) (l := l) (i := v5) (by omega); omega) | (have hq := hM _ _ (by omega) (by omega) (‹l[_]? = some _›); exfalso; (obtain ⟨m0, m1, m2, m3, m4, m5, m6, m7, m8, m9, m10, m11, m12, m13⟩ := hq; first | omega | (have h9 := u5 (upto_cast m12 (by omega) rfl); omega) | (have h9 := u4 (upto_cast m10 (by omega) rfl); omega) | (have h9 := u3 (upto_cast m9 (by omega) rfl); omega) | (have h9 := u2 (upto_cast m8 (by omega) rfl); omega) | (have h9 := u1 (upto_cast m6 (by omega) rfl); omega) | (exact ‹¬ _› (m11.trans (congrArg (fun n : Int => (Int.tmod n 3 == 0)) (by omega)))) | (exact ‹¬ _› (by rw [m3]; congr 2; omega)) | (exact ‹¬ _› (by rw [m13]; congr 2; omega)))))⟩, rfl, rfl⟩, mkr⟩
         ·replace hb19 := of_decide_eq_false (hb19)
          refine X.skip ?_
          refine X.seq ?_
          refine X.seq (rs 2 ?_)
          refine CH.idx hτ (d72 x5) (rows := (l.map d72)) (n := v5) (sz := 14) (by kernel_rfl) (by kernel_rfl) (by first | omega | (simp; done) | (simp; omega)) (by rw [List.getElem?_map, hx5]; rfl) (by kernel_rfl) ?_
          refine go 5 ?_
          refine ek ⟨[(0, lV (l.map d72)), (1, iV r16), (5, iV v5), (86, bV (x5.f5.f0 != r16))], [], 1472⟩ ?_
          refine if_ (b := (x5.f5.f0 != r16)) (fun hb20 => ?_) (fun hb20 => ?_)
          ·replace hb20 := bne_iff_ne.1 (hb20)
           refine sk ⟨[(4, iV (-1))], [], 1488⟩ ?_
           refine X.ret ?_
           exact ⟨trivial, _, _, ⟨(-1), ⟨(by first | omega | (have h2 := wgT_full (f := blM) (l := l) (i := v5) (by omega); omega)), (fun hM => by first | omega | (have h2 := wgT_full (f := blM) (l := l) (i := v5) (by omega); omega) | (have hq := hM _ _ (by omega) (by omega) (‹l[_]? = some _›); exfalso; (obtain ⟨m0, m1, m2, m3, m4, m5, m6, m7, m8, m9, m10, m11, m12, m13⟩ := hq; first | omega | (have h9 := u5 (upto_cast m12 (by omega) rfl); omega) | (have h9 := u4 (upto_cast m10 (by omega) rfl); omega) | (have h9 := u3 (upto_cast m9 (by omega) rfl); omega) | (have h9 := u2 (upto_cast m8 (by omega) rfl); omega) | (have h9 := u1 (upto_cast m6 (by omega) rfl); omega) | (exact ‹¬ _› (m11.trans (congrArg (fun n : Int => (Int.tmod n 3 == 0)) (by omega)))) | (exact ‹¬ _› (by rw [m3]; congr 2; omega)) | (exact ‹¬ _› (by rw [m13]; congr 2; omega)))))⟩, rfl, rfl⟩, mkr⟩
          ·replace hb20 := bne_eq_false_iff_eq.1 (hb20)
           refine X.skip ?_
           refine X.seq ?_
           refine X.rk ⟨[(0, lV (l.map d72)), (1, iV (wrap64 (r16 + 1))), (5, iV v5)], [], 1520⟩ hτ hmix (by kernel_rfl) (by kernel_rfl) (s2 := ⟨[(0, lV (l.map d72)), (1, iV (r16 + 1)), (5, iV v5)], [], 1520⟩) (congrArg (fun z : Int => (⟨[(0, lV (l.map d72)), (1, iV z), (5, iV v5)], [], 1520⟩ : St)) (show wrap64 (r16 + 1) = (r16 + 1) by rw [w64 (n := (r16 + 1)) (by omega) (by omega)])) ?_
           refine X.seq (rs 2 ?_)
           refine CH.idx hτ (d72 x5) (rows := (l.map d72)) (n := v5) (sz := 14) (by kernel_rfl) (by kernel_rfl) (by first | omega | (simp; done) | (simp; omega)) (by rw [List.getElem?_map, hx5]; rfl) (by kernel_rfl) ?_
           refine go 4 ?_
           obtain ⟨r21, hr23, hf22⟩ := t_heldStringS x5.f5.f1 (r16 + 1) (by first | assumption | omega) (by first | assumption | omega)
           obtain ⟨⟨hhb1, hhb2, hhb3⟩, hhd⟩ := hr23
           refine ca hf22 Try.func83 ?_
           refine go 1 ?_
           refine ek ⟨[(0, lV (l.map d72)), (1, iV r21), (5, iV v5)], [], 1664⟩ ?_
           refine X.seq ?_
           refine X.seq ?_
           have t2 := hhb3
           have u2 := hhd
           refine rk ⟨[(0, lV (l.map d72)), (1, iV r21), (5, iV v5), (98, bV (decide ((r21 : Int) < 0)))], [], 1696⟩ ?_
           refine if_ (b := decide ((r21 : Int) < 0)) (fun hb24 => ?_) (fun hb24 => ?_)
           ·replace hb24 := of_decide_eq_true (hb24)
            refine sk ⟨[(4, iV (-1))], [], 1712⟩ ?_
            refine X.ret ?_
            exact ⟨trivial, _, _, ⟨(-1), ⟨(by first | omega | (have h2 := wgT_full (f := blM) (l := l) (i := v5) (by omega); omega)), (fun hM => by first | omega | (have h2 := wgT_full (f := blM) (l := l) (i := v5) (by omega); omega) | (have hq := hM _ _ (by omega) (by omega) (‹l[_]? = some _›); exfalso; (obtain ⟨m0, m1, m2, m3, m4, m5, m6, m7, m8, m9, m10, m11, m12, m13⟩ := hq; first | omega | (have h9 := u5 (upto_cast m12 (by omega) rfl); omega) | (have h9 := u4 (upto_cast m10 (by omega) rfl); omega) | (have h9 := u3 (upto_cast m9 (by omega) rfl); omega) | (have h9 := u2 (upto_cast m8 (by omega) rfl); omega) | (have h9 := u1 (upto_cast m6 (by omega) rfl); omega) | (exact ‹¬ _› (m11.trans (congrArg (fun n : Int => (Int.tmod n 3 == 0)) (by omega)))) | (exact ‹¬ _› (by rw [m3]; congr 2; omega)) | (exact ‹¬ _› (by rw [m13]; congr 2; omega)))))⟩, rfl, rfl⟩, mkr⟩
           ·replace hb24 := of_decide_eq_false (hb24)
            refine X.skip ?_
            refine X.seq (rs 2 ?_)
            refine CH.idx hτ (d72 x5) (rows := (l.map d72)) (n := v5) (sz := 14) (by kernel_rfl) (by kernel_rfl) (by first | omega | (simp; done) | (simp; omega)) (by rw [List.getElem?_map, hx5]; rfl) (by kernel_rfl) ?_
            refine go 4 ?_
            obtain ⟨r25, hr27, hf26⟩ := t_heldIntS x5.f5.f2 r21 (by first | assumption | omega) (by first | assumption | omega)
            obtain ⟨⟨hhb1, hhb2, hhb3⟩, hhd⟩ := hr27
            refine ca hf26 Try.func84 ?_
            refine go 1 ?_
            refine ek ⟨[(0, lV (l.map d72)), (1, iV r25), (5, iV v5)], [], 1840⟩ ?_
            refine X.seq ?_
            refine X.seq ?_
            have t3 := hhb3
            have u3 := hhd
            refine rk ⟨[(0, lV (l.map d72)), (1, iV r25), (5, iV v5), (108, bV (decide ((r25 : Int) < 0)))], [], 1872⟩ ?_
            refine if_ (b := decide ((r25 : Int) < 0)) (fun hb28 => ?_) (fun hb28 => ?_)
            ·replace hb28 := of_decide_eq_true (hb28)
             refine sk ⟨[(4, iV (-1))], [], 1888⟩ ?_
             refine X.ret ?_
             exact ⟨trivial, _, _, ⟨(-1), ⟨(by first | omega | (have h2 := wgT_full (f := blM) (l := l) (i := v5) (by omega); omega)), (fun hM => by first | omega | (have h2 := wgT_full (f := blM) (l := l) (i := v5) (by omega); omega) | (have hq := hM _ _ (by omega) (by omega) (‹l[_]? = some _›); exfalso; (obtain ⟨m0, m1, m2, m3, m4, m5, m6, m7, m8, m9, m10, m11, m12, m13⟩ := hq; first | omega | (have h9 := u5 (upto_cast m12 (by omega) rfl); omega) | (have h9 := u4 (upto_cast m10 (by omega) rfl); omega) | (have h9 := u3 (upto_cast m9 (by omega) rfl); omega) | (have h9 := u2 (upto_cast m8 (by omega) rfl); omega) | (have h9 := u1 (upto_cast m6 (by omega) rfl); omega) | (exact ‹¬ _› (m11.trans (congrArg (fun n : Int => (Int.tmod n 3 == 0)) (by omega)))) | (exact ‹¬ _› (by rw [m3]; congr 2; omega)) | (exact ‹¬ _› (by rw [m13]; congr 2; omega)))))⟩, rfl, rfl⟩, mkr⟩
            ·replace hb28 := of_decide_eq_false (hb28)
             refine X.skip ?_
             refine X.seq (rs 2 ?_)
             refine CH.idx hτ (d72 x5) (rows := (l.map d72)) (n := v5) (sz := 14) (by kernel_rfl) (by kernel_rfl) (by first | omega | (simp; done) | (simp; omega)) (by rw [List.getElem?_map, hx5]; rfl) (by kernel_rfl) ?_
             refine go 3 ?_
             obtain ⟨r29, hr31, hf30⟩ := t_heldTxS x5.f6 r25 (by first | assumption | omega) (by omega)
             obtain ⟨⟨hhb1, hhb2, hhb3⟩, hhd⟩ := hr31
             refine ca hf30 Try.func23 ?_
             refine go 1 ?_
             refine ek ⟨[(0, lV (l.map d72)), (1, iV r29), (5, iV v5)], [], 2000⟩ ?_
             refine X.seq ?_
             refine X.seq ?_
             have t4 := hhb3
             have u4 := hhd
             refine rk ⟨[(0, lV (l.map d72)), (1, iV r29), (5, iV v5), (117, bV (decide ((r29 : Int) < 0)))], [], 2032⟩ ?_
             refine if_ (b := decide ((r29 : Int) < 0)) (fun hb32 => ?_) (fun hb32 => ?_)
             ·replace hb32 := of_decide_eq_true (hb32)
              refine sk ⟨[(4, iV (-1))], [], 2048⟩ ?_
              refine X.ret ?_
              exact ⟨trivial, _, _, ⟨(-1), ⟨(by first | omega | (have h2 := wgT_full (f := blM) (l := l) (i := v5) (by omega); omega)), (fun hM => by first | omega | (have h2 := wgT_full (f := blM) (l := l) (i := v5) (by omega); omega) | (have hq := hM _ _ (by omega) (by omega) (‹l[_]? = some _›); exfalso; (obtain ⟨m0, m1, m2, m3, m4, m5, m6, m7, m8, m9, m10, m11, m12, m13⟩ := hq; first | omega | (have h9 := u5 (upto_cast m12 (by omega) rfl); omega) | (have h9 := u4 (upto_cast m10 (by omega) rfl); omega) | (have h9 := u3 (upto_cast m9 (by omega) rfl); omega) | (have h9 := u2 (upto_cast m8 (by omega) rfl); omega) | (have h9 := u1 (upto_cast m6 (by omega) rfl); omega) | (exact ‹¬ _› (m11.trans (congrArg (fun n : Int => (Int.tmod n 3 == 0)) (by omega)))) | (exact ‹¬ _› (by rw [m3]; congr 2; omega)) | (exact ‹¬ _› (by rw [m13]; congr 2; omega)))))⟩, rfl, rfl⟩, mkr⟩
             ·replace hb32 := of_decide_eq_false (hb32)
              refine X.skip ?_
              refine X.seq ?_
              refine X.seq (rs 2 ?_)
              refine CH.idx hτ (d72 x5) (rows := (l.map d72)) (n := v5) (sz := 14) (by kernel_rfl) (by kernel_rfl) (by first | omega | (simp; done) | (simp; omega)) (by rw [List.getElem?_map, hx5]; rfl) (by kernel_rfl) ?_
              refine go 5 ?_
              have ft33 := tmod_lt r29 3 (by first | omega | (simp; done) | (simp; omega)) (by omega)
              have fe34 := Int.tmod_eq_emod_of_nonneg (a := r29) (b := 3) (by first | omega | (simp; done) | (simp; omega))
              refine CH.eqB (t := 4) (ng := true) (a := x5.f7) (b := ((Int.tmod r29 3) == 0)) (by kernel_rfl) (by kernel_rfl) Try.underlying4 ?_
              refine ek ⟨[(0, lV (l.map d72)), (1, iV r29), (5, iV v5), (126, bV (!(x5.f7 == ((Int.tmod r29 3) == 0))))], [], 2176⟩ ?_
              refine if_ (b := !(x5.f7 == ((Int.tmod r29 3) == 0))) (fun hb35 => ?_) (fun hb35 => ?_)
              ·replace hb35 := beq_eq_false_iff_ne.1 (bnot_yes (hb35))
               refine sk ⟨[(4, iV (-1))], [], 2192⟩ ?_
               refine X.ret ?_
               exact ⟨trivial, _, _, ⟨(-1), ⟨(by first | omega | (have h2 := wgT_full (f := blM) (l := l) (i := v5) (by omega); omega)), (fun hM => by first | omega | (have h2 := wgT_full (f := blM) (l := l) (i := v5) (by omega); omega) | (have hq := hM _ _ (by omega) (by omega) (‹l[_]? = some _›); exfalso; (obtain ⟨m0, m1, m2, m3, m4, m5, m6, m7, m8, m9, m10, m11, m12, m13⟩ := hq; first | omega | (have h9 := u5 (upto_cast m12 (by omega) rfl); omega) | (have h9 := u4 (upto_cast m10 (by omega) rfl); omega) | (have h9 := u3 (upto_cast m9 (by omega) rfl); omega) | (have h9 := u2 (upto_cast m8 (by omega) rfl); omega) | (have h9 := u1 (upto_cast m6 (by omega) rfl); omega) | (exact ‹¬ _› (m11.trans (congrArg (fun n : Int => (Int.tmod n 3 == 0)) (by omega)))) | (exact ‹¬ _› (by rw [m3]; congr 2; omega)) | (exact ‹¬ _› (by rw [m13]; congr 2; omega)))))⟩, rfl, rfl⟩, mkr⟩
              ·replace hb35 := eq_of_beq (bnot_no (hb35))
               refine X.skip ?_
               refine X.seq ?_
               refine X.rk ⟨[(0, lV (l.map d72)), (1, iV (wrap64 (r29 + 1))), (5, iV v5)], [], 2224⟩ hτ hmix (by kernel_rfl) (by kernel_rfl) (s2 := ⟨[(0, lV (l.map d72)), (1, iV (r29 + 1)), (5, iV v5)], [], 2224⟩) (congrArg (fun z : Int => (⟨[(0, lV (l.map d72)), (1, iV z), (5, iV v5)], [], 2224⟩ : St)) (show wrap64 (r29 + 1) = (r29 + 1) by rw [w64 (n := (r29 + 1)) (by omega) (by omega)])) ?_
               refine X.seq (rs 2 ?_)
               refine CH.idx hτ (d72 x5) (rows := (l.map d72)) (n := v5) (sz := 14) (by kernel_rfl) (by kernel_rfl) (by first | omega | (simp; done) | (simp; omega)) (by rw [List.getElem?_map, hx5]; rfl) (by kernel_rfl) ?_
               refine go 3 ?_
               obtain ⟨r36, hr38, hf37⟩ := t_heldValS x5.f8 (r29 + 1) (by first | assumption | omega) (by first | assumption | omega)
               obtain ⟨⟨hhb1, hhb2, hhb3⟩, hhd⟩ := hr38
               refine ca hf37 Try.func85 ?_
               refine go 1 ?_
               refine ek ⟨[(0, lV (l.map d72)), (1, iV r36), (5, iV v5)], [], 2352⟩ ?_
               refine X.seq ?_
               refine X.seq ?_
               have t5 := hhb3
               have u5 := hhd
               refine rk ⟨[(0, lV (l.map d72)), (1, iV r36), (5, iV v5), (137, bV (decide ((r36 : Int) < 0)))], [], 2384⟩ ?_
               refine if_ (b := decide ((r36 : Int) < 0)) (fun hb39 => ?_) (fun hb39 => ?_)
               ·replace hb39 := of_decide_eq_true (hb39)
                refine sk ⟨[(4, iV (-1))], [], 2400⟩ ?_
                refine X.ret ?_
                exact ⟨trivial, _, _, ⟨(-1), ⟨(by first | omega | (have h2 := wgT_full (f := blM) (l := l) (i := v5) (by omega); omega)), (fun hM => by first | omega | (have h2 := wgT_full (f := blM) (l := l) (i := v5) (by omega); omega) | (have hq := hM _ _ (by omega) (by omega) (‹l[_]? = some _›); exfalso; (obtain ⟨m0, m1, m2, m3, m4, m5, m6, m7, m8, m9, m10, m11, m12, m13⟩ := hq; first | omega | (have h9 := u5 (upto_cast m12 (by omega) rfl); omega) | (have h9 := u4 (upto_cast m10 (by omega) rfl); omega) | (have h9 := u3 (upto_cast m9 (by omega) rfl); omega) | (have h9 := u2 (upto_cast m8 (by omega) rfl); omega) | (have h9 := u1 (upto_cast m6 (by omega) rfl); omega) | (exact ‹¬ _› (m11.trans (congrArg (fun n : Int => (Int.tmod n 3 == 0)) (by omega)))) | (exact ‹¬ _› (by rw [m3]; congr 2; omega)) | (exact ‹¬ _› (by rw [m13]; congr 2; omega)))))⟩, rfl, rfl⟩, mkr⟩
               ·replace hb39 := of_decide_eq_false (hb39)
                refine X.skip ?_
                refine X.seq ?_
                refine X.seq (rs 2 ?_)
                refine CH.idx hτ (d72 x5) (rows := (l.map d72)) (n := v5) (sz := 14) (by kernel_rfl) (by kernel_rfl) (by first | omega | (simp; done) | (simp; omega)) (by rw [List.getElem?_map, hx5]; rfl) (by kernel_rfl) ?_
                refine go 3 ?_
                obtain ⟨r40, hr42, hf41⟩ := l_markText r36 (by omega)
                replace hr42 := hr42.symm; subst hr42
                refine ca hf41 Try.func58 ?_
                refine go 1 ?_
                refine ek ⟨[(0, lV (l.map d72)), (1, iV r36), (5, iV v5), (145, bV (!(x5.f9.toList == (mt r36).toList)))], [], 2512⟩ ?_
                refine if_ (b := !(x5.f9.toList == (mt r36).toList)) (fun hb44 => ?_) (fun hb44 => ?_)
                ·replace hb44 := beq_no (bnot_yes (hb44))
                 refine sk ⟨[(4, iV (-1))], [], 2528⟩ ?_
                 refine X.ret ?_
                 exact ⟨trivial, _, _, ⟨(-1), ⟨(by first | omega | (have h2 := wgT_full (f := blM) (l := l) (i := v5) (by omega); omega)), (fun hM => by first | omega | (have h2 := wgT_full (f := blM) (l := l) (i := v5) (by omega); omega) | (have hq := hM _ _ (by omega) (by omega) (‹l[_]? = some _›); exfalso; (obtain ⟨m0, m1, m2, m3, m4, m5, m6, m7, m8, m9, m10, m11, m12, m13⟩ := hq; first | omega | (have h9 := u5 (upto_cast m12 (by omega) rfl); omega) | (have h9 := u4 (upto_cast m10 (by omega) rfl); omega) | (have h9 := u3 (upto_cast m9 (by omega) rfl); omega) | (have h9 := u2 (upto_cast m8 (by omega) rfl); omega) | (have h9 := u1 (upto_cast m6 (by omega) rfl); omega) | (exact ‹¬ _› (m11.trans (congrArg (fun n : Int => (Int.tmod n 3 == 0)) (by omega)))) | (exact ‹¬ _› (by rw [m3]; congr 2; omega)) | (exact ‹¬ _› (by rw [m13]; congr 2; omega)))))⟩, rfl, rfl⟩, mkr⟩
                ·replace hb44 := beq_yes (bnot_no (hb44))
                 refine X.skip ?_
                 refine X.rk ⟨[(0, lV (l.map d72)), (1, iV (wrap64 (r36 + 1))), (5, iV v5)], [], 2560⟩ hτ hmix (by kernel_rfl) (by kernel_rfl) (s2 := ⟨[(0, lV (l.map d72)), (1, iV (r36 + 1)), (5, iV v5)], [], 2560⟩) (congrArg (fun z : Int => (⟨[(0, lV (l.map d72)), (1, iV z), (5, iV v5)], [], 2560⟩ : St)) (show wrap64 (r36 + 1) = (r36 + 1) by rw [w64 (n := (r36 + 1)) (by omega) (by omega)])) ?_
                 refine X.rk ⟨[(0, lV (l.map d72)), (1, iV (r36 + 1)), (5, iV (wrap64 (v5 + 1)))], [], 2608⟩ hτ hmix (by kernel_rfl) (by kernel_rfl) (s2 := ⟨[(0, lV (l.map d72)), (1, iV (r36 + 1)), (5, iV (v5 + 1))], [], 2608⟩) (congrArg (fun z : Int => (⟨[(0, lV (l.map d72)), (1, iV (r36 + 1)), (5, iV z)], [], 2608⟩ : St)) (show wrap64 (v5 + 1) = (v5 + 1) by rw [w64 (n := (v5 + 1)) (by omega) (by omega)])) ?_
                 refine ⟨⟨((r36 + 1), (v5 + 1)), ⟨by first | omega | (dsimp only; omega), by first | omega | (dsimp only; omega), (by have z1 := t1 (by first | omega | (dsimp only; omega)); have z2 := t2 (by first | omega | (dsimp only; omega)); have z3 := t3 (by first | omega | (dsimp only; omega)); have z4 := t4 (by first | omega | (dsimp only; omega)); have z5 := t5 (by first | omega | (dsimp only; omega)); (try dsimp only); omega)⟩⟩, by first | exact rfl | omega | (dsimp only; omega) | (simp only [List.length_append, List.length_cons, List.length_nil, List.length_set]; omega) | (simp; done) | (simp; omega), Wk.mk' [] (by kernel_rfl) (by kernel_rfl) (by kernel_rfl)⟩
  ·replace hb4 := of_decide_eq_false (hb4)
   refine X.exit ?_
   refine sk ⟨[(4, iV v1)], [], 192⟩ ?_
   refine X.ret ?_
   exact ⟨trivial, _, _, ⟨v1, ⟨(by first | omega | (have h2 := wgT_full (f := blM) (l := l) (i := v5) (by omega); omega)), (fun hM => by first | omega | (have h2 := wgT_full (f := blM) (l := l) (i := v5) (by omega); omega) | (have hq := hM _ _ (by omega) (by omega) (‹l[_]? = some _›); exfalso; (obtain ⟨m0, m1, m2, m3, m4, m5, m6, m7, m8, m9, m10, m11, m12, m13⟩ := hq; first | omega | (have h9 := u5 (upto_cast m12 (by omega) rfl); omega) | (have h9 := u4 (upto_cast m10 (by omega) rfl); omega) | (have h9 := u3 (upto_cast m9 (by omega) rfl); omega) | (have h9 := u2 (upto_cast m8 (by omega) rfl); omega) | (have h9 := u1 (upto_cast m6 (by omega) rfl); omega) | (exact ‹¬ _› (m11.trans (congrArg (fun n : Int => (Int.tmod n 3 == 0)) (by omega)))) | (exact ‹¬ _› (by rw [m3]; congr 2; omega)) | (exact ‹¬ _› (by rw [m13]; congr 2; omega)))))⟩, rfl, rfl⟩, mkr⟩
 obtain ⟨_, _, ⟨r0, h1_, rfl, rfl⟩, hf⟩ := key
 exact ⟨r0, h1_, hf⟩

theorem t_eqBlockS (l : List S72) (m : List S72) (he : l = m) (hS : SmL l) : ∃ r0 : Bool, (r0 = true) ∧ Fn Try.prog 30 [lV (l.map d72), lV (m.map d72)] (lookH []) (bV r0) (lookH []) := by
 have key : ∃ x' h', ((fun x' h' => ∃ r0 : Bool, (r0 = true) ∧ x' = bV r0 ∧ h' = [])) x' h' ∧ Fn Try.prog 30 [lV (l.map d72), lV (m.map d72)] (lookH []) x' (lookH h') := by
  refine Fn.bodyX (N := 27) hτ Try.func30 rfl rfl rfl rfl ?_
  refine sk ⟨[(0, lV (l.map d72)), (1, lV (m.map d72))], [], 80⟩ ?_
  refine X.seq ?_
  refine X.seq ?_
  have hSm : SmL m := he ▸ hS
  have hll := hS.1
  have hml := hSm.1
  have el1 : (l.map d72).length = l.length := List.length_map ..
  have el2 : (m.map d72).length = m.length := List.length_map ..
  refine rk ⟨[(0, lV (l.map d72)), (1, lV (m.map d72)), (10, bV (((l.map d72).length : Int) != ((m.map d72).length : Int)))], [], 160⟩ ?_
  refine if_ (b := (((l.map d72).length : Int) != ((m.map d72).length : Int))) (fun hb3 => ?_) (fun hb3 => ?_)
  ·replace hb3 := bne_iff_ne.1 (hb3)
   refine sk ⟨[(4, bV false)], [], 176⟩ ?_
   refine X.ret ?_
   exact ⟨trivial, _, _, ⟨false, (by first | exact rfl | exact (by subst he; exact absurd rfl ‹_›) | exact (by subst he; have hxy := (‹l[_]? = some _› : l[_]? = some _); simp_all [sameB_self])), rfl, rfl⟩, mkr⟩
  ·replace hb3 := bne_eq_false_iff_eq.1 (hb3)
   refine X.skip ?_
   refine X.seq ?_
   refine sk ⟨[(0, lV (l.map d72)), (1, lV (m.map d72)), (5, iV 0)], [], 176⟩ ?_
   refine X.block ?_
   -- 4: v5 : Int
   refine X.loop (σ := { g : Int // (fun (v5 : Int) => 0 ≤ v5 ∧ v5 ≤ l.length) g }) (fun g => (fun (v5 : Int) => ⟨[(0, lV (l.map d72)), (1, lV (m.map d72)), (5, iV v5)], [], 176⟩) g.1) (fun g => (fun (v5 : Int) => (l.length - v5).toNat) g.1) ⟨0, ⟨by first | omega | (dsimp only; omega), by first | omega | (dsimp only; omega)⟩⟩ (Wk.less (by kernel_rfl)) (fun g => ?_)
   obtain ⟨v5, hg5⟩ := g
   have hg5 : 0 ≤ v5 ∧ v5 ≤ l.length := hg5
   obtain ⟨_, _⟩ := hg5
   refine X.seq ?_
   refine sk ⟨[(0, lV (l.map d72)), (1, lV (m.map d72)), (5, iV v5), (14, bV (decide ((v5 : Int) < ((l.map d72).length : Int))))], [], 240⟩ ?_
   refine if_ (b := decide ((v5 : Int) < ((l.map d72).length : Int))) (fun hb6 => ?_) (fun hb6 => ?_)
   ·replace hb6 := of_decide_eq_true (hb6)
    refine X.skip ?_
    refine X.seq ?_
    refine X.block ?_
    refine X.seq (rs 2 ?_)
    obtain ⟨x7, hx7⟩ : ∃ x, l[Int.toNat v5]? = some x := ⟨_, List.getElem?_eq_getElem (by first | omega | (simp; done) | (simp; omega))⟩
    refine CH.idx hτ (d72 x7) (rows := (l.map d72)) (n := v5) (sz := 14) (by kernel_rfl) (by kernel_rfl) (by first | omega | (simp; done) | (simp; omega)) (by rw [List.getElem?_map, hx7]; rfl) (by kernel_rfl) ?_
    refine go 3 ?_
    obtain ⟨x8, hx8⟩ : ∃ x, m[Int.toNat v5]? = some x := ⟨_, List.getElem?_eq_getElem (by first | omega | (simp; done) | (simp; omega))⟩
    refine CH.idx hτ (d72 x8) (rows := (m.map d72)) (n := v5) (sz := 14) (by kernel_rfl) (by kernel_rfl) (by first | omega | (simp; done) | (simp; omega)) (by rw [List.getElem?_map, hx8]; rfl) (by kernel_rfl) ?_
    refine go 1 ?_
    obtain ⟨r9, hr11, hf10⟩ := t_eqBlock x7 x8 (by exact all_at hS.2 ‹l[_]? = some _›) (by exact all_at hSm.2 ‹m[_]? = some _›)
    replace hr11 := hr11.symm; subst hr11
    refine ca hf10 Try.func31 ?_
    refine go 1 ?_
    refine ek ⟨[(0, lV (l.map d72)), (1, lV (m.map d72)), (5, iV v5), (26, bV (!(sameB x7 x8)))], [], 400⟩ ?_
    refine if_ (b := !(sameB x7 x8)) (fun hb13 => ?_) (fun hb13 => ?_)
    ·replace hb13 := bnot_yes (hb13)
     refine sk ⟨[(4, bV false)], [], 416⟩ ?_
     refine X.ret ?_
     exact ⟨trivial, _, _, ⟨false, (by first | exact rfl | exact (by subst he; exact absurd rfl ‹_›) | exact (by subst he; have hxy := (‹l[_]? = some _› : l[_]? = some _); simp_all [sameB_self])), rfl, rfl⟩, mkr⟩
    ·replace hb13 := bnot_no (hb13)
     refine X.skip ?_
     refine X.rk ⟨[(0, lV (l.map d72)), (1, lV (m.map d72)), (5, iV (wrap64 (v5 + 1)))], [], 448⟩ hτ hmix (by kernel_rfl) (by kernel_rfl) (s2 := ⟨[(0, lV (l.map d72)), (1, lV (m.map d72)), (5, iV (v5 + 1))], [], 448⟩) (congrArg (fun z : Int => (⟨[(0, lV (l.map d72)), (1, lV (m.map d72)), (5, iV z)], [], 448⟩ : St)) (show wrap64 (v5 + 1) = (v5 + 1) by rw [w64 (n := (v5 + 1)) (by omega) (by omega)])) ?_
     refine ⟨⟨(v5 + 1), ⟨by first | omega | (dsimp only; omega), by first | omega | (dsimp only; omega)⟩⟩, by first | exact rfl | omega | (dsimp only; omega) | (simp only [List.length_append, List.length_cons, List.length_nil, List.length_set]; omega) | (simp; done) | (simp; omega), Wk.mk' [] (by kernel_rfl) (by kernel_rfl) (by kernel_rfl)⟩
   ·replace hb6 := of_decide_eq_false (hb6)
    refine X.exit ?_
    refine sk ⟨[(4, bV true)], [], 256⟩ ?_
    refine X.ret ?_
    exact ⟨trivial, _, _, ⟨true, (by first | exact rfl | exact (by subst he; exact absurd rfl ‹_›) | exact (by subst he; have hxy := (‹l[_]? = some _› : l[_]? = some _); simp_all [sameB_self])), rfl, rfl⟩, mkr⟩
 obtain ⟨_, _, ⟨r0, h1_, rfl, rfl⟩, hf⟩ := key
 exact ⟨r0, h1_, hf⟩

theorem l_FnExactAddTo (l : List S61) (x : S61) (hwl : l.length ≤ maxLen ∧ ∀ y ∈ l, w61 y) (hwb : w61 x) : ∃ r0 : Bool, (r0 = true) ∧ Fn Try.prog 5 [lV (l.map d61), .e (.agg (cD (d61 x)))] (lookH []) (bV r0) (lookH []) := by
 have key : ∃ x' h', ((fun x' h' => ∃ r0 : Bool, (r0 = true) ∧ x' = bV r0 ∧ h' = [])) x' h' ∧ Fn Try.prog 5 [lV (l.map d61), .e (.agg (cD (d61 x)))] (lookH []) x' (lookH h') := by
  refine Fn.bodyX (N := 119) hτ Try.func5 rfl rfl rfl rfl ?_
  refine sk ⟨[(0, lV (l.map d61)), (3, .pt 64 0 0)], [(64, some (.box (cD (d61 x))))], 96⟩ ?_
  refine sk ⟨[(0, lV (l.map d61)), (3, .pt 64 0 0), (5, iV 1048576)], [(64, some (.box (cD (d61 x))))], 112⟩ ?_
  refine X.seq (rs 2 ?_)
  obtain ⟨r1, hr3, hf2⟩ := l_szBlockS l 1048576 (by assumption) (by first | omega | assumption)
  obtain ⟨hz1, hz0, hz2⟩ := hr3
  refine ca hf2 Try.func24 ?_
  refine go 1 ?_
  refine ek ⟨[(0, lV (l.map d61)), (3, .pt 64 0 0), (5, iV r1)], [(64, some (.box (cD (d61 x))))], 176⟩ ?_
  refine X.seq ?_
  refine X.seq ?_
  have hzl := hz2
  refine rk ⟨[(0, lV (l.map d61)), (3, .pt 64 0 0), (5, iV r1), (21, bV (decide ((r1 : Int) < 0)))], [(64, some (.box (cD (d61 x))))], 208⟩ ?_
  refine if_ (b := decide ((r1 : Int) < 0)) (fun hb4 => ?_) (fun hb4 => ?_)
  ·replace hb4 := of_decide_eq_true (hb4)
   refine sk ⟨[(4, bV true)], [], 224⟩ ?_
   refine X.ret ?_
   exact ⟨trivial, _, _, ⟨true, (by first | exact rfl | exact (by exfalso; omega) | exact (tf (allEq_self _) ‹_›) | exact (tf (sameB_self _) ‹_›) | exact (absurd rfl ‹_›) | exact (absurd hao.symm ‹_›) | exact (by simp_all)), rfl, rfl⟩, mkr⟩
  ·replace hb4 := of_decide_eq_false (hb4)
   refine X.skip ?_
   refine X.seq (rs 2 ?_)
   obtain ⟨r5, hr7, hf6⟩ := l_szBlock x r1 (by assumption) (by first | omega | assumption)
   obtain ⟨hz1, hz0, hz2⟩ := hr7
   refine ca hf6 Try.func25 ?_
   refine go 1 ?_
   refine ek ⟨[(0, lV (l.map d61)), (3, .pt 64 0 0), (5, iV r5)], [(64, some (.box (cD (d61 x))))], 272⟩ ?_
   refine X.seq ?_
   refine sk ⟨[(0, lV (l.map d61)), (3, .pt 64 0 0), (26, bV (decide ((r5 : Int) < 0)))], [(64, some (.box (cD (d61 x))))], 304⟩ ?_
   refine if_ (b := decide ((r5 : Int) < 0)) (fun hb8 => ?_) (fun hb8 => ?_)
   ·replace hb8 := of_decide_eq_true (hb8)
    refine sk ⟨[(4, bV true)], [], 320⟩ ?_
    refine X.ret ?_
    exact ⟨trivial, _, _, ⟨true, (by first | exact rfl | exact (by exfalso; omega) | exact (tf (allEq_self _) ‹_›) | exact (tf (sameB_self _) ‹_›) | exact (absurd rfl ‹_›) | exact (absurd hao.symm ‹_›) | exact (by simp_all)), rfl, rfl⟩, mkr⟩
   ·replace hb8 := of_decide_eq_false (hb8)
    refine X.skip ?_
    refine X.seq ?_
    obtain ⟨hB, hBl⟩ := hz2 (by omega)
    obtain ⟨hL, hLl⟩ := hzl (by omega)
    have hLn : (l.map toBlock).length = l.length := List.length_map ..
    have hw1 := addR_w (f := blM) (l.map toBlock) (toBlock x)
    have hw2 := wgT_mul (f := blM) (g := blC) (c := 5) blM_le (l.map toBlock)
    have hw3 := blM_le (toBlock x)
    have hw4 := addR_len (l.map toBlock) (toBlock x)
    have hsm := addR_sm hL hB (by omega)
    refine rs 1 ?_
    obtain ⟨r9, hr11, hf10⟩ := l_toBlockS l (by assumption)
    replace hr11 := hr11.symm; subst hr11
    have hlm : (l.map toBlock).length = l.length := List.length_map ..
    refine ca hf10 Try.func27 ?_
    refine go 1 ?_
    obtain ⟨r13, hr15, hf14⟩ := l_toBlock x (by assumption)
    replace hr15 := hr15.symm; subst hr15
    refine ca hf14 Try.func28 ?_
    obtain ⟨r17, r18, hr20, hf19⟩ := s_AddTo (l.map toBlock) ((toBlock x)) (by assumption) (by assumption) (by omega)
    obtain ⟨hal, has, hat, hao, hay, han⟩ := hr20
    refine ca hf19 Try.func26 ?_
    refine go 5 ?_
    refine ek ⟨[(0, lV (l.map d61)), (3, .pt 64 0 0), (6, rV 368), (7, bV r18)], [(64, some (.box (cD (d61 x)))), (368, some (.row 14 72 (r17.map d72) false true))], 464⟩ ?_
    refine X.seq (rs 1 ?_)
    obtain ⟨r21, hr23, hf22⟩ := l_toBlockS l (by assumption)
    replace hr23 := hr23.symm; subst hr23
    have hlm : (l.map toBlock).length = l.length := List.length_map ..
    refine ca hf22 Try.func27 ?_
    refine go 1 ?_
    refine ek ⟨[(0, lV (l.map d61)), (3, .pt 64 0 0), (6, rV 368), (7, bV r18), (8, rV 480)], [(64, some (.box (cD (d61 x)))), (368, some (.row 14 72 (r17.map d72) false true)), (480, some (.nst 14 72 [(6, 1, 9), (8, 1, 9), (9, 1, 3), (10, 5, 35), (12, 2, 165)] ((l.map toBlock).map d72) []))], 512⟩ ?_
    refine X.seq (rs 1 ?_)
    obtain ⟨r25, hr27, hf26⟩ := l_toBlock x (by assumption)
    replace hr27 := hr27.symm; subst hr27
    refine ca hf26 Try.func28 ?_
    refine go 2 ?_
    refine ek ⟨[(0, lV (l.map d61)), (3, .pt 64 0 0), (6, rV 368), (7, bV r18), (8, rV 480), (9, .pt 544 0 0)], [(64, some (.box (cD (d61 x)))), (368, some (.row 14 72 (r17.map d72) false true)), (480, some (.nst 14 72 [(6, 1, 9), (8, 1, 9), (9, 1, 3), (10, 5, 35), (12, 2, 165)] ((l.map toBlock).map d72) [])), (528, some (.row 1 9 (((((toBlock x)).f4).f2).map dS) false true)), (529, some (.row 1 9 (((((toBlock x)).f5).f1).map dS) false true)), (530, some (.row 1 3 (((((toBlock x)).f5).f2).map dI) false true)), (531, some (.row 5 35 ((((toBlock x)).f6).map d35) false true)), (532, some (.row 2 165 ((((toBlock x)).f8).map d165) false true)), (544, some (.box [.d (.v (.int .i64 (((toBlock x)).f0))), .d (.v (.int .i64 (((toBlock x)).f1))), .d (.v (.int .i64 (((toBlock x)).f2))), .d (.v (.string (((toBlock x)).f3))), .d (.v (.int .i64 ((((toBlock x)).f4).f0))), .d (.v (.int .i64 ((((toBlock x)).f4).f1))), .ref 528, .d (.v (.int .i64 ((((toBlock x)).f5).f0))), .ref 529, .ref 530, .ref 531, .d (.v (.bool (((toBlock x)).f7))), .ref 532, .d (.v (.string (((toBlock x)).f9)))]))], 576⟩ ?_
    refine X.seq (rs 2 ?_)
    obtain ⟨r29, r30, hr32, hf31⟩ := i_AddToN (l.map toBlock) ((toBlock x)) (by assumption) (by assumption) (by omega)
    obtain ⟨e33, e34⟩ := hr32
    replace e33 := e33.symm; subst e33
    replace e34 := e34.symm; subst e34
    refine ca hf31 Try.func29 ?_
    refine go 5 ?_
    refine ek ⟨[(0, lV (l.map d61)), (3, .pt 64 0 0), (6, rV 368), (7, bV r18), (8, rV 480), (9, .pt 544 0 0), (10, rV 608), (11, bV (addOk (l.map toBlock) ((toBlock x))))], [(64, some (.box (cD (d61 x)))), (368, some (.row 14 72 (r17.map d72) false true)), (480, some (.nst 14 72 [(6, 1, 9), (8, 1, 9), (9, 1, 3), (10, 5, 35), (12, 2, 165)] ((l.map toBlock).map d72) [])), (528, some (.row 1 9 (((((toBlock x)).f4).f2).map dS) false true)), (529, some (.row 1 9 (((((toBlock x)).f5).f1).map dS) false true)), (530, some (.row 1 3 (((((toBlock x)).f5).f2).map dI) false true)), (531, some (.row 5 35 ((((toBlock x)).f6).map d35) false true)), (532, some (.row 2 165 ((((toBlock x)).f8).map d165) false true)), (544, some (.box [.d (.v (.int .i64 (((toBlock x)).f0))), .d (.v (.int .i64 (((toBlock x)).f1))), .d (.v (.int .i64 (((toBlock x)).f2))), .d (.v (.string (((toBlock x)).f3))), .d (.v (.int .i64 ((((toBlock x)).f4).f0))), .d (.v (.int .i64 ((((toBlock x)).f4).f1))), .ref 528, .d (.v (.int .i64 ((((toBlock x)).f5).f0))), .ref 529, .ref 530, .ref 531, .d (.v (.bool (((toBlock x)).f7))), .ref 532, .d (.v (.string (((toBlock x)).f9)))])), (608, some (.nst 14 72 [(6, 1, 9), (8, 1, 9), (9, 1, 3), (10, 5, 35), (12, 2, 165)] ((addR (l.map toBlock) ((toBlock x))).map d72) []))], 704⟩ ?_
    refine X.seq ?_
    refine X.seq (rs 2 ?_)
    obtain ⟨r35, hr37, hf36⟩ := t_eqBlockS (addR (l.map toBlock) ((toBlock x))) r17 (by first | rfl | exact addR_eq hao hay han) (by first | assumption | exact hsm)
    replace hr37 := hr37.symm; subst hr37
    refine ca hf36 Try.func30 ?_
    refine go 4 ?_
    refine CH.eqB (t := 4) (ng := true) (a := (addOk (l.map toBlock) ((toBlock x)))) (b := r18) (by kernel_rfl) (by kernel_rfl) Try.underlying4 ?_
    refine go 1 ?_
    refine ek ⟨[(0, lV (l.map d61)), (3, .pt 64 0 0), (6, rV 368), (7, bV r18), (8, rV 480), (9, .pt 544 0 0), (10, rV 608), (11, bV (addOk (l.map toBlock) ((toBlock x)))), (53, bV (!((addOk (l.map toBlock) ((toBlock x))) == r18)))], [(64, some (.box (cD (d61 x)))), (368, some (.row 14 72 (r17.map d72) false true)), (480, some (.nst 14 72 [(6, 1, 9), (8, 1, 9), (9, 1, 3), (10, 5, 35), (12, 2, 165)] ((l.map toBlock).map d72) [])), (528, some (.row 1 9 (((((toBlock x)).f4).f2).map dS) false true)), (529, some (.row 1 9 (((((toBlock x)).f5).f1).map dS) false true)), (530, some (.row 1 3 (((((toBlock x)).f5).f2).map dI) false true)), (531, some (.row 5 35 ((((toBlock x)).f6).map d35) false true)), (532, some (.row 2 165 ((((toBlock x)).f8).map d165) false true)), (544, some (.box [.d (.v (.int .i64 (((toBlock x)).f0))), .d (.v (.int .i64 (((toBlock x)).f1))), .d (.v (.int .i64 (((toBlock x)).f2))), .d (.v (.string (((toBlock x)).f3))), .d (.v (.int .i64 ((((toBlock x)).f4).f0))), .d (.v (.int .i64 ((((toBlock x)).f4).f1))), .ref 528, .d (.v (.int .i64 ((((toBlock x)).f5).f0))), .ref 529, .ref 530, .ref 531, .d (.v (.bool (((toBlock x)).f7))), .ref 532, .d (.v (.string (((toBlock x)).f9)))])), (608, some (.nst 14 72 [(6, 1, 9), (8, 1, 9), (9, 1, 3), (10, 5, 35), (12, 2, 165)] ((addR (l.map toBlock) ((toBlock x))).map d72) []))], 848⟩ ?_
    refine if_ (b := !((addOk (l.map toBlock) ((toBlock x))) == r18)) (fun hb39 => ?_) (fun hb39 => ?_)
    ·replace hb39 := beq_eq_false_iff_ne.1 (bnot_yes (hb39))
     refine sk ⟨[(4, bV false)], [], 864⟩ ?_
     refine X.ret ?_
     exact ⟨trivial, _, _, ⟨false, (by first | exact rfl | exact (by exfalso; omega) | exact (tf (allEq_self _) ‹_›) | exact (tf (sameB_self _) ‹_›) | exact (absurd rfl ‹_›) | exact (absurd hao.symm ‹_›) | exact (by simp_all)), rfl, rfl⟩, mkr⟩
    ·replace hb39 := eq_of_beq (bnot_no (hb39))
     refine X.skip ?_
     refine X.seq ?_
     refine X.seq (rs 2 ?_)
     obtain ⟨r40, hr42, hf41⟩ := l_toBlockS l (by assumption)
     replace hr42 := hr42.symm; subst hr42
     have hlm : (l.map toBlock).length = l.length := List.length_map ..
     refine ca hf41 Try.func27 ?_
     obtain ⟨r44, hr46, hf45⟩ := t_eqBlockS (l.map toBlock) (l.map toBlock) (by first | rfl | exact addR_eq hao hay han) (by first | assumption | exact hsm)
     replace hr46 := hr46.symm; subst hr46
     refine ca hf45 Try.func30 ?_
     refine go 1 ?_
     refine ek ⟨[(0, lV (l.map d61)), (3, .pt 64 0 0), (6, rV 368), (7, bV r18), (8, rV 480), (9, .pt 544 0 0), (10, rV 608), (11, bV (addOk (l.map toBlock) ((toBlock x)))), (58, bV false)], [(64, some (.box (cD (d61 x)))), (368, some (.row 14 72 (r17.map d72) false true)), (480, some (.nst 14 72 [(6, 1, 9), (8, 1, 9), (9, 1, 3), (10, 5, 35), (12, 2, 165)] ((l.map toBlock).map d72) [])), (528, some (.row 1 9 (((((toBlock x)).f4).f2).map dS) false true)), (529, some (.row 1 9 (((((toBlock x)).f5).f1).map dS) false true)), (530, some (.row 1 3 (((((toBlock x)).f5).f2).map dI) false true)), (531, some (.row 5 35 ((((toBlock x)).f6).map d35) false true)), (532, some (.row 2 165 ((((toBlock x)).f8).map d165) false true)), (544, some (.box [.d (.v (.int .i64 (((toBlock x)).f0))), .d (.v (.int .i64 (((toBlock x)).f1))), .d (.v (.int .i64 (((toBlock x)).f2))), .d (.v (.string (((toBlock x)).f3))), .d (.v (.int .i64 ((((toBlock x)).f4).f0))), .d (.v (.int .i64 ((((toBlock x)).f4).f1))), .ref 528, .d (.v (.int .i64 ((((toBlock x)).f5).f0))), .ref 529, .ref 530, .ref 531, .d (.v (.bool (((toBlock x)).f7))), .ref 532, .d (.v (.string (((toBlock x)).f9)))])), (608, some (.nst 14 72 [(6, 1, 9), (8, 1, 9), (9, 1, 3), (10, 5, 35), (12, 2, 165)] ((addR (l.map toBlock) ((toBlock x))).map d72) []))], 928⟩ ?_
     refine X.ifF (by kernel_rfl) ?_
     refine X.skip ?_
     refine X.seq ?_
     refine X.seq (rs 2 ?_)
     obtain ⟨r48, hr50, hf49⟩ := l_toBlock x (by assumption)
     replace hr50 := hr50.symm; subst hr50
     refine ca hf49 Try.func28 ?_
     obtain ⟨r52, hr54, hf53⟩ := t_eqBlock ((toBlock x)) ((toBlock x)) (by assumption) (by assumption)
     replace hr54 := hr54.symm; subst hr54
     refine ca hf53 Try.func31 ?_
     refine go 1 ?_
     refine ek ⟨[(0, lV (l.map d61)), (3, .pt 64 0 0), (6, rV 368), (7, bV r18), (8, rV 480), (9, .pt 544 0 0), (10, rV 608), (11, bV (addOk (l.map toBlock) ((toBlock x)))), (63, bV (!(sameB ((toBlock x)) ((toBlock x)))))], [(64, some (.box (cD (d61 x)))), (368, some (.row 14 72 (r17.map d72) false true)), (480, some (.nst 14 72 [(6, 1, 9), (8, 1, 9), (9, 1, 3), (10, 5, 35), (12, 2, 165)] ((l.map toBlock).map d72) [])), (528, some (.row 1 9 (((((toBlock x)).f4).f2).map dS) false true)), (529, some (.row 1 9 (((((toBlock x)).f5).f1).map dS) false true)), (530, some (.row 1 3 (((((toBlock x)).f5).f2).map dI) false true)), (531, some (.row 5 35 ((((toBlock x)).f6).map d35) false true)), (532, some (.row 2 165 ((((toBlock x)).f8).map d165) false true)), (544, some (.box [.d (.v (.int .i64 (((toBlock x)).f0))), .d (.v (.int .i64 (((toBlock x)).f1))), .d (.v (.int .i64 (((toBlock x)).f2))), .d (.v (.string (((toBlock x)).f3))), .d (.v (.int .i64 ((((toBlock x)).f4).f0))), .d (.v (.int .i64 ((((toBlock x)).f4).f1))), .ref 528, .d (.v (.int .i64 ((((toBlock x)).f5).f0))), .ref 529, .ref 530, .ref 531, .d (.v (.bool (((toBlock x)).f7))), .ref 532, .d (.v (.string (((toBlock x)).f9)))])), (608, some (.nst 14 72 [(6, 1, 9), (8, 1, 9), (9, 1, 3), (10, 5, 35), (12, 2, 165)] ((addR (l.map toBlock) ((toBlock x))).map d72) []))], 1008⟩ ?_
     refine if_ (b := !(sameB ((toBlock x)) ((toBlock x)))) (fun hb56 => ?_) (fun hb56 => ?_)
     ·replace hb56 := bnot_yes (hb56)
      refine sk ⟨[(4, bV false)], [], 1024⟩ ?_
      refine X.ret ?_
      exact ⟨trivial, _, _, ⟨false, (by first | exact rfl | exact (by exfalso; omega) | exact (tf (allEq_self _) ‹_›) | exact (tf (sameB_self _) ‹_›) | exact (absurd rfl ‹_›) | exact (absurd hao.symm ‹_›) | exact (by simp_all)), rfl, rfl⟩, mkr⟩
     ·replace hb56 := bnot_no (hb56)
      refine X.skip ?_
      refine sk ⟨[(0, lV (l.map d61)), (3, .pt 64 0 0), (6, rV 368), (7, bV r18), (8, rV 480), (9, .pt 544 0 0), (10, rV 608), (11, bV (addOk (l.map toBlock) ((toBlock x)))), (12, iV 1)], [(64, some (.box (cD (d61 x)))), (368, some (.row 14 72 (r17.map d72) false true)), (480, some (.nst 14 72 [(6, 1, 9), (8, 1, 9), (9, 1, 3), (10, 5, 35), (12, 2, 165)] ((l.map toBlock).map d72) [])), (528, some (.row 1 9 (((((toBlock x)).f4).f2).map dS) false true)), (529, some (.row 1 9 (((((toBlock x)).f5).f1).map dS) false true)), (530, some (.row 1 3 (((((toBlock x)).f5).f2).map dI) false true)), (531, some (.row 5 35 ((((toBlock x)).f6).map d35) false true)), (532, some (.row 2 165 ((((toBlock x)).f8).map d165) false true)), (544, some (.box [.d (.v (.int .i64 (((toBlock x)).f0))), .d (.v (.int .i64 (((toBlock x)).f1))), .d (.v (.int .i64 (((toBlock x)).f2))), .d (.v (.string (((toBlock x)).f3))), .d (.v (.int .i64 ((((toBlock x)).f4).f0))), .d (.v (.int .i64 ((((toBlock x)).f4).f1))), .ref 528, .d (.v (.int .i64 ((((toBlock x)).f5).f0))), .ref 529, .ref 530, .ref 531, .d (.v (.bool (((toBlock x)).f7))), .ref 532, .d (.v (.string (((toBlock x)).f9)))])), (608, some (.nst 14 72 [(6, 1, 9), (8, 1, 9), (9, 1, 3), (10, 5, 35), (12, 2, 165)] ((addR (l.map toBlock) ((toBlock x))).map d72) []))], 1024⟩ ?_
      refine X.seq (rs 2 ?_)
      obtain ⟨r57, q58, hr60, hf59⟩ := t_markBlockS (l.map toBlock) 1 (by assumption) (by first | assumption | omega)
      obtain ⟨hal, hat, hak, ham⟩ := hr60
      refine CH.callG hf59 Try.func32 ⟨rfl, rfl⟩ [(480, 0)] (by kernel_rfl) (by kernel_rfl) (by kernel_rfl) (nb := true) (fun _ => (back_consN 14 72 [(6, 1, 9), (8, 1, 9), (9, 1, 3), (10, 5, 35), (12, 2, 165)] ((l.map toBlock).map d72) 72 [(6, 1, 9), (8, 1, 9), (9, 1, 3), (10, 5, 35), (12, 2, 165)] (q58.map d72) (by kernel_rfl) (by kernel_rfl) (by first | (simp; done) | (simp only [List.length_map]; first | assumption | omega) | (simp; omega)) back_nil)) (by kernel_rfl) ?_
      refine go 1 ?_
      refine ek ⟨[(0, lV (l.map d61)), (3, .pt 64 0 0), (6, rV 368), (7, bV r18), (9, .pt 544 0 0), (10, rV 608), (11, bV (addOk (l.map toBlock) ((toBlock x)))), (12, iV r57)], [(64, some (.box (cD (d61 x)))), (368, some (.row 14 72 (r17.map d72) false true)), (528, some (.row 1 9 (((((toBlock x)).f4).f2).map dS) false true)), (529, some (.row 1 9 (((((toBlock x)).f5).f1).map dS) false true)), (530, some (.row 1 3 (((((toBlock x)).f5).f2).map dI) false true)), (531, some (.row 5 35 ((((toBlock x)).f6).map d35) false true)), (532, some (.row 2 165 ((((toBlock x)).f8).map d165) false true)), (544, some (.box [.d (.v (.int .i64 (((toBlock x)).f0))), .d (.v (.int .i64 (((toBlock x)).f1))), .d (.v (.int .i64 (((toBlock x)).f2))), .d (.v (.string (((toBlock x)).f3))), .d (.v (.int .i64 ((((toBlock x)).f4).f0))), .d (.v (.int .i64 ((((toBlock x)).f4).f1))), .ref 528, .d (.v (.int .i64 ((((toBlock x)).f5).f0))), .ref 529, .ref 530, .ref 531, .d (.v (.bool (((toBlock x)).f7))), .ref 532, .d (.v (.string (((toBlock x)).f9)))])), (608, some (.nst 14 72 [(6, 1, 9), (8, 1, 9), (9, 1, 3), (10, 5, 35), (12, 2, 165)] ((addR (l.map toBlock) ((toBlock x))).map d72) []))], 1088⟩ ?_
      refine X.seq (rs 2 ?_)
      obtain ⟨r61, q62, q63, q64, q65, q66, hr68, hf67⟩ := t_markBlock ((toBlock x)) r57 (by assumption) (by omega)
      obtain ⟨hl0, hl1, hl2, hl3, hl4, hmk, hm0, hm1, hm2, hm3, hm4⟩ := hr68
      refine CH.callG hf67 Try.func33 ⟨rfl, rfl⟩ [(528, 0), (529, 1), (530, 2), (531, 3), (532, 4)] (by kernel_rfl) (by kernel_rfl) (by kernel_rfl) (nb := true) (fun _ => (back_cons 1 9 (((((toBlock x)).f4).f2).map dS) true 9 (q62.map dS) (by kernel_rfl) (by kernel_rfl) (by first | (simp; done) | (simp; omega)) (back_cons 1 9 (((((toBlock x)).f5).f1).map dS) true 9 (q63.map dS) (by kernel_rfl) (by kernel_rfl) (by first | (simp; done) | (simp; omega)) (back_cons 1 3 (((((toBlock x)).f5).f2).map dI) true 3 (q64.map dI) (by kernel_rfl) (by kernel_rfl) (by first | (simp; done) | (simp; omega)) (back_cons 5 35 ((((toBlock x)).f6).map d35) true 35 (q65.map d35) (by kernel_rfl) (by kernel_rfl) (by first | (simp; done) | (simp; omega)) (back_cons 2 165 ((((toBlock x)).f8).map d165) true 165 (q66.map d165) (by kernel_rfl) (by kernel_rfl) (by first | (simp; done) | (simp; omega)) back_nil)))))) (by kernel_rfl) ?_
      refine go 1 ?_
      refine ek ⟨[(0, lV (l.map d61)), (3, .pt 64 0 0), (6, rV 368), (7, bV r18), (10, rV 608), (11, bV (addOk (l.map toBlock) ((toBlock x)))), (12, iV r61)], [(64, some (.box (cD (d61 x)))), (368, some (.row 14 72 (r17.map d72) false true)), (608, some (.nst 14 72 [(6, 1, 9), (8, 1, 9), (9, 1, 3), (10, 5, 35), (12, 2, 165)] ((addR (l.map toBlock) ((toBlock x))).map d72) []))], 1152⟩ ?_
      refine X.seq ?_
      refine X.seq (rs 3 ?_)
      rcases Bool.eq_false_or_eq_true (decide ((r61 : Int) < 0)) with hb69 | hb69
      ·refine aT 71 hb69 ?_
       refine aT 72 hb69 ?_
       replace hb69 := of_decide_eq_true (hb69)
       refine go 10 ?_
       refine ek ⟨[(0, lV (l.map d61)), (3, .pt 64 0 0), (6, rV 368), (7, bV r18), (10, rV 608), (82, bV true)], [(64, some (.box (cD (d61 x)))), (368, some (.row 14 72 (r17.map d72) false true)), (608, some (.nst 14 72 [(6, 1, 9), (8, 1, 9), (9, 1, 3), (10, 5, 35), (12, 2, 165)] ((addR (l.map toBlock) ((toBlock x))).map d72) []))], 1360⟩ ?_
       refine X.ifT (by kernel_rfl) ?_
       refine sk ⟨[(4, bV false)], [], 1376⟩ ?_
       refine X.ret ?_
       exact ⟨trivial, _, _, ⟨false, (by first | exact rfl | exact (by exfalso; omega) | exact (tf (allEq_self _) ‹_›) | exact (tf (sameB_self _) ‹_›) | exact (absurd rfl ‹_›) | exact (absurd hao.symm ‹_›) | exact (by simp_all)), rfl, rfl⟩, mkr⟩
      ·refine aF 71 hb69 ?_
       refine aF 72 hb69 ?_
       replace hb69 := of_decide_eq_false (hb69)
       refine go 2 ?_
       obtain ⟨r70, hr72, hf71⟩ := t_eqBlockS (addR (l.map toBlock) ((toBlock x))) r17 (by first | rfl | exact addR_eq hao hay han) (by first | assumption | exact hsm)
       replace hr72 := hr72.symm; subst hr72
       refine ca hf71 Try.func30 ?_
       refine go 5 ?_
       refine CH.eqB (t := 4) (ng := true) (a := (addOk (l.map toBlock) ((toBlock x)))) (b := r18) (by kernel_rfl) (by kernel_rfl) Try.underlying4 ?_
       refine go 1 ?_
       refine ek ⟨[(0, lV (l.map d61)), (3, .pt 64 0 0), (6, rV 368), (7, bV r18), (10, rV 608), (82, bV (!((addOk (l.map toBlock) ((toBlock x))) == r18)))], [(64, some (.box (cD (d61 x)))), (368, some (.row 14 72 (r17.map d72) false true)), (608, some (.nst 14 72 [(6, 1, 9), (8, 1, 9), (9, 1, 3), (10, 5, 35), (12, 2, 165)] ((addR (l.map toBlock) ((toBlock x))).map d72) []))], 1360⟩ ?_
       refine if_ (b := !((addOk (l.map toBlock) ((toBlock x))) == r18)) (fun hb74 => ?_) (fun hb74 => ?_)
       ·replace hb74 := beq_eq_false_iff_ne.1 (bnot_yes (hb74))
        refine sk ⟨[(4, bV false)], [], 1376⟩ ?_
        refine X.ret ?_
        exact ⟨trivial, _, _, ⟨false, (by first | exact rfl | exact (by exfalso; omega) | exact (tf (allEq_self _) ‹_›) | exact (tf (sameB_self _) ‹_›) | exact (absurd rfl ‹_›) | exact (absurd hao.symm ‹_›) | exact (by simp_all)), rfl, rfl⟩, mkr⟩
       ·replace hb74 := eq_of_beq (bnot_no (hb74))
        refine X.skip ?_
        refine sk ⟨[(0, lV (l.map d61)), (3, .pt 64 0 0), (6, rV 368), (7, bV r18), (10, rV 608), (13, iV 1)], [(64, some (.box (cD (d61 x)))), (368, some (.row 14 72 (r17.map d72) false true)), (608, some (.nst 14 72 [(6, 1, 9), (8, 1, 9), (9, 1, 3), (10, 5, 35), (12, 2, 165)] ((addR (l.map toBlock) ((toBlock x))).map d72) []))], 1376⟩ ?_
        refine X.seq (rs 2 ?_)
        obtain ⟨r75, q76, hr78, hf77⟩ := t_markBlockS (addR (l.map toBlock) ((toBlock x))) 1 (by assumption) (by first | assumption | omega)
        obtain ⟨hal, hat, hak, ham⟩ := hr78
        refine CH.callG hf77 Try.func32 ⟨rfl, rfl⟩ [(608, 0)] (by kernel_rfl) (by kernel_rfl) (by kernel_rfl) (nb := true) (fun _ => (back_consN 14 72 [(6, 1, 9), (8, 1, 9), (9, 1, 3), (10, 5, 35), (12, 2, 165)] ((addR (l.map toBlock) ((toBlock x))).map d72) 72 [(6, 1, 9), (8, 1, 9), (9, 1, 3), (10, 5, 35), (12, 2, 165)] (q76.map d72) (by kernel_rfl) (by kernel_rfl) (by first | (simp; done) | (simp only [List.length_map]; first | assumption | omega) | (simp; omega)) back_nil)) (by kernel_rfl) ?_
        refine go 1 ?_
        refine ek ⟨[(0, lV (l.map d61)), (3, .pt 64 0 0), (6, rV 368), (7, bV r18), (10, rV 608), (13, iV r75)], [(64, some (.box (cD (d61 x)))), (368, some (.row 14 72 (r17.map d72) false true)), (608, some (.nst 14 72 [(6, 1, 9), (8, 1, 9), (9, 1, 3), (10, 5, 35), (12, 2, 165)] (q76.map d72) []))], 1440⟩ ?_
        refine sk ⟨[(0, lV (l.map d61)), (3, .pt 64 0 0), (6, rV 368), (7, bV r18), (10, rV 608), (13, iV r75), (14, iV 1)], [(64, some (.box (cD (d61 x)))), (368, some (.row 14 72 (r17.map d72) false true)), (608, some (.nst 14 72 [(6, 1, 9), (8, 1, 9), (9, 1, 3), (10, 5, 35), (12, 2, 165)] (q76.map d72) []))], 1456⟩ ?_
        refine X.seq (rs 2 ?_)
        obtain ⟨r79, hr81, hf80⟩ := t_heldBlockS q76 1 (by first | assumption | omega) (by first | assumption | omega)
        obtain ⟨hHb, hHd⟩ := hr81
        refine ca hf80 Try.func34 ?_
        refine go 1 ?_
        refine ek ⟨[(0, lV (l.map d61)), (3, .pt 64 0 0), (6, rV 368), (7, bV r18), (10, rV 608), (13, iV r75), (14, iV r79)], [(64, some (.box (cD (d61 x)))), (368, some (.row 14 72 (r17.map d72) false true)), (608, some (.nst 14 72 [(6, 1, 9), (8, 1, 9), (9, 1, 3), (10, 5, 35), (12, 2, 165)] (q76.map d72) []))], 1520⟩ ?_
        refine X.seq ?_
        refine X.seq ?_
        have hh := hHd (by rw [hal]; exact ham)
        refine rk ⟨[(0, lV (l.map d61)), (3, .pt 64 0 0), (6, rV 368), (7, bV r18), (10, rV 608), (13, iV r75), (14, iV r79), (90, bV (decide ((r79 : Int) < 0)))], [(64, some (.box (cD (d61 x)))), (368, some (.row 14 72 (r17.map d72) false true)), (608, some (.nst 14 72 [(6, 1, 9), (8, 1, 9), (9, 1, 3), (10, 5, 35), (12, 2, 165)] (q76.map d72) []))], 1552⟩ ?_
        refine if_ (b := decide ((r79 : Int) < 0)) (fun hb82 => ?_) (fun hb82 => ?_)
        ·replace hb82 := of_decide_eq_true (hb82)
         refine sk ⟨[(4, bV false)], [], 1568⟩ ?_
         refine X.ret ?_
         exact ⟨trivial, _, _, ⟨false, (by first | exact rfl | exact (by exfalso; omega) | exact (tf (allEq_self _) ‹_›) | exact (tf (sameB_self _) ‹_›) | exact (absurd rfl ‹_›) | exact (absurd hao.symm ‹_›) | exact (by simp_all)), rfl, rfl⟩, mkr⟩
        ·replace hb82 := of_decide_eq_false (hb82)
         refine X.skip ?_
         refine X.seq ?_
         refine sk ⟨[(0, lV (l.map d61)), (3, .pt 64 0 0), (6, rV 368), (7, bV r18), (10, rV 608), (13, iV r75), (93, bV (r79 != r75))], [(64, some (.box (cD (d61 x)))), (368, some (.row 14 72 (r17.map d72) false true)), (608, some (.nst 14 72 [(6, 1, 9), (8, 1, 9), (9, 1, 3), (10, 5, 35), (12, 2, 165)] (q76.map d72) []))], 1600⟩ ?_
         refine if_ (b := (r79 != r75)) (fun hb83 => ?_) (fun hb83 => ?_)
         ·replace hb83 := bne_iff_ne.1 (hb83)
          refine sk ⟨[(4, bV false)], [], 1616⟩ ?_
          refine X.ret ?_
          exact ⟨trivial, _, _, ⟨false, (by first | exact rfl | exact (by exfalso; omega) | exact (tf (allEq_self _) ‹_›) | exact (tf (sameB_self _) ‹_›) | exact (absurd rfl ‹_›) | exact (absurd hao.symm ‹_›) | exact (by simp_all)), rfl, rfl⟩, mkr⟩
         ·replace hb83 := bne_eq_false_iff_eq.1 (hb83)
          refine X.skip ?_
          refine X.seq (rs 1 ?_)
          obtain ⟨r84, hr86, hf85⟩ := l_toBlockS l (by assumption)
          replace hr86 := hr86.symm; subst hr86
          have hlm : (l.map toBlock).length = l.length := List.length_map ..
          refine ca hf85 Try.func27 ?_
          refine go 1 ?_
          obtain ⟨r88, hr90, hf89⟩ := l_toBlock x (by assumption)
          replace hr90 := hr90.symm; subst hr90
          refine ca hf89 Try.func28 ?_
          obtain ⟨r92, r93, hr95, hf94⟩ := i_AddToN (l.map toBlock) ((toBlock x)) (by assumption) (by assumption) (by omega)
          obtain ⟨e96, e97⟩ := hr95
          replace e96 := e96.symm; subst e96
          replace e97 := e97.symm; subst e97
          refine ca hf94 Try.func29 ?_
          refine go 5 ?_
          refine ek ⟨[(6, rV 368), (7, bV r18), (10, rV 608), (13, iV r75), (15, rV 1664), (16, bV (addOk (l.map toBlock) ((toBlock x))))], [(368, some (.row 14 72 (r17.map d72) false true)), (608, some (.nst 14 72 [(6, 1, 9), (8, 1, 9), (9, 1, 3), (10, 5, 35), (12, 2, 165)] (q76.map d72) [])), (1664, some (.nst 14 72 [(6, 1, 9), (8, 1, 9), (9, 1, 3), (10, 5, 35), (12, 2, 165)] ((addR (l.map toBlock) ((toBlock x))).map d72) []))], 1760⟩ ?_
          refine X.seq ?_
          refine X.seq (rs 2 ?_)
          obtain ⟨r98, hr100, hf99⟩ := t_eqBlockS (addR (l.map toBlock) ((toBlock x))) r17 (by first | rfl | exact addR_eq hao hay han) (by first | assumption | exact hsm)
          replace hr100 := hr100.symm; subst hr100
          refine ca hf99 Try.func30 ?_
          refine go 4 ?_
          refine CH.eqB (t := 4) (ng := true) (a := (addOk (l.map toBlock) ((toBlock x)))) (b := r18) (by kernel_rfl) (by kernel_rfl) Try.underlying4 ?_
          refine go 1 ?_
          refine ek ⟨[(10, rV 608), (13, iV r75), (110, bV (!((addOk (l.map toBlock) ((toBlock x))) == r18)))], [(608, some (.nst 14 72 [(6, 1, 9), (8, 1, 9), (9, 1, 3), (10, 5, 35), (12, 2, 165)] (q76.map d72) []))], 1904⟩ ?_
          refine if_ (b := !((addOk (l.map toBlock) ((toBlock x))) == r18)) (fun hb102 => ?_) (fun hb102 => ?_)
          ·replace hb102 := beq_eq_false_iff_ne.1 (bnot_yes (hb102))
           refine sk ⟨[(4, bV false)], [], 1920⟩ ?_
           refine X.ret ?_
           exact ⟨trivial, _, _, ⟨false, (by first | exact rfl | exact (by exfalso; omega) | exact (tf (allEq_self _) ‹_›) | exact (tf (sameB_self _) ‹_›) | exact (absurd rfl ‹_›) | exact (absurd hao.symm ‹_›) | exact (by simp_all)), rfl, rfl⟩, mkr⟩
          ·replace hb102 := eq_of_beq (bnot_no (hb102))
           refine X.skip ?_
           refine sk ⟨[(10, rV 608), (13, iV r75), (14, iV 1)], [(608, some (.nst 14 72 [(6, 1, 9), (8, 1, 9), (9, 1, 3), (10, 5, 35), (12, 2, 165)] (q76.map d72) []))], 1920⟩ ?_
           refine X.seq (rs 2 ?_)
           obtain ⟨r103, hr105, hf104⟩ := t_heldBlockS q76 1 (by first | assumption | omega) (by first | assumption | omega)
           obtain ⟨hHb, hHd⟩ := hr105
           refine ca hf104 Try.func34 ?_
           refine go 1 ?_
           refine ek ⟨[(13, iV r75), (14, iV r103)], [], 1984⟩ ?_
           refine X.seq ?_
           refine X.seq ?_
           have hh := hHd (by rw [hal]; exact ham)
           refine rk ⟨[(13, iV r75), (14, iV r103), (115, bV (decide ((r103 : Int) < 0)))], [], 2016⟩ ?_
           refine if_ (b := decide ((r103 : Int) < 0)) (fun hb106 => ?_) (fun hb106 => ?_)
           ·replace hb106 := of_decide_eq_true (hb106)
            refine sk ⟨[(4, bV false)], [], 2032⟩ ?_
            refine X.ret ?_
            exact ⟨trivial, _, _, ⟨false, (by first | exact rfl | exact (by exfalso; omega) | exact (tf (allEq_self _) ‹_›) | exact (tf (sameB_self _) ‹_›) | exact (absurd rfl ‹_›) | exact (absurd hao.symm ‹_›) | exact (by simp_all)), rfl, rfl⟩, mkr⟩
           ·replace hb106 := of_decide_eq_false (hb106)
            refine X.skip ?_
            refine X.seq ?_
            refine sk ⟨[(118, bV (r103 != r75))], [], 2064⟩ ?_
            refine if_ (b := (r103 != r75)) (fun hb107 => ?_) (fun hb107 => ?_)
            ·replace hb107 := bne_iff_ne.1 (hb107)
             refine sk ⟨[(4, bV false)], [], 2080⟩ ?_
             refine X.ret ?_
             exact ⟨trivial, _, _, ⟨false, (by first | exact rfl | exact (by exfalso; omega) | exact (tf (allEq_self _) ‹_›) | exact (tf (sameB_self _) ‹_›) | exact (absurd rfl ‹_›) | exact (absurd hao.symm ‹_›) | exact (by simp_all)), rfl, rfl⟩, mkr⟩
            ·replace hb107 := bne_eq_false_iff_eq.1 (hb107)
             refine X.skip ?_
             refine sk ⟨[(4, bV true)], [], 2080⟩ ?_
             refine X.ret ?_
             exact ⟨trivial, _, _, ⟨true, (by first | exact rfl | exact (by exfalso; omega) | exact (tf (allEq_self _) ‹_›) | exact (tf (sameB_self _) ‹_›) | exact (absurd rfl ‹_›) | exact (absurd hao.symm ‹_›) | exact (by simp_all)), rfl, rfl⟩, mkr⟩
 obtain ⟨_, _, ⟨r0, h1_, rfl, rfl⟩, hf⟩ := key
 exact ⟨r0, h1_, hf⟩
end Go.Proofs.Ytggmeldoecnkaaa.Av
