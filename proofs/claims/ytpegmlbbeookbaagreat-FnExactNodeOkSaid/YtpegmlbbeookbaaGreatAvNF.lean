/-
What functions of the program come to, walked one by one.
Conditions: none beside those that each theorem names.
-/
import Derived.Test.YtpegmlbbeookbaaGreatAvNE
set_option linter.unusedVariables false
set_option linter.unusedSimpArgs false
namespace Go.Proofs.YtpegmlbbeookbaaGreat.Av
open Go.RowKit
set_option maxRecDepth 20000
set_option maxHeartbeats 4000000
theorem l_toStringS (l : List ByteArray) (hl : SmN l) : ∃ r0 : List ByteArray, (r0 = l) ∧ Fn Tryz.prog 75 [lV (l.map dS)] (lookH []) (.e (.c (.f (.sl (r0.map dS))))) (lookH []) := by
 have key : ∃ x' h', ((fun x' h' => ∃ r0 : List ByteArray, (r0 = l) ∧ x' = .e (.c (.f (.sl (r0.map dS)))) ∧ h' = [])) x' h' ∧ Fn Tryz.prog 75 [lV (l.map dS)] (lookH []) x' (lookH h') := by
  refine Fn.bodyX (N := 22) hτ Tryz.func75 rfl rfl rfl rfl ?_
  refine sk ⟨[(0, lV (l.map dS))], [], 80⟩ ?_
  refine X.seq ?_
  have hll : l.length ≤ 2000000 := hl.1
  have el1 : (l.map dS).length = l.length := List.length_map ..
  refine rs 2 ?_
  refine CH.mks hτ (n := (l.map dS).length) (bys := 16) (by kernel_rfl) (by kernel_rfl) (by first | omega | (simp only [List.length_map]; omega) | (simp; omega)) (by first | omega | (simp only [List.length_map]; omega) | (simp; omega)) (by kernel_rfl) ?_
  refine go 1 ?_
  refine CH.endk ⟨[(0, lV (l.map dS)), (3, rV 112)], [(112, some (.row 1 9 (List.replicate ((l.map dS).length) (dS (⟨#[]⟩ : ByteArray))) false true))], 144⟩ (by kernel_rfl) (by kernel_rfl) (s2 := ⟨[(0, lV (l.map dS)), (3, rV 112)], [(112, some (.row 1 9 ((List.replicate ((l.map dS).length) (⟨#[]⟩ : ByteArray)).map dS) false true))], 144⟩) (congrArg (fun z : List (List D) => (⟨[(0, lV (l.map dS)), (3, rV 112)], [(112, some (.row 1 9 z false true))], 144⟩ : St)) (show List.replicate ((l.map dS).length) (dS (⟨#[]⟩ : ByteArray)) = ((List.replicate ((l.map dS).length) (⟨#[]⟩ : ByteArray)).map dS) from List.map_replicate.symm)) ?_
  refine X.seq ?_
  refine sk ⟨[(0, lV (l.map dS)), (3, rV 112), (4, iV 0)], [(112, some (.row 1 9 ((List.replicate ((l.map dS).length) (⟨#[]⟩ : ByteArray)).map dS) false true))], 160⟩ ?_
  refine X.block ?_
  -- 3: Lv3 : List ByteArray, v4 : Int
  refine X.loop (σ := { g : (List ByteArray) × Int // (fun (Lv3 : List ByteArray) (v4 : Int) => 0 ≤ v4 ∧ v4 ≤ l.length ∧ Lv3.length = l.length ∧ ∀ (j : Nat) (x : ByteArray), (j : Int) < v4 → l[j]? = some x → Lv3[j]? = some (id x)) g.1 g.2 }) (fun g => (fun (Lv3 : List ByteArray) (v4 : Int) => ⟨[(0, lV (l.map dS)), (3, rV 112), (4, iV v4)], [(112, some (.row 1 9 (Lv3.map dS) false true))], 160⟩) g.1.1 g.1.2) (fun g => (fun (Lv3 : List ByteArray) (v4 : Int) => (l.length - v4).toNat) g.1.1 g.1.2) ⟨((List.replicate ((l.map dS).length) (⟨#[]⟩ : ByteArray)), 0), ⟨by first | omega | (dsimp only; omega), by first | omega | (dsimp only; omega), by simp, fun j x h => by first | omega | (dsimp only; omega)⟩⟩ (Wk.less (by kernel_rfl)) (fun g => ?_)
  obtain ⟨⟨Lv3, v4⟩, hg3⟩ := g
  have hg3 : 0 ≤ v4 ∧ v4 ≤ l.length ∧ Lv3.length = l.length ∧ ∀ (j : Nat) (x : ByteArray), (j : Int) < v4 → l[j]? = some x → Lv3[j]? = some (id x) := hg3
  obtain ⟨_, _, hL, hA⟩ := hg3
  refine X.seq ?_
  refine sk ⟨[(0, lV (l.map dS)), (3, rV 112), (4, iV v4), (11, bV (decide ((v4 : Int) < ((l.map dS).length : Int))))], [(112, some (.row 1 9 (Lv3.map dS) false true))], 224⟩ ?_
  refine if_ (b := decide ((v4 : Int) < ((l.map dS).length : Int))) (fun hb4 => ?_) (fun hb4 => ?_)
  ·replace hb4 := of_decide_eq_true (hb4)
   refine X.skip ?_
   refine X.seq ?_
   refine X.block ?_
   refine rs 4 ?_
   obtain ⟨x5, hx5⟩ : ∃ x, l[Int.toNat v4]? = some x := ⟨_, List.getElem?_eq_getElem (by first | omega | (simp; done) | (simp; omega))⟩
   refine CH.idx hτ (dS x5) (rows := (l.map dS)) (n := v4) (sz := 1) (by kernel_rfl) (by kernel_rfl) (by first | omega | (simp; done) | (simp; omega)) (by rw [List.getElem?_map, hx5]; rfl) (by kernel_rfl) ?_
   refine go 1 ?_
   refine CH.idxR hτ (rows := (Lv3.map dS)) (n := v4) (b := 112) (by kernel_rfl) (by kernel_rfl) (by first | omega | (simp; done) | (simp; omega)) (by simp only [List.length_map, List.length_set]; first | omega | (simp; done) | (simp; omega)) (by kernel_rfl) ?_
   obtain ⟨x6, hx6⟩ : ∃ x, Lv3[Int.toNat v4]? = some x := ⟨_, List.getElem?_eq_getElem (by first | omega | (simp; done) | (simp; omega))⟩
   refine CH.row hτ (dS x6) (by kernel_rfl) (by kernel_rfl) (by rw [List.getElem?_map, hx6]; rfl) (by kernel_rfl) ?_
   refine CH.endk ⟨[(0, lV (l.map dS)), (3, rV 112), (4, iV v4)], [(112, some (.row 1 9 ((Lv3.map dS).set (Int.toNat v4) (dS x5)) false true))], 352⟩ (by kernel_rfl) (by kernel_rfl) (s2 := ⟨[(0, lV (l.map dS)), (3, rV 112), (4, iV v4)], [(112, some (.row 1 9 ((Lv3.set (Int.toNat v4) x5).map dS) false true))], 352⟩) (congrArg (fun z : List (List D) => (⟨[(0, lV (l.map dS)), (3, rV 112), (4, iV v4)], [(112, some (.row 1 9 z false true))], 352⟩ : St)) (show ((Lv3.map dS).set (Int.toNat v4) (dS x5)) = ((Lv3.set (Int.toNat v4) x5).map dS) from List.map_set.symm)) ?_
   refine X.rk ⟨[(0, lV (l.map dS)), (3, rV 112), (4, iV (wrap64 (v4 + 1)))], [(112, some (.row 1 9 ((Lv3.set (Int.toNat v4) x5).map dS) false true))], 400⟩ hτ hmix (by kernel_rfl) (by kernel_rfl) (s2 := ⟨[(0, lV (l.map dS)), (3, rV 112), (4, iV (v4 + 1))], [(112, some (.row 1 9 ((Lv3.set (Int.toNat v4) x5).map dS) false true))], 400⟩) (congrArg (fun z : Int => (⟨[(0, lV (l.map dS)), (3, rV 112), (4, iV z)], [(112, some (.row 1 9 ((Lv3.set (Int.toNat v4) x5).map dS) false true))], 400⟩ : St)) (show wrap64 (v4 + 1) = (v4 + 1) by rw [w64 (n := (v4 + 1)) (by omega) (by omega)])) ?_
   refine ⟨⟨((Lv3.set (Int.toNat v4) x5), (v4 + 1)), ⟨by first | omega | (dsimp only; omega), by first | omega | (dsimp only; omega), by simp; omega, ts_next (f := id) hA (by first | omega | (dsimp only; omega)) (by first | omega | (dsimp only; omega)) ‹_›⟩⟩, by first | exact rfl | omega | (dsimp only; omega) | (simp only [List.length_append, List.length_cons, List.length_nil, List.length_set]; omega) | (simp; done) | (simp; omega), Wk.mk' [(112, 112)] (by kernel_rfl) (by kernel_rfl) (by kernel_rfl)⟩
  ·replace hb4 := of_decide_eq_false (hb4)
   refine X.exit ?_
   refine sk ⟨[(2, rV 112)], [(112, some (.row 1 9 (Lv3.map dS) false true))], 256⟩ ?_
   refine X.ret ?_
   exact ⟨trivial, _, _, ⟨Lv3, ((ts_end (f := id) hA hL (by omega)).trans (List.map_id _)), rfl, rfl⟩, .inr ⟨⟨[(2, .e (.c (.f (.sl (Lv3.map dS)))))], [(112, some (.row 1 9 (Lv3.map dS) true true))], 256⟩, Wk.less (by kernel_rfl), Ret.mk' [] (by kernel_rfl) (by kernel_rfl) (by kernel_rfl)⟩⟩
 obtain ⟨_, _, ⟨r0, h1_, rfl, rfl⟩, hf⟩ := key
 exact ⟨r0, h1_, hf⟩

theorem l_toIntS (l : List Int) (hl : l.length ≤ 2000000) : ∃ r0 : List Int, (r0 = l) ∧ Fn Tryz.prog 34 [lV (l.map dI)] (lookH []) (.e (.c (.f (.sl (r0.map dI))))) (lookH []) := by
 have key : ∃ x' h', ((fun x' h' => ∃ r0 : List Int, (r0 = l) ∧ x' = .e (.c (.f (.sl (r0.map dI)))) ∧ h' = [])) x' h' ∧ Fn Tryz.prog 34 [lV (l.map dI)] (lookH []) x' (lookH h') := by
  refine Fn.bodyX (N := 22) hτ Tryz.func34 rfl rfl rfl rfl ?_
  refine sk ⟨[(0, lV (l.map dI))], [], 80⟩ ?_
  refine X.seq ?_
  have hll : l.length ≤ 2000000 := hl
  have el1 : (l.map dI).length = l.length := List.length_map ..
  refine rs 2 ?_
  refine CH.mks hτ (n := (l.map dI).length) (bys := 8) (by kernel_rfl) (by kernel_rfl) (by first | omega | (simp only [List.length_map]; omega) | (simp; omega)) (by first | omega | (simp only [List.length_map]; omega) | (simp; omega)) (by kernel_rfl) ?_
  refine go 1 ?_
  refine CH.endk ⟨[(0, lV (l.map dI)), (3, rV 112)], [(112, some (.row 1 3 (List.replicate ((l.map dI).length) (dI 0)) false true))], 144⟩ (by kernel_rfl) (by kernel_rfl) (s2 := ⟨[(0, lV (l.map dI)), (3, rV 112)], [(112, some (.row 1 3 ((List.replicate ((l.map dI).length) 0).map dI) false true))], 144⟩) (congrArg (fun z : List (List D) => (⟨[(0, lV (l.map dI)), (3, rV 112)], [(112, some (.row 1 3 z false true))], 144⟩ : St)) (show List.replicate ((l.map dI).length) (dI 0) = ((List.replicate ((l.map dI).length) 0).map dI) from List.map_replicate.symm)) ?_
  refine X.seq ?_
  refine sk ⟨[(0, lV (l.map dI)), (3, rV 112), (4, iV 0)], [(112, some (.row 1 3 ((List.replicate ((l.map dI).length) 0).map dI) false true))], 160⟩ ?_
  refine X.block ?_
  -- 3: Lv3 : List Int, v4 : Int
  refine X.loop (σ := { g : (List Int) × Int // (fun (Lv3 : List Int) (v4 : Int) => 0 ≤ v4 ∧ v4 ≤ l.length ∧ Lv3.length = l.length ∧ ∀ (j : Nat) (x : Int), (j : Int) < v4 → l[j]? = some x → Lv3[j]? = some (id x)) g.1 g.2 }) (fun g => (fun (Lv3 : List Int) (v4 : Int) => ⟨[(0, lV (l.map dI)), (3, rV 112), (4, iV v4)], [(112, some (.row 1 3 (Lv3.map dI) false true))], 160⟩) g.1.1 g.1.2) (fun g => (fun (Lv3 : List Int) (v4 : Int) => (l.length - v4).toNat) g.1.1 g.1.2) ⟨((List.replicate ((l.map dI).length) 0), 0), ⟨by first | omega | (dsimp only; omega), by first | omega | (dsimp only; omega), by simp, fun j x h => by first | omega | (dsimp only; omega)⟩⟩ (Wk.less (by kernel_rfl)) (fun g => ?_)
  obtain ⟨⟨Lv3, v4⟩, hg3⟩ := g
  have hg3 : 0 ≤ v4 ∧ v4 ≤ l.length ∧ Lv3.length = l.length ∧ ∀ (j : Nat) (x : Int), (j : Int) < v4 → l[j]? = some x → Lv3[j]? = some (id x) := hg3
  obtain ⟨_, _, hL, hA⟩ := hg3
  refine X.seq ?_
  refine sk ⟨[(0, lV (l.map dI)), (3, rV 112), (4, iV v4), (11, bV (decide ((v4 : Int) < ((l.map dI).length : Int))))], [(112, some (.row 1 3 (Lv3.map dI) false true))], 224⟩ ?_
  refine if_ (b := decide ((v4 : Int) < ((l.map dI).length : Int))) (fun hb4 => ?_) (fun hb4 => ?_)
  ·replace hb4 := of_decide_eq_true (hb4)
   refine X.skip ?_
   refine X.seq ?_
   refine X.block ?_
   refine rs 4 ?_
   obtain ⟨x5, hx5⟩ : ∃ x, l[Int.toNat v4]? = some x := ⟨_, List.getElem?_eq_getElem (by first | omega | (simp; done) | (simp; omega))⟩
   refine CH.idx hτ (dI x5) (rows := (l.map dI)) (n := v4) (sz := 1) (by kernel_rfl) (by kernel_rfl) (by first | omega | (simp; done) | (simp; omega)) (by rw [List.getElem?_map, hx5]; rfl) (by kernel_rfl) ?_
   refine go 1 ?_
   refine CH.idxR hτ (rows := (Lv3.map dI)) (n := v4) (b := 112) (by kernel_rfl) (by kernel_rfl) (by first | omega | (simp; done) | (simp; omega)) (by simp only [List.length_map, List.length_set]; first | omega | (simp; done) | (simp; omega)) (by kernel_rfl) ?_
   obtain ⟨x6, hx6⟩ : ∃ x, Lv3[Int.toNat v4]? = some x := ⟨_, List.getElem?_eq_getElem (by first | omega | (simp; done) | (simp; omega))⟩
   refine CH.row hτ (dI x6) (by kernel_rfl) (by kernel_rfl) (by rw [List.getElem?_map, hx6]; rfl) (by kernel_rfl) ?_
   refine CH.endk ⟨[(0, lV (l.map dI)), (3, rV 112), (4, iV v4)], [(112, some (.row 1 3 ((Lv3.map dI).set (Int.toNat v4) (dI x5)) false true))], 352⟩ (by kernel_rfl) (by kernel_rfl) (s2 := ⟨[(0, lV (l.map dI)), (3, rV 112), (4, iV v4)], [(112, some (.row 1 3 ((Lv3.set (Int.toNat v4) x5).map dI) false true))], 352⟩) (congrArg (fun z : List (List D) => (⟨[(0, lV (l.map dI)), (3, rV 112), (4, iV v4)], [(112, some (.row 1 3 z false true))], 352⟩ : St)) (show ((Lv3.map dI).set (Int.toNat v4) (dI x5)) = ((Lv3.set (Int.toNat v4) x5).map dI) from List.map_set.symm)) ?_
   refine X.rk ⟨[(0, lV (l.map dI)), (3, rV 112), (4, iV (wrap64 (v4 + 1)))], [(112, some (.row 1 3 ((Lv3.set (Int.toNat v4) x5).map dI) false true))], 400⟩ hτ hmix (by kernel_rfl) (by kernel_rfl) (s2 := ⟨[(0, lV (l.map dI)), (3, rV 112), (4, iV (v4 + 1))], [(112, some (.row 1 3 ((Lv3.set (Int.toNat v4) x5).map dI) false true))], 400⟩) (congrArg (fun z : Int => (⟨[(0, lV (l.map dI)), (3, rV 112), (4, iV z)], [(112, some (.row 1 3 ((Lv3.set (Int.toNat v4) x5).map dI) false true))], 400⟩ : St)) (show wrap64 (v4 + 1) = (v4 + 1) by rw [w64 (n := (v4 + 1)) (by omega) (by omega)])) ?_
   refine ⟨⟨((Lv3.set (Int.toNat v4) x5), (v4 + 1)), ⟨by first | omega | (dsimp only; omega), by first | omega | (dsimp only; omega), by simp; omega, ts_next (f := id) hA (by first | omega | (dsimp only; omega)) (by first | omega | (dsimp only; omega)) ‹_›⟩⟩, by first | exact rfl | omega | (dsimp only; omega) | (simp only [List.length_append, List.length_cons, List.length_nil, List.length_set]; omega) | (simp; done) | (simp; omega), Wk.mk' [(112, 112)] (by kernel_rfl) (by kernel_rfl) (by kernel_rfl)⟩
  ·replace hb4 := of_decide_eq_false (hb4)
   refine X.exit ?_
   refine sk ⟨[(2, rV 112)], [(112, some (.row 1 3 (Lv3.map dI) false true))], 256⟩ ?_
   refine X.ret ?_
   exact ⟨trivial, _, _, ⟨Lv3, ((ts_end (f := id) hA hL (by omega)).trans (List.map_id _)), rfl, rfl⟩, .inr ⟨⟨[(2, .e (.c (.f (.sl (Lv3.map dI)))))], [(112, some (.row 1 3 (Lv3.map dI) true true))], 256⟩, Wk.less (by kernel_rfl), Ret.mk' [] (by kernel_rfl) (by kernel_rfl) (by kernel_rfl)⟩⟩
 obtain ⟨_, _, ⟨r0, h1_, rfl, rfl⟩, hf⟩ := key
 exact ⟨r0, h1_, hf⟩

theorem l_eqStringS (l : List ByteArray) (m : List ByteArray) (hl : SmN l) (hm : SmN m) : ∃ r0 : Bool, (r0 = allEq l m) ∧ Fn Tryz.prog 94 [lV (l.map dS), lV (m.map dS)] (lookH []) (bV r0) (lookH []) := by
 have key : ∃ x' h', ((fun x' h' => ∃ r0 : Bool, (r0 = allEq l m) ∧ x' = bV r0 ∧ h' = [])) x' h' ∧ Fn Tryz.prog 94 [lV (l.map dS), lV (m.map dS)] (lookH []) x' (lookH h') := by
  refine Fn.bodyX (N := 26) hτ Tryz.func94 rfl rfl rfl rfl ?_
  refine sk ⟨[(0, lV (l.map dS)), (1, lV (m.map dS))], [], 80⟩ ?_
  refine X.seq ?_
  refine X.seq ?_
  have hll : l.length ≤ 2000000 := hl.1
  have hml : m.length ≤ 2000000 := hm.1
  have el1 : (l.map dS).length = l.length := List.length_map ..
  have el2 : (m.map dS).length = m.length := List.length_map ..
  refine rk ⟨[(0, lV (l.map dS)), (1, lV (m.map dS)), (10, bV (((l.map dS).length : Int) != ((m.map dS).length : Int)))], [], 160⟩ ?_
  refine if_ (b := (((l.map dS).length : Int) != ((m.map dS).length : Int))) (fun hb3 => ?_) (fun hb3 => ?_)
  ·replace hb3 := bne_iff_ne.1 (hb3)
   refine sk ⟨[(4, bV false)], [], 176⟩ ?_
   refine X.ret ?_
   exact ⟨trivial, _, _, ⟨false, (by first | exact fls (fun h => by have := congrArg List.length h; omega) | exact fls (eq_noS ‹_› ‹_› ‹_›) | exact tru (eq_all hA (by omega) (by omega))), rfl, rfl⟩, mkr⟩
  ·replace hb3 := bne_eq_false_iff_eq.1 (hb3)
   refine X.skip ?_
   refine X.seq ?_
   refine sk ⟨[(0, lV (l.map dS)), (1, lV (m.map dS)), (5, iV 0)], [], 176⟩ ?_
   refine X.block ?_
   -- 4: v5 : Int
   refine X.loop (σ := { g : Int // (fun (v5 : Int) => 0 ≤ v5 ∧ v5 ≤ l.length ∧ Upto (fun j x => m[j.toNat]? = some x) (fun n => l[n]?) v5) g }) (fun g => (fun (v5 : Int) => ⟨[(0, lV (l.map dS)), (1, lV (m.map dS)), (5, iV v5)], [], 176⟩) g.1) (fun g => (fun (v5 : Int) => (l.length - v5).toNat) g.1) ⟨0, ⟨by first | omega | (dsimp only; omega), by first | omega | (dsimp only; omega), upto_zero⟩⟩ (Wk.less (by kernel_rfl)) (fun g => ?_)
   obtain ⟨v5, hg5⟩ := g
   have hg5 : 0 ≤ v5 ∧ v5 ≤ l.length ∧ Upto (fun j x => m[j.toNat]? = some x) (fun n => l[n]?) v5 := hg5
   obtain ⟨_, _, hA⟩ := hg5
   refine X.seq ?_
   refine sk ⟨[(0, lV (l.map dS)), (1, lV (m.map dS)), (5, iV v5), (14, bV (decide ((v5 : Int) < ((l.map dS).length : Int))))], [], 240⟩ ?_
   refine if_ (b := decide ((v5 : Int) < ((l.map dS).length : Int))) (fun hb6 => ?_) (fun hb6 => ?_)
   ·replace hb6 := of_decide_eq_true (hb6)
    refine X.skip ?_
    refine X.seq ?_
    refine X.block ?_
    refine X.seq (rs 2 ?_)
    obtain ⟨x7, hx7⟩ : ∃ x, l[Int.toNat v5]? = some x := ⟨_, List.getElem?_eq_getElem (by first | omega | (simp; done) | (simp; omega))⟩
    refine CH.idx hτ (dS x7) (rows := (l.map dS)) (n := v5) (sz := 1) (by kernel_rfl) (by kernel_rfl) (by first | omega | (simp; done) | (simp; omega)) (by rw [List.getElem?_map, hx7]; rfl) (by kernel_rfl) ?_
    refine go 3 ?_
    obtain ⟨x8, hx8⟩ : ∃ x, m[Int.toNat v5]? = some x := ⟨_, List.getElem?_eq_getElem (by first | omega | (simp; done) | (simp; omega))⟩
    refine CH.idx hτ (dS x8) (rows := (m.map dS)) (n := v5) (sz := 1) (by kernel_rfl) (by kernel_rfl) (by first | omega | (simp; done) | (simp; omega)) (by rw [List.getElem?_map, hx8]; rfl) (by kernel_rfl) ?_
    refine go 2 ?_
    refine ek ⟨[(0, lV (l.map dS)), (1, lV (m.map dS)), (5, iV v5), (25, bV (!(x7.toList == x8.toList)))], [], 384⟩ ?_
    refine if_ (b := !(x7.toList == x8.toList)) (fun hb9 => ?_) (fun hb9 => ?_)
    ·replace hb9 := beq_no (bnot_yes (hb9))
     refine sk ⟨[(4, bV false)], [], 400⟩ ?_
     refine X.ret ?_
     exact ⟨trivial, _, _, ⟨false, (by first | exact fls (fun h => by have := congrArg List.length h; omega) | exact fls (eq_noS ‹_› ‹_› ‹_›) | exact tru (eq_all hA (by omega) (by omega))), rfl, rfl⟩, mkr⟩
    ·replace hb9 := beq_yes (bnot_no (hb9))
     refine X.skip ?_
     refine X.rk ⟨[(0, lV (l.map dS)), (1, lV (m.map dS)), (5, iV (wrap64 (v5 + 1)))], [], 432⟩ hτ hmix (by kernel_rfl) (by kernel_rfl) (s2 := ⟨[(0, lV (l.map dS)), (1, lV (m.map dS)), (5, iV (v5 + 1))], [], 432⟩) (congrArg (fun z : Int => (⟨[(0, lV (l.map dS)), (1, lV (m.map dS)), (5, iV z)], [], 432⟩ : St)) (show wrap64 (v5 + 1) = (v5 + 1) by rw [w64 (n := (v5 + 1)) (by omega) (by omega)])) ?_
     refine ⟨⟨(v5 + 1), ⟨by first | omega | (dsimp only; omega), by first | omega | (dsimp only; omega), upto_nx (by first | omega | (dsimp only; omega)) hA ‹_› (eq_stp ‹_› (tl_inj.1 ‹_›))⟩⟩, by first | exact rfl | omega | (dsimp only; omega) | (simp only [List.length_append, List.length_cons, List.length_nil, List.length_set]; omega) | (simp; done) | (simp; omega), Wk.mk' [] (by kernel_rfl) (by kernel_rfl) (by kernel_rfl)⟩
   ·replace hb6 := of_decide_eq_false (hb6)
    refine X.exit ?_
    refine sk ⟨[(4, bV true)], [], 256⟩ ?_
    refine X.ret ?_
    exact ⟨trivial, _, _, ⟨true, (by first | exact fls (fun h => by have := congrArg List.length h; omega) | exact fls (eq_noS ‹_› ‹_› ‹_›) | exact tru (eq_all hA (by omega) (by omega))), rfl, rfl⟩, mkr⟩
 obtain ⟨_, _, ⟨r0, h1_, rfl, rfl⟩, hf⟩ := key
 exact ⟨r0, h1_, hf⟩

theorem l_eqIntS (l : List Int) (m : List Int) (hl : l.length ≤ 2000000) (hm : m.length ≤ 2000000) : ∃ r0 : Bool, (r0 = allEq l m) ∧ Fn Tryz.prog 52 [lV (l.map dI), lV (m.map dI)] (lookH []) (bV r0) (lookH []) := by
 have key : ∃ x' h', ((fun x' h' => ∃ r0 : Bool, (r0 = allEq l m) ∧ x' = bV r0 ∧ h' = [])) x' h' ∧ Fn Tryz.prog 52 [lV (l.map dI), lV (m.map dI)] (lookH []) x' (lookH h') := by
  refine Fn.bodyX (N := 26) hτ Tryz.func52 rfl rfl rfl rfl ?_
  refine sk ⟨[(0, lV (l.map dI)), (1, lV (m.map dI))], [], 80⟩ ?_
  refine X.seq ?_
  refine X.seq ?_
  have hll : l.length ≤ 2000000 := hl
  have hml : m.length ≤ 2000000 := hm
  have el1 : (l.map dI).length = l.length := List.length_map ..
  have el2 : (m.map dI).length = m.length := List.length_map ..
  refine rk ⟨[(0, lV (l.map dI)), (1, lV (m.map dI)), (10, bV (((l.map dI).length : Int) != ((m.map dI).length : Int)))], [], 160⟩ ?_
  refine if_ (b := (((l.map dI).length : Int) != ((m.map dI).length : Int))) (fun hb3 => ?_) (fun hb3 => ?_)
  ·replace hb3 := bne_iff_ne.1 (hb3)
   refine sk ⟨[(4, bV false)], [], 176⟩ ?_
   refine X.ret ?_
   exact ⟨trivial, _, _, ⟨false, (by first | exact fls (fun h => by have := congrArg List.length h; omega) | exact fls (eq_no ‹_› ‹_› ‹_›) | exact tru (eq_all hA (by omega) (by omega))), rfl, rfl⟩, mkr⟩
  ·replace hb3 := bne_eq_false_iff_eq.1 (hb3)
   refine X.skip ?_
   refine X.seq ?_
   refine sk ⟨[(0, lV (l.map dI)), (1, lV (m.map dI)), (5, iV 0)], [], 176⟩ ?_
   refine X.block ?_
   -- 4: v5 : Int
   refine X.loop (σ := { g : Int // (fun (v5 : Int) => 0 ≤ v5 ∧ v5 ≤ l.length ∧ Upto (fun j x => m[j.toNat]? = some x) (fun n => l[n]?) v5) g }) (fun g => (fun (v5 : Int) => ⟨[(0, lV (l.map dI)), (1, lV (m.map dI)), (5, iV v5)], [], 176⟩) g.1) (fun g => (fun (v5 : Int) => (l.length - v5).toNat) g.1) ⟨0, ⟨by first | omega | (dsimp only; omega), by first | omega | (dsimp only; omega), upto_zero⟩⟩ (Wk.less (by kernel_rfl)) (fun g => ?_)
   obtain ⟨v5, hg5⟩ := g
   have hg5 : 0 ≤ v5 ∧ v5 ≤ l.length ∧ Upto (fun j x => m[j.toNat]? = some x) (fun n => l[n]?) v5 := hg5
   obtain ⟨_, _, hA⟩ := hg5
   refine X.seq ?_
   refine sk ⟨[(0, lV (l.map dI)), (1, lV (m.map dI)), (5, iV v5), (14, bV (decide ((v5 : Int) < ((l.map dI).length : Int))))], [], 240⟩ ?_
   refine if_ (b := decide ((v5 : Int) < ((l.map dI).length : Int))) (fun hb6 => ?_) (fun hb6 => ?_)
   ·replace hb6 := of_decide_eq_true (hb6)
    refine X.skip ?_
    refine X.seq ?_
    refine X.block ?_
    refine X.seq (rs 2 ?_)
    obtain ⟨x7, hx7⟩ : ∃ x, l[Int.toNat v5]? = some x := ⟨_, List.getElem?_eq_getElem (by first | omega | (simp; done) | (simp; omega))⟩
    refine CH.idx hτ (dI x7) (rows := (l.map dI)) (n := v5) (sz := 1) (by kernel_rfl) (by kernel_rfl) (by first | omega | (simp; done) | (simp; omega)) (by rw [List.getElem?_map, hx7]; rfl) (by kernel_rfl) ?_
    refine go 3 ?_
    obtain ⟨x8, hx8⟩ : ∃ x, m[Int.toNat v5]? = some x := ⟨_, List.getElem?_eq_getElem (by first | omega | (simp; done) | (simp; omega))⟩
    refine CH.idx hτ (dI x8) (rows := (m.map dI)) (n := v5) (sz := 1) (by kernel_rfl) (by kernel_rfl) (by first | omega | (simp; done) | (simp; omega)) (by rw [List.getElem?_map, hx8]; rfl) (by kernel_rfl) ?_
    refine go 2 ?_
    refine ek ⟨[(0, lV (l.map dI)), (1, lV (m.map dI)), (5, iV v5), (25, bV (x7 != x8))], [], 384⟩ ?_
    refine if_ (b := (x7 != x8)) (fun hb9 => ?_) (fun hb9 => ?_)
    ·replace hb9 := bne_iff_ne.1 (hb9)
     refine sk ⟨[(4, bV false)], [], 400⟩ ?_
     refine X.ret ?_
     exact ⟨trivial, _, _, ⟨false, (by first | exact fls (fun h => by have := congrArg List.length h; omega) | exact fls (eq_no ‹_› ‹_› ‹_›) | exact tru (eq_all hA (by omega) (by omega))), rfl, rfl⟩, mkr⟩
    ·replace hb9 := bne_eq_false_iff_eq.1 (hb9)
     refine X.skip ?_
     refine X.rk ⟨[(0, lV (l.map dI)), (1, lV (m.map dI)), (5, iV (wrap64 (v5 + 1)))], [], 432⟩ hτ hmix (by kernel_rfl) (by kernel_rfl) (s2 := ⟨[(0, lV (l.map dI)), (1, lV (m.map dI)), (5, iV (v5 + 1))], [], 432⟩) (congrArg (fun z : Int => (⟨[(0, lV (l.map dI)), (1, lV (m.map dI)), (5, iV z)], [], 432⟩ : St)) (show wrap64 (v5 + 1) = (v5 + 1) by rw [w64 (n := (v5 + 1)) (by omega) (by omega)])) ?_
     refine ⟨⟨(v5 + 1), ⟨by first | omega | (dsimp only; omega), by first | omega | (dsimp only; omega), upto_nx (by first | omega | (dsimp only; omega)) hA ‹_› (eq_stp ‹_› ‹_›)⟩⟩, by first | exact rfl | omega | (dsimp only; omega) | (simp only [List.length_append, List.length_cons, List.length_nil, List.length_set]; omega) | (simp; done) | (simp; omega), Wk.mk' [] (by kernel_rfl) (by kernel_rfl) (by kernel_rfl)⟩
   ·replace hb6 := of_decide_eq_false (hb6)
    refine X.exit ?_
    refine sk ⟨[(4, bV true)], [], 256⟩ ?_
    refine X.ret ?_
    exact ⟨trivial, _, _, ⟨true, (by first | exact fls (fun h => by have := congrArg List.length h; omega) | exact fls (eq_no ‹_› ‹_› ‹_›) | exact tru (eq_all hA (by omega) (by omega))), rfl, rfl⟩, mkr⟩
 obtain ⟨_, _, ⟨r0, h1_, rfl, rfl⟩, hf⟩ := key
 exact ⟨r0, h1_, hf⟩

theorem l_toLeave (x : S179) : ∃ r0 : S167, (r0 = toLeave x) ∧ Fn Tryz.prog 132 [.e (.agg [.d (.v (.int .i64 x.f0)), .d (.v (.int .i64 x.f1))])] (lookH []) (.e (.agg [.d (.v (.int .i64 r0.f0)), .d (.v (.int .i64 r0.f1))])) (lookH []) := by
 have key : ∃ x' h', ((fun x' h' => ∃ r0 : S167, (r0 = toLeave x) ∧ x' = .e (.agg [.d (.v (.int .i64 r0.f0)), .d (.v (.int .i64 r0.f1))]) ∧ h' = [])) x' h' ∧ Fn Tryz.prog 132 [.e (.agg [.d (.v (.int .i64 x.f0)), .d (.v (.int .i64 x.f1))])] (lookH []) x' (lookH h') := by
  refine Fn.bodyX (N := 11) hτ Tryz.func132 rfl rfl rfl rfl ?_
  refine sk ⟨[(1, .pt 64 0 0), (2, .pt 80 0 0)], [(64, some (.box [.d (.v (.int .i64 x.f0)), .d (.v (.int .i64 x.f1))])), (80, some (.box [.d (.v (.int .i64 0)), .d (.v (.int .i64 0))]))], 96⟩ ?_
  refine sk ⟨[(1, .pt 64 0 0), (2, .pt 80 0 0), (3, .pt 96 0 0)], [(64, some (.box [.d (.v (.int .i64 x.f0)), .d (.v (.int .i64 x.f1))])), (80, some (.box [.d (.v (.int .i64 0)), .d (.v (.int .i64 0))])), (96, some (.box [.d (.v (.int .i64 0)), .d (.v (.int .i64 0))]))], 112⟩ ?_
  refine sk ⟨[(1, .pt 64 0 0), (2, .pt 80 0 0), (3, .pt 96 0 0)], [(64, some (.box [.d (.v (.int .i64 x.f0)), .d (.v (.int .i64 x.f1))])), (80, some (.box [.d (.v (.int .i64 0)), .d (.v (.int .i64 0))])), (96, some (.box [.d (.v (.int .i64 x.f0)), .d (.v (.int .i64 0))]))], 176⟩ ?_
  refine sk ⟨[(2, .pt 80 0 0), (3, .pt 96 0 0)], [(80, some (.box [.d (.v (.int .i64 0)), .d (.v (.int .i64 0))])), (96, some (.box [.d (.v (.int .i64 x.f0)), .d (.v (.int .i64 x.f1))]))], 240⟩ ?_
  refine sk ⟨[(2, .pt 80 0 0)], [(80, some (.box [.d (.v (.int .i64 x.f0)), .d (.v (.int .i64 x.f1))]))], 272⟩ ?_
  refine X.ret ?_
  exact ⟨trivial, _, _, ⟨(⟨x.f0, x.f1⟩ : S167), rfl, rfl, rfl⟩, mkr⟩
 obtain ⟨_, _, ⟨r0, h1_, rfl, rfl⟩, hf⟩ := key
 exact ⟨r0, h1_, hf⟩

theorem l_eqLeave (a : S167) (b : S167) : ∃ r0 : Bool, (r0 = eqV a b) ∧ Fn Tryz.prog 137 [.e (.agg [.d (.v (.int .i64 a.f0)), .d (.v (.int .i64 a.f1))]), .e (.agg [.d (.v (.int .i64 b.f0)), .d (.v (.int .i64 b.f1))])] (lookH []) (bV r0) (lookH []) := by
 have key : ∃ x' h', ((fun x' h' => ∃ r0 : Bool, (r0 = eqV a b) ∧ x' = bV r0 ∧ h' = [])) x' h' ∧ Fn Tryz.prog 137 [.e (.agg [.d (.v (.int .i64 a.f0)), .d (.v (.int .i64 a.f1))]), .e (.agg [.d (.v (.int .i64 b.f0)), .d (.v (.int .i64 b.f1))])] (lookH []) x' (lookH h') := by
  refine Fn.bodyX (N := 15) hτ Tryz.func137 rfl rfl rfl rfl ?_
  refine sk ⟨[(2, .pt 64 0 0), (3, .pt 80 0 0)], [(64, some (.box [.d (.v (.int .i64 a.f0)), .d (.v (.int .i64 a.f1))])), (80, some (.box [.d (.v (.int .i64 b.f0)), .d (.v (.int .i64 b.f1))]))], 112⟩ ?_
  refine X.seq ?_
  refine sk ⟨[(2, .pt 64 0 0), (3, .pt 80 0 0), (9, bV (a.f0 != b.f0))], [(64, some (.box [.d (.v (.int .i64 a.f0)), .d (.v (.int .i64 a.f1))])), (80, some (.box [.d (.v (.int .i64 b.f0)), .d (.v (.int .i64 b.f1))]))], 192⟩ ?_
  refine if_ (b := (a.f0 != b.f0)) (fun hb1 => ?_) (fun hb1 => ?_)
  ·replace hb1 := bne_iff_ne.1 (hb1)
   refine sk ⟨[(4, bV false)], [], 208⟩ ?_
   refine X.ret ?_
   exact ⟨trivial, _, _, ⟨false, (by first | exact fls (fun h => by subst h; first | exact absurd rfl ‹_› | exact tf (eqV_self _) ‹_› | exact tf (allEq_self _) ‹_›) | exact tru (by cases a; cases b; simp_all [eqV_iff, allEq_iff, tl_inj])), rfl, rfl⟩, mkr⟩
  ·replace hb1 := bne_eq_false_iff_eq.1 (hb1)
   refine X.skip ?_
   refine X.seq ?_
   refine sk ⟨[(14, bV (a.f1 != b.f1))], [], 272⟩ ?_
   refine if_ (b := (a.f1 != b.f1)) (fun hb2 => ?_) (fun hb2 => ?_)
   ·replace hb2 := bne_iff_ne.1 (hb2)
    refine sk ⟨[(4, bV false)], [], 288⟩ ?_
    refine X.ret ?_
    exact ⟨trivial, _, _, ⟨false, (by first | exact fls (fun h => by subst h; first | exact absurd rfl ‹_› | exact tf (eqV_self _) ‹_› | exact tf (allEq_self _) ‹_›) | exact tru (by cases a; cases b; simp_all [eqV_iff, allEq_iff, tl_inj])), rfl, rfl⟩, mkr⟩
   ·replace hb2 := bne_eq_false_iff_eq.1 (hb2)
    refine X.skip ?_
    refine sk ⟨[(4, bV true)], [], 288⟩ ?_
    refine X.ret ?_
    exact ⟨trivial, _, _, ⟨true, (by first | exact fls (fun h => by subst h; first | exact absurd rfl ‹_› | exact tf (eqV_self _) ‹_› | exact tf (allEq_self _) ‹_›) | exact tru (by cases a; cases b; simp_all [eqV_iff, allEq_iff, tl_inj])), rfl, rfl⟩, mkr⟩
 obtain ⟨_, _, ⟨r0, h1_, rfl, rfl⟩, hf⟩ := key
 exact ⟨r0, h1_, hf⟩

theorem l_toLeaveS (l : List S179) (hl : (l.map toLeave).length ≤ 2000000) : ∃ r0 : List S167, (r0 = l.map toLeave) ∧ Fn Tryz.prog 123 [lV (l.map d179)] (lookH []) (.e (.c (.f (.sl (r0.map d167))))) (lookH []) := by
 have key : ∃ x' h', ((fun x' h' => ∃ r0 : List S167, (r0 = l.map toLeave) ∧ x' = .e (.c (.f (.sl (r0.map d167)))) ∧ h' = [])) x' h' ∧ Fn Tryz.prog 123 [lV (l.map d179)] (lookH []) x' (lookH h') := by
  refine Fn.bodyX (N := 23) hτ Tryz.func123 rfl rfl rfl rfl ?_
  refine sk ⟨[(0, lV (l.map d179))], [], 80⟩ ?_
  refine X.seq ?_
  have hll : l.length ≤ 2000000 := by have := hl; simpa only [List.length_map] using this
  have el1 : (l.map d179).length = l.length := List.length_map ..
  refine rs 2 ?_
  refine CH.mks hτ (n := (l.map d179).length) (bys := 16) (by kernel_rfl) (by kernel_rfl) (by first | omega | (simp only [List.length_map]; omega) | (simp; omega)) (by first | omega | (simp only [List.length_map]; omega) | (simp; omega)) (by kernel_rfl) ?_
  refine go 1 ?_
  refine CH.endk ⟨[(0, lV (l.map d179)), (3, rV 112)], [(112, some (.row 2 167 (List.replicate ((l.map d179).length) (d167 z167)) false true))], 144⟩ (by kernel_rfl) (by kernel_rfl) (s2 := ⟨[(0, lV (l.map d179)), (3, rV 112)], [(112, some (.row 2 167 ((List.replicate ((l.map d179).length) z167).map d167) false true))], 144⟩) (congrArg (fun z : List (List D) => (⟨[(0, lV (l.map d179)), (3, rV 112)], [(112, some (.row 2 167 z false true))], 144⟩ : St)) (show List.replicate ((l.map d179).length) (d167 z167) = ((List.replicate ((l.map d179).length) z167).map d167) from List.map_replicate.symm)) ?_
  refine X.seq ?_
  refine sk ⟨[(0, lV (l.map d179)), (3, rV 112), (4, iV 0)], [(112, some (.row 2 167 ((List.replicate ((l.map d179).length) z167).map d167) false true))], 160⟩ ?_
  refine X.block ?_
  -- 3: Lv3 : List S167, v4 : Int
  refine X.loop (σ := { g : (List S167) × Int // (fun (Lv3 : List S167) (v4 : Int) => 0 ≤ v4 ∧ v4 ≤ l.length ∧ Lv3.length = l.length ∧ ∀ (j : Nat) (x : S179), (j : Int) < v4 → l[j]? = some x → Lv3[j]? = some (toLeave x)) g.1 g.2 }) (fun g => (fun (Lv3 : List S167) (v4 : Int) => ⟨[(0, lV (l.map d179)), (3, rV 112), (4, iV v4)], [(112, some (.row 2 167 (Lv3.map d167) false true))], 160⟩) g.1.1 g.1.2) (fun g => (fun (Lv3 : List S167) (v4 : Int) => (l.length - v4).toNat) g.1.1 g.1.2) ⟨((List.replicate ((l.map d179).length) z167), 0), ⟨by first | omega | (dsimp only; omega), by first | omega | (dsimp only; omega), by simp, fun j x h => by first | omega | (dsimp only; omega)⟩⟩ (Wk.less (by kernel_rfl)) (fun g => ?_)
  obtain ⟨⟨Lv3, v4⟩, hg3⟩ := g
  have hg3 : 0 ≤ v4 ∧ v4 ≤ l.length ∧ Lv3.length = l.length ∧ ∀ (j : Nat) (x : S179), (j : Int) < v4 → l[j]? = some x → Lv3[j]? = some (toLeave x) := hg3
  obtain ⟨_, _, hL, hA⟩ := hg3
  refine X.seq ?_
  refine sk ⟨[(0, lV (l.map d179)), (3, rV 112), (4, iV v4), (11, bV (decide ((v4 : Int) < ((l.map d179).length : Int))))], [(112, some (.row 2 167 (Lv3.map d167) false true))], 224⟩ ?_
  refine if_ (b := decide ((v4 : Int) < ((l.map d179).length : Int))) (fun hb4 => ?_) (fun hb4 => ?_)
  ·replace hb4 := of_decide_eq_true (hb4)
   refine X.skip ?_
   refine X.seq ?_
   refine X.block ?_
   refine rs 4 ?_
   obtain ⟨x5, hx5⟩ : ∃ x, l[Int.toNat v4]? = some x := ⟨_, List.getElem?_eq_getElem (by first | omega | (simp; done) | (simp; omega))⟩
   refine CH.idx hτ (d179 x5) (rows := (l.map d179)) (n := v4) (sz := 2) (by kernel_rfl) (by kernel_rfl) (by first | omega | (simp; done) | (simp; omega)) (by rw [List.getElem?_map, hx5]; rfl) (by kernel_rfl) ?_
   refine go 1 ?_
   obtain ⟨r6, hr8, hf7⟩ := l_toLeave x5
   replace hr8 := hr8.symm; subst hr8
   refine ca hf7 Tryz.func132 ?_
   refine CH.idxR hτ (rows := (Lv3.map d167)) (n := v4) (b := 112) (by kernel_rfl) (by kernel_rfl) (by first | omega | (simp; done) | (simp; omega)) (by simp only [List.length_map, List.length_set]; first | omega | (simp; done) | (simp; omega)) (by kernel_rfl) ?_
   obtain ⟨x10, hx10⟩ : ∃ x, Lv3[Int.toNat v4]? = some x := ⟨_, List.getElem?_eq_getElem (by first | omega | (simp; done) | (simp; omega))⟩
   refine CH.row hτ (d167 x10) (by kernel_rfl) (by kernel_rfl) (by rw [List.getElem?_map, hx10]; rfl) (by kernel_rfl) ?_
   refine CH.endk ⟨[(0, lV (l.map d179)), (3, rV 112), (4, iV v4)], [(112, some (.row 2 167 ((Lv3.map d167).set (Int.toNat v4) (d167 ((toLeave x5)))) false true))], 368⟩ (by kernel_rfl) (by kernel_rfl) (s2 := ⟨[(0, lV (l.map d179)), (3, rV 112), (4, iV v4)], [(112, some (.row 2 167 ((Lv3.set (Int.toNat v4) ((toLeave x5))).map d167) false true))], 368⟩) (congrArg (fun z : List (List D) => (⟨[(0, lV (l.map d179)), (3, rV 112), (4, iV v4)], [(112, some (.row 2 167 z false true))], 368⟩ : St)) (show ((Lv3.map d167).set (Int.toNat v4) (d167 ((toLeave x5)))) = ((Lv3.set (Int.toNat v4) ((toLeave x5))).map d167) from List.map_set.symm)) ?_
   refine X.rk ⟨[(0, lV (l.map d179)), (3, rV 112), (4, iV (wrap64 (v4 + 1)))], [(112, some (.row 2 167 ((Lv3.set (Int.toNat v4) ((toLeave x5))).map d167) false true))], 416⟩ hτ hmix (by kernel_rfl) (by kernel_rfl) (s2 := ⟨[(0, lV (l.map d179)), (3, rV 112), (4, iV (v4 + 1))], [(112, some (.row 2 167 ((Lv3.set (Int.toNat v4) ((toLeave x5))).map d167) false true))], 416⟩) (congrArg (fun z : Int => (⟨[(0, lV (l.map d179)), (3, rV 112), (4, iV z)], [(112, some (.row 2 167 ((Lv3.set (Int.toNat v4) ((toLeave x5))).map d167) false true))], 416⟩ : St)) (show wrap64 (v4 + 1) = (v4 + 1) by rw [w64 (n := (v4 + 1)) (by omega) (by omega)])) ?_
   refine ⟨⟨((Lv3.set (Int.toNat v4) ((toLeave x5))), (v4 + 1)), ⟨by first | omega | (dsimp only; omega), by first | omega | (dsimp only; omega), by simp; omega, ts_next (f := toLeave) hA (by first | omega | (dsimp only; omega)) (by first | omega | (dsimp only; omega)) ‹_›⟩⟩, by first | exact rfl | omega | (dsimp only; omega) | (simp only [List.length_append, List.length_cons, List.length_nil, List.length_set]; omega) | (simp; done) | (simp; omega), Wk.mk' [(112, 112)] (by kernel_rfl) (by kernel_rfl) (by kernel_rfl)⟩
  ·replace hb4 := of_decide_eq_false (hb4)
   refine X.exit ?_
   refine sk ⟨[(2, rV 112)], [(112, some (.row 2 167 (Lv3.map d167) false true))], 256⟩ ?_
   refine X.ret ?_
   exact ⟨trivial, _, _, ⟨Lv3, ts_end hA hL (by omega), rfl, rfl⟩, .inr ⟨⟨[(2, .e (.c (.f (.sl (Lv3.map d167)))))], [(112, some (.row 2 167 (Lv3.map d167) true true))], 256⟩, Wk.less (by kernel_rfl), Ret.mk' [] (by kernel_rfl) (by kernel_rfl) (by kernel_rfl)⟩⟩
 obtain ⟨_, _, ⟨r0, h1_, rfl, rfl⟩, hf⟩ := key
 exact ⟨r0, h1_, hf⟩

theorem l_eqLeaveS (l : List S167) (m : List S167) (hl : l.length ≤ 2000000) (hm : m.length ≤ 2000000) : ∃ r0 : Bool, (r0 = allEq l m) ∧ Fn Tryz.prog 131 [lV (l.map d167), lV (m.map d167)] (lookH []) (bV r0) (lookH []) := by
 have key : ∃ x' h', ((fun x' h' => ∃ r0 : Bool, (r0 = allEq l m) ∧ x' = bV r0 ∧ h' = [])) x' h' ∧ Fn Tryz.prog 131 [lV (l.map d167), lV (m.map d167)] (lookH []) x' (lookH h') := by
  refine Fn.bodyX (N := 27) hτ Tryz.func131 rfl rfl rfl rfl ?_
  refine sk ⟨[(0, lV (l.map d167)), (1, lV (m.map d167))], [], 80⟩ ?_
  refine X.seq ?_
  refine X.seq ?_
  have hll : l.length ≤ 2000000 := hl
  have hml : m.length ≤ 2000000 := hm
  have el1 : (l.map d167).length = l.length := List.length_map ..
  have el2 : (m.map d167).length = m.length := List.length_map ..
  refine rk ⟨[(0, lV (l.map d167)), (1, lV (m.map d167)), (10, bV (((l.map d167).length : Int) != ((m.map d167).length : Int)))], [], 160⟩ ?_
  refine if_ (b := (((l.map d167).length : Int) != ((m.map d167).length : Int))) (fun hb3 => ?_) (fun hb3 => ?_)
  ·replace hb3 := bne_iff_ne.1 (hb3)
   refine sk ⟨[(4, bV false)], [], 176⟩ ?_
   refine X.ret ?_
   exact ⟨trivial, _, _, ⟨false, (by first | exact fls (fun h => by have := congrArg List.length h; omega) | exact fls (eq_no ‹_› ‹_› (eqV_no ‹_›)) | exact tru (eq_all hA (by omega) (by omega))), rfl, rfl⟩, mkr⟩
  ·replace hb3 := bne_eq_false_iff_eq.1 (hb3)
   refine X.skip ?_
   refine X.seq ?_
   refine sk ⟨[(0, lV (l.map d167)), (1, lV (m.map d167)), (5, iV 0)], [], 176⟩ ?_
   refine X.block ?_
   -- 4: v5 : Int
   refine X.loop (σ := { g : Int // (fun (v5 : Int) => 0 ≤ v5 ∧ v5 ≤ l.length ∧ Upto (fun j x => m[j.toNat]? = some x) (fun n => l[n]?) v5) g }) (fun g => (fun (v5 : Int) => ⟨[(0, lV (l.map d167)), (1, lV (m.map d167)), (5, iV v5)], [], 176⟩) g.1) (fun g => (fun (v5 : Int) => (l.length - v5).toNat) g.1) ⟨0, ⟨by first | omega | (dsimp only; omega), by first | omega | (dsimp only; omega), upto_zero⟩⟩ (Wk.less (by kernel_rfl)) (fun g => ?_)
   obtain ⟨v5, hg5⟩ := g
   have hg5 : 0 ≤ v5 ∧ v5 ≤ l.length ∧ Upto (fun j x => m[j.toNat]? = some x) (fun n => l[n]?) v5 := hg5
   obtain ⟨_, _, hA⟩ := hg5
   refine X.seq ?_
   refine sk ⟨[(0, lV (l.map d167)), (1, lV (m.map d167)), (5, iV v5), (14, bV (decide ((v5 : Int) < ((l.map d167).length : Int))))], [], 240⟩ ?_
   refine if_ (b := decide ((v5 : Int) < ((l.map d167).length : Int))) (fun hb6 => ?_) (fun hb6 => ?_)
   ·replace hb6 := of_decide_eq_true (hb6)
    refine X.skip ?_
    refine X.seq ?_
    refine X.block ?_
    refine X.seq (rs 2 ?_)
    obtain ⟨x7, hx7⟩ : ∃ x, l[Int.toNat v5]? = some x := ⟨_, List.getElem?_eq_getElem (by first | omega | (simp; done) | (simp; omega))⟩
    refine CH.idx hτ (d167 x7) (rows := (l.map d167)) (n := v5) (sz := 2) (by kernel_rfl) (by kernel_rfl) (by first | omega | (simp; done) | (simp; omega)) (by rw [List.getElem?_map, hx7]; rfl) (by kernel_rfl) ?_
    refine go 3 ?_
    obtain ⟨x8, hx8⟩ : ∃ x, m[Int.toNat v5]? = some x := ⟨_, List.getElem?_eq_getElem (by first | omega | (simp; done) | (simp; omega))⟩
    refine CH.idx hτ (d167 x8) (rows := (m.map d167)) (n := v5) (sz := 2) (by kernel_rfl) (by kernel_rfl) (by first | omega | (simp; done) | (simp; omega)) (by rw [List.getElem?_map, hx8]; rfl) (by kernel_rfl) ?_
    refine go 1 ?_
    obtain ⟨r9, hr11, hf10⟩ := l_eqLeave x7 x8
    replace hr11 := hr11.symm; subst hr11
    refine ca hf10 Tryz.func137 ?_
    refine go 1 ?_
    refine ek ⟨[(0, lV (l.map d167)), (1, lV (m.map d167)), (5, iV v5), (26, bV (!(eqV x7 x8)))], [], 400⟩ ?_
    refine if_ (b := !(eqV x7 x8)) (fun hb13 => ?_) (fun hb13 => ?_)
    ·replace hb13 := bnot_yes (hb13)
     refine sk ⟨[(4, bV false)], [], 416⟩ ?_
     refine X.ret ?_
     exact ⟨trivial, _, _, ⟨false, (by first | exact fls (fun h => by have := congrArg List.length h; omega) | exact fls (eq_no ‹_› ‹_› (eqV_no ‹_›)) | exact tru (eq_all hA (by omega) (by omega))), rfl, rfl⟩, mkr⟩
    ·replace hb13 := bnot_no (hb13)
     refine X.skip ?_
     refine X.rk ⟨[(0, lV (l.map d167)), (1, lV (m.map d167)), (5, iV (wrap64 (v5 + 1)))], [], 448⟩ hτ hmix (by kernel_rfl) (by kernel_rfl) (s2 := ⟨[(0, lV (l.map d167)), (1, lV (m.map d167)), (5, iV (v5 + 1))], [], 448⟩) (congrArg (fun z : Int => (⟨[(0, lV (l.map d167)), (1, lV (m.map d167)), (5, iV z)], [], 448⟩ : St)) (show wrap64 (v5 + 1) = (v5 + 1) by rw [w64 (n := (v5 + 1)) (by omega) (by omega)])) ?_
     refine ⟨⟨(v5 + 1), ⟨by first | omega | (dsimp only; omega), by first | omega | (dsimp only; omega), upto_nx (by first | omega | (dsimp only; omega)) hA ‹_› (eq_stp ‹_› (eqV_iff.1 ‹_›))⟩⟩, by first | exact rfl | omega | (dsimp only; omega) | (simp only [List.length_append, List.length_cons, List.length_nil, List.length_set]; omega) | (simp; done) | (simp; omega), Wk.mk' [] (by kernel_rfl) (by kernel_rfl) (by kernel_rfl)⟩
   ·replace hb6 := of_decide_eq_false (hb6)
    refine X.exit ?_
    refine sk ⟨[(4, bV true)], [], 256⟩ ?_
    refine X.ret ?_
    exact ⟨trivial, _, _, ⟨true, (by first | exact fls (fun h => by have := congrArg List.length h; omega) | exact fls (eq_no ‹_› ‹_› (eqV_no ‹_›)) | exact tru (eq_all hA (by omega) (by omega))), rfl, rfl⟩, mkr⟩
 obtain ⟨_, _, ⟨r0, h1_, rfl, rfl⟩, hf⟩ := key
 exact ⟨r0, h1_, hf⟩

theorem l_toAcct (x : S151) (hs : Sm155 (toAcct x)) : ∃ r0 : S155, (r0 = toAcct x) ∧ Fn Tryz.prog 108 [.e (.agg (cD (d151 x)))] (lookH []) (.e (.agg [.d (.v (.string r0.f0)), .d (.v (.int .i64 r0.f1)), .d (.v (.int .i64 r0.f2)), .d (.v (.int .i64 r0.f3)), .f (.sl (r0.f4.map d167))])) (lookH []) := by
 have key : ∃ x' h', ((fun x' h' => ∃ r0 : S155, (r0 = toAcct x) ∧ x' = .e (.agg [.d (.v (.string r0.f0)), .d (.v (.int .i64 r0.f1)), .d (.v (.int .i64 r0.f2)), .d (.v (.int .i64 r0.f3)), .f (.sl (r0.f4.map d167))]) ∧ h' = [])) x' h' ∧ Fn Tryz.prog 108 [.e (.agg (cD (d151 x)))] (lookH []) x' (lookH h') := by
  refine Fn.bodyX (N := 21) hτ Tryz.func108 rfl rfl rfl rfl ?_
  refine sk ⟨[(1, .pt 64 0 0), (2, .pt 80 0 0)], [(64, some (.box (cD (d151 x)))), (80, some (.box [.d (.v (.string (⟨#[]⟩ : ByteArray))), .d (.v (.int .i64 0)), .d (.v (.int .i64 0)), .d (.v (.int .i64 0)), .nil]))], 96⟩ ?_
  refine X.seq ?_
  have hq0 : SmS x.f0 := hs.1
  have hq4 : (x.f4.map toLeave).length ≤ 2000000 := hs.2
  refine rk ⟨[(1, .pt 64 0 0), (2, .pt 80 0 0), (3, .pt 96 0 0)], [(64, some (.box (cD (d151 x)))), (80, some (.box [.d (.v (.string (⟨#[]⟩ : ByteArray))), .d (.v (.int .i64 0)), .d (.v (.int .i64 0)), .d (.v (.int .i64 0)), .nil])), (96, some (.box [.d (.v (.string (⟨#[]⟩ : ByteArray))), .d (.v (.int .i64 0)), .d (.v (.int .i64 0)), .d (.v (.int .i64 0)), .nil]))], 112⟩ ?_
  refine sk ⟨[(1, .pt 64 0 0), (2, .pt 80 0 0), (3, .pt 96 0 0)], [(64, some (.box (cD (d151 x)))), (80, some (.box [.d (.v (.string (⟨#[]⟩ : ByteArray))), .d (.v (.int .i64 0)), .d (.v (.int .i64 0)), .d (.v (.int .i64 0)), .nil])), (96, some (.box [.d (.v (.string x.f0)), .d (.v (.int .i64 0)), .d (.v (.int .i64 0)), .d (.v (.int .i64 0)), .nil]))], 176⟩ ?_
  refine sk ⟨[(1, .pt 64 0 0), (2, .pt 80 0 0), (3, .pt 96 0 0)], [(64, some (.box (cD (d151 x)))), (80, some (.box [.d (.v (.string (⟨#[]⟩ : ByteArray))), .d (.v (.int .i64 0)), .d (.v (.int .i64 0)), .d (.v (.int .i64 0)), .nil])), (96, some (.box [.d (.v (.string x.f0)), .d (.v (.int .i64 x.f1)), .d (.v (.int .i64 0)), .d (.v (.int .i64 0)), .nil]))], 240⟩ ?_
  refine sk ⟨[(1, .pt 64 0 0), (2, .pt 80 0 0), (3, .pt 96 0 0)], [(64, some (.box (cD (d151 x)))), (80, some (.box [.d (.v (.string (⟨#[]⟩ : ByteArray))), .d (.v (.int .i64 0)), .d (.v (.int .i64 0)), .d (.v (.int .i64 0)), .nil])), (96, some (.box [.d (.v (.string x.f0)), .d (.v (.int .i64 x.f1)), .d (.v (.int .i64 x.f2)), .d (.v (.int .i64 0)), .nil]))], 304⟩ ?_
  refine sk ⟨[(1, .pt 64 0 0), (2, .pt 80 0 0), (3, .pt 96 0 0)], [(64, some (.box (cD (d151 x)))), (80, some (.box [.d (.v (.string (⟨#[]⟩ : ByteArray))), .d (.v (.int .i64 0)), .d (.v (.int .i64 0)), .d (.v (.int .i64 0)), .nil])), (96, some (.box [.d (.v (.string x.f0)), .d (.v (.int .i64 x.f1)), .d (.v (.int .i64 x.f2)), .d (.v (.int .i64 x.f3)), .nil]))], 368⟩ ?_
  refine X.seq (rs 2 ?_)
  obtain ⟨r1, hr3, hf2⟩ := l_toLeaveS x.f4 (by assumption)
  replace hr3 := hr3.symm; subst hr3
  have hlm : (x.f4.map toLeave).length = x.f4.length := List.length_map ..
  refine ca hf2 Tryz.func123 ?_
  refine go 2 ?_
  refine ek ⟨[(2, .pt 80 0 0), (3, .pt 96 0 0)], [(80, some (.box [.d (.v (.string (⟨#[]⟩ : ByteArray))), .d (.v (.int .i64 0)), .d (.v (.int .i64 0)), .d (.v (.int .i64 0)), .nil])), (96, some (.box [.d (.v (.string x.f0)), .d (.v (.int .i64 x.f1)), .d (.v (.int .i64 x.f2)), .d (.v (.int .i64 x.f3)), .f (.sl ((x.f4.map toLeave).map d167))]))], 448⟩ ?_
  refine sk ⟨[(2, .pt 80 0 0)], [(80, some (.box [.d (.v (.string x.f0)), .d (.v (.int .i64 x.f1)), .d (.v (.int .i64 x.f2)), .d (.v (.int .i64 x.f3)), .f (.sl ((x.f4.map toLeave).map d167))]))], 480⟩ ?_
  refine X.ret ?_
  exact ⟨trivial, _, _, ⟨(⟨x.f0, x.f1, x.f2, x.f3, (x.f4.map toLeave)⟩ : S155), rfl, rfl, rfl⟩, mkr⟩
 obtain ⟨_, _, ⟨r0, h1_, rfl, rfl⟩, hf⟩ := key
 exact ⟨r0, h1_, hf⟩

theorem l_eqAcct (a : S155) (b : S155) (ha : Sm155 a) (hb : Sm155 b) : ∃ r0 : Bool, (r0 = eqV a b) ∧ Fn Tryz.prog 119 [.e (.agg (cD (d155 a))), .e (.agg (cD (d155 b)))] (lookH []) (bV r0) (lookH []) := by
 have key : ∃ x' h', ((fun x' h' => ∃ r0 : Bool, (r0 = eqV a b) ∧ x' = bV r0 ∧ h' = [])) x' h' ∧ Fn Tryz.prog 119 [.e (.agg (cD (d155 a))), .e (.agg (cD (d155 b)))] (lookH []) x' (lookH h') := by
  refine Fn.bodyX (N := 31) hτ Tryz.func119 rfl rfl rfl rfl ?_
  refine sk ⟨[(2, .pt 64 0 0), (3, .pt 80 0 0)], [(64, some (.box (cD (d155 a)))), (80, some (.box (cD (d155 b))))], 112⟩ ?_
  refine X.seq ?_
  refine X.seq ?_
  have a0 : SmS a.f0 := ha.1
  have b0 : SmS b.f0 := hb.1
  have a4 : a.f4.length ≤ 2000000 := ha.2
  have b4 : b.f4.length ≤ 2000000 := hb.2
  refine rk ⟨[(2, .pt 64 0 0), (3, .pt 80 0 0), (9, bV (!(a.f0.toList == b.f0.toList)))], [(64, some (.box (cD (d155 a)))), (80, some (.box (cD (d155 b))))], 192⟩ ?_
  refine if_ (b := !(a.f0.toList == b.f0.toList)) (fun hb1 => ?_) (fun hb1 => ?_)
  ·replace hb1 := beq_no (bnot_yes (hb1))
   refine sk ⟨[(4, bV false)], [], 208⟩ ?_
   refine X.ret ?_
   exact ⟨trivial, _, _, ⟨false, (by first | exact fls (fun h => by subst h; first | exact absurd rfl ‹_› | exact tf (eqV_self _) ‹_› | exact tf (allEq_self _) ‹_›) | exact tru (by cases a; cases b; simp_all [eqV_iff, allEq_iff, tl_inj])), rfl, rfl⟩, mkr⟩
  ·replace hb1 := beq_yes (bnot_no (hb1))
   refine X.skip ?_
   refine X.seq ?_
   refine sk ⟨[(2, .pt 64 0 0), (3, .pt 80 0 0), (14, bV (a.f1 != b.f1))], [(64, some (.box (cD (d155 a)))), (80, some (.box (cD (d155 b))))], 272⟩ ?_
   refine if_ (b := (a.f1 != b.f1)) (fun hb2 => ?_) (fun hb2 => ?_)
   ·replace hb2 := bne_iff_ne.1 (hb2)
    refine sk ⟨[(4, bV false)], [], 288⟩ ?_
    refine X.ret ?_
    exact ⟨trivial, _, _, ⟨false, (by first | exact fls (fun h => by subst h; first | exact absurd rfl ‹_› | exact tf (eqV_self _) ‹_› | exact tf (allEq_self _) ‹_›) | exact tru (by cases a; cases b; simp_all [eqV_iff, allEq_iff, tl_inj])), rfl, rfl⟩, mkr⟩
   ·replace hb2 := bne_eq_false_iff_eq.1 (hb2)
    refine X.skip ?_
    refine X.seq ?_
    refine sk ⟨[(2, .pt 64 0 0), (3, .pt 80 0 0), (19, bV (a.f2 != b.f2))], [(64, some (.box (cD (d155 a)))), (80, some (.box (cD (d155 b))))], 352⟩ ?_
    refine if_ (b := (a.f2 != b.f2)) (fun hb3 => ?_) (fun hb3 => ?_)
    ·replace hb3 := bne_iff_ne.1 (hb3)
     refine sk ⟨[(4, bV false)], [], 368⟩ ?_
     refine X.ret ?_
     exact ⟨trivial, _, _, ⟨false, (by first | exact fls (fun h => by subst h; first | exact absurd rfl ‹_› | exact tf (eqV_self _) ‹_› | exact tf (allEq_self _) ‹_›) | exact tru (by cases a; cases b; simp_all [eqV_iff, allEq_iff, tl_inj])), rfl, rfl⟩, mkr⟩
    ·replace hb3 := bne_eq_false_iff_eq.1 (hb3)
     refine X.skip ?_
     refine X.seq ?_
     refine sk ⟨[(2, .pt 64 0 0), (3, .pt 80 0 0), (24, bV (a.f3 != b.f3))], [(64, some (.box (cD (d155 a)))), (80, some (.box (cD (d155 b))))], 432⟩ ?_
     refine if_ (b := (a.f3 != b.f3)) (fun hb4 => ?_) (fun hb4 => ?_)
     ·replace hb4 := bne_iff_ne.1 (hb4)
      refine sk ⟨[(4, bV false)], [], 448⟩ ?_
      refine X.ret ?_
      exact ⟨trivial, _, _, ⟨false, (by first | exact fls (fun h => by subst h; first | exact absurd rfl ‹_› | exact tf (eqV_self _) ‹_› | exact tf (allEq_self _) ‹_›) | exact tru (by cases a; cases b; simp_all [eqV_iff, allEq_iff, tl_inj])), rfl, rfl⟩, mkr⟩
     ·replace hb4 := bne_eq_false_iff_eq.1 (hb4)
      refine X.skip ?_
      refine X.seq ?_
      refine X.seq (rs 4 ?_)
      obtain ⟨r5, hr7, hf6⟩ := l_eqLeaveS a.f4 b.f4 (by assumption) (by assumption)
      replace hr7 := hr7.symm; subst hr7
      refine ca hf6 Tryz.func131 ?_
      refine go 1 ?_
      refine ek ⟨[(30, bV (!(allEq a.f4 b.f4)))], [], 528⟩ ?_
      refine if_ (b := !(allEq a.f4 b.f4)) (fun hb9 => ?_) (fun hb9 => ?_)
      ·replace hb9 := bnot_yes (hb9)
       refine sk ⟨[(4, bV false)], [], 544⟩ ?_
       refine X.ret ?_
       exact ⟨trivial, _, _, ⟨false, (by first | exact fls (fun h => by subst h; first | exact absurd rfl ‹_› | exact tf (eqV_self _) ‹_› | exact tf (allEq_self _) ‹_›) | exact tru (by cases a; cases b; simp_all [eqV_iff, allEq_iff, tl_inj])), rfl, rfl⟩, mkr⟩
      ·replace hb9 := bnot_no (hb9)
       refine X.skip ?_
       refine sk ⟨[(4, bV true)], [], 544⟩ ?_
       refine X.ret ?_
       exact ⟨trivial, _, _, ⟨true, (by first | exact fls (fun h => by subst h; first | exact absurd rfl ‹_› | exact tf (eqV_self _) ‹_› | exact tf (allEq_self _) ‹_›) | exact tru (by cases a; cases b; simp_all [eqV_iff, allEq_iff, tl_inj])), rfl, rfl⟩, mkr⟩
 obtain ⟨_, _, ⟨r0, h1_, rfl, rfl⟩, hf⟩ := key
 exact ⟨r0, h1_, hf⟩

theorem l_toAcctS (l : List S151) (hl : (l.map toAcct).length ≤ 2000000 ∧ ∀ x, x ∈ (l.map toAcct) → Sm155 x) : ∃ r0 : List S155, (r0 = l.map toAcct) ∧ Fn Tryz.prog 72 [lV (l.map d151)] (lookH []) (.e (.c (.f (.sl (r0.map d155))))) (lookH []) := by
 have key : ∃ x' h', ((fun x' h' => ∃ r0 : List S155, (r0 = l.map toAcct) ∧ x' = .e (.c (.f (.sl (r0.map d155)))) ∧ h' = [])) x' h' ∧ Fn Tryz.prog 72 [lV (l.map d151)] (lookH []) x' (lookH h') := by
  refine Fn.bodyX (N := 23) hτ Tryz.func72 rfl rfl rfl rfl ?_
  refine sk ⟨[(0, lV (l.map d151))], [], 80⟩ ?_
  refine X.seq ?_
  have hll : l.length ≤ 2000000 := by have := hl.1; simpa only [List.length_map] using this
  have el1 : (l.map d151).length = l.length := List.length_map ..
  refine rs 2 ?_
  refine CH.mks hτ (n := (l.map d151).length) (bys := 64) (by kernel_rfl) (by kernel_rfl) (by first | omega | (simp only [List.length_map]; omega) | (simp; omega)) (by first | omega | (simp only [List.length_map]; omega) | (simp; omega)) (by kernel_rfl) ?_
  refine go 1 ?_
  refine CH.endk ⟨[(0, lV (l.map d151)), (3, rV 112)], [(112, some (.row 5 155 (List.replicate ((l.map d151).length) (d155 z155)) false true))], 144⟩ (by kernel_rfl) (by kernel_rfl) (s2 := ⟨[(0, lV (l.map d151)), (3, rV 112)], [(112, some (.row 5 155 ((List.replicate ((l.map d151).length) z155).map d155) false true))], 144⟩) (congrArg (fun z : List (List D) => (⟨[(0, lV (l.map d151)), (3, rV 112)], [(112, some (.row 5 155 z false true))], 144⟩ : St)) (show List.replicate ((l.map d151).length) (d155 z155) = ((List.replicate ((l.map d151).length) z155).map d155) from List.map_replicate.symm)) ?_
  refine X.seq ?_
  refine sk ⟨[(0, lV (l.map d151)), (3, rV 112), (4, iV 0)], [(112, some (.row 5 155 ((List.replicate ((l.map d151).length) z155).map d155) false true))], 160⟩ ?_
  refine X.block ?_
  -- 3: Lv3 : List S155, v4 : Int
  refine X.loop (σ := { g : (List S155) × Int // (fun (Lv3 : List S155) (v4 : Int) => 0 ≤ v4 ∧ v4 ≤ l.length ∧ Lv3.length = l.length ∧ ∀ (j : Nat) (x : S151), (j : Int) < v4 → l[j]? = some x → Lv3[j]? = some (toAcct x)) g.1 g.2 }) (fun g => (fun (Lv3 : List S155) (v4 : Int) => ⟨[(0, lV (l.map d151)), (3, rV 112), (4, iV v4)], [(112, some (.row 5 155 (Lv3.map d155) false true))], 160⟩) g.1.1 g.1.2) (fun g => (fun (Lv3 : List S155) (v4 : Int) => (l.length - v4).toNat) g.1.1 g.1.2) ⟨((List.replicate ((l.map d151).length) z155), 0), ⟨by first | omega | (dsimp only; omega), by first | omega | (dsimp only; omega), by simp, fun j x h => by first | omega | (dsimp only; omega)⟩⟩ (Wk.less (by kernel_rfl)) (fun g => ?_)
  obtain ⟨⟨Lv3, v4⟩, hg3⟩ := g
  have hg3 : 0 ≤ v4 ∧ v4 ≤ l.length ∧ Lv3.length = l.length ∧ ∀ (j : Nat) (x : S151), (j : Int) < v4 → l[j]? = some x → Lv3[j]? = some (toAcct x) := hg3
  obtain ⟨_, _, hL, hA⟩ := hg3
  refine X.seq ?_
  refine sk ⟨[(0, lV (l.map d151)), (3, rV 112), (4, iV v4), (11, bV (decide ((v4 : Int) < ((l.map d151).length : Int))))], [(112, some (.row 5 155 (Lv3.map d155) false true))], 224⟩ ?_
  refine if_ (b := decide ((v4 : Int) < ((l.map d151).length : Int))) (fun hb4 => ?_) (fun hb4 => ?_)
  ·replace hb4 := of_decide_eq_true (hb4)
   refine X.skip ?_
   refine X.seq ?_
   refine X.block ?_
   refine rs 4 ?_
   obtain ⟨x5, hx5⟩ : ∃ x, l[Int.toNat v4]? = some x := ⟨_, List.getElem?_eq_getElem (by first | omega | (simp; done) | (simp; omega))⟩
   refine CH.idx hτ (d151 x5) (rows := (l.map d151)) (n := v4) (sz := 5) (by kernel_rfl) (by kernel_rfl) (by first | omega | (simp; done) | (simp; omega)) (by rw [List.getElem?_map, hx5]; rfl) (by kernel_rfl) ?_
   refine go 1 ?_
   obtain ⟨r6, hr8, hf7⟩ := l_toAcct x5 (by exact hl.2 _ (List.mem_map.2 ⟨_, List.mem_of_getElem? ‹_›, rfl⟩))
   replace hr8 := hr8.symm; subst hr8
   refine ca hf7 Tryz.func108 ?_
   refine CH.idxR hτ (rows := (Lv3.map d155)) (n := v4) (b := 112) (by kernel_rfl) (by kernel_rfl) (by first | omega | (simp; done) | (simp; omega)) (by simp only [List.length_map, List.length_set]; first | omega | (simp; done) | (simp; omega)) (by kernel_rfl) ?_
   obtain ⟨x10, hx10⟩ : ∃ x, Lv3[Int.toNat v4]? = some x := ⟨_, List.getElem?_eq_getElem (by first | omega | (simp; done) | (simp; omega))⟩
   refine CH.row hτ (d155 x10) (by kernel_rfl) (by kernel_rfl) (by rw [List.getElem?_map, hx10]; rfl) (by kernel_rfl) ?_
   refine CH.endk ⟨[(0, lV (l.map d151)), (3, rV 112), (4, iV v4)], [(112, some (.row 5 155 ((Lv3.map d155).set (Int.toNat v4) (d155 ((toAcct x5)))) false true))], 368⟩ (by kernel_rfl) (by kernel_rfl) (s2 := ⟨[(0, lV (l.map d151)), (3, rV 112), (4, iV v4)], [(112, some (.row 5 155 ((Lv3.set (Int.toNat v4) ((toAcct x5))).map d155) false true))], 368⟩) (congrArg (fun z : List (List D) => (⟨[(0, lV (l.map d151)), (3, rV 112), (4, iV v4)], [(112, some (.row 5 155 z false true))], 368⟩ : St)) (show ((Lv3.map d155).set (Int.toNat v4) (d155 ((toAcct x5)))) = ((Lv3.set (Int.toNat v4) ((toAcct x5))).map d155) from List.map_set.symm)) ?_
   refine X.rk ⟨[(0, lV (l.map d151)), (3, rV 112), (4, iV (wrap64 (v4 + 1)))], [(112, some (.row 5 155 ((Lv3.set (Int.toNat v4) ((toAcct x5))).map d155) false true))], 416⟩ hτ hmix (by kernel_rfl) (by kernel_rfl) (s2 := ⟨[(0, lV (l.map d151)), (3, rV 112), (4, iV (v4 + 1))], [(112, some (.row 5 155 ((Lv3.set (Int.toNat v4) ((toAcct x5))).map d155) false true))], 416⟩) (congrArg (fun z : Int => (⟨[(0, lV (l.map d151)), (3, rV 112), (4, iV z)], [(112, some (.row 5 155 ((Lv3.set (Int.toNat v4) ((toAcct x5))).map d155) false true))], 416⟩ : St)) (show wrap64 (v4 + 1) = (v4 + 1) by rw [w64 (n := (v4 + 1)) (by omega) (by omega)])) ?_
   refine ⟨⟨((Lv3.set (Int.toNat v4) ((toAcct x5))), (v4 + 1)), ⟨by first | omega | (dsimp only; omega), by first | omega | (dsimp only; omega), by simp; omega, ts_next (f := toAcct) hA (by first | omega | (dsimp only; omega)) (by first | omega | (dsimp only; omega)) ‹_›⟩⟩, by first | exact rfl | omega | (dsimp only; omega) | (simp only [List.length_append, List.length_cons, List.length_nil, List.length_set]; omega) | (simp; done) | (simp; omega), Wk.mk' [(112, 112)] (by kernel_rfl) (by kernel_rfl) (by kernel_rfl)⟩
  ·replace hb4 := of_decide_eq_false (hb4)
   refine X.exit ?_
   refine sk ⟨[(2, rV 112)], [(112, some (.row 5 155 (Lv3.map d155) false true))], 256⟩ ?_
   refine X.ret ?_
   exact ⟨trivial, _, _, ⟨Lv3, ts_end hA hL (by omega), rfl, rfl⟩, .inr ⟨⟨[(2, .e (.c (.f (.sl (Lv3.map d155)))))], [(112, some (.row 5 155 (Lv3.map d155) true true))], 256⟩, Wk.less (by kernel_rfl), Ret.mk' [] (by kernel_rfl) (by kernel_rfl) (by kernel_rfl)⟩⟩
 obtain ⟨_, _, ⟨r0, h1_, rfl, rfl⟩, hf⟩ := key
 exact ⟨r0, h1_, hf⟩

theorem l_eqAcctS (l : List S155) (m : List S155) (hl : (l.length ≤ 2000000 ∧ ∀ z, z ∈ l → Sm155 z)) (hm : (m.length ≤ 2000000 ∧ ∀ z, z ∈ m → Sm155 z)) : ∃ r0 : Bool, (r0 = allEq l m) ∧ Fn Tryz.prog 91 [lV (l.map d155), lV (m.map d155)] (lookH []) (bV r0) (lookH []) := by
 have key : ∃ x' h', ((fun x' h' => ∃ r0 : Bool, (r0 = allEq l m) ∧ x' = bV r0 ∧ h' = [])) x' h' ∧ Fn Tryz.prog 91 [lV (l.map d155), lV (m.map d155)] (lookH []) x' (lookH h') := by
  refine Fn.bodyX (N := 27) hτ Tryz.func91 rfl rfl rfl rfl ?_
  refine sk ⟨[(0, lV (l.map d155)), (1, lV (m.map d155))], [], 80⟩ ?_
  refine X.seq ?_
  refine X.seq ?_
  have hll : l.length ≤ 2000000 := hl.1
  have hml : m.length ≤ 2000000 := hm.1
  have el1 : (l.map d155).length = l.length := List.length_map ..
  have el2 : (m.map d155).length = m.length := List.length_map ..
  refine rk ⟨[(0, lV (l.map d155)), (1, lV (m.map d155)), (10, bV (((l.map d155).length : Int) != ((m.map d155).length : Int)))], [], 160⟩ ?_
  refine if_ (b := (((l.map d155).length : Int) != ((m.map d155).length : Int))) (fun hb3 => ?_) (fun hb3 => ?_)
  ·replace hb3 := bne_iff_ne.1 (hb3)
   refine sk ⟨[(4, bV false)], [], 176⟩ ?_
   refine X.ret ?_
   exact ⟨trivial, _, _, ⟨false, (by first | exact fls (fun h => by have := congrArg List.length h; omega) | exact fls (eq_no ‹_› ‹_› (eqV_no ‹_›)) | exact tru (eq_all hA (by omega) (by omega))), rfl, rfl⟩, mkr⟩
  ·replace hb3 := bne_eq_false_iff_eq.1 (hb3)
   refine X.skip ?_
   refine X.seq ?_
   refine sk ⟨[(0, lV (l.map d155)), (1, lV (m.map d155)), (5, iV 0)], [], 176⟩ ?_
   refine X.block ?_
   -- 4: v5 : Int
   refine X.loop (σ := { g : Int // (fun (v5 : Int) => 0 ≤ v5 ∧ v5 ≤ l.length ∧ Upto (fun j x => m[j.toNat]? = some x) (fun n => l[n]?) v5) g }) (fun g => (fun (v5 : Int) => ⟨[(0, lV (l.map d155)), (1, lV (m.map d155)), (5, iV v5)], [], 176⟩) g.1) (fun g => (fun (v5 : Int) => (l.length - v5).toNat) g.1) ⟨0, ⟨by first | omega | (dsimp only; omega), by first | omega | (dsimp only; omega), upto_zero⟩⟩ (Wk.less (by kernel_rfl)) (fun g => ?_)
   obtain ⟨v5, hg5⟩ := g
   have hg5 : 0 ≤ v5 ∧ v5 ≤ l.length ∧ Upto (fun j x => m[j.toNat]? = some x) (fun n => l[n]?) v5 := hg5
   obtain ⟨_, _, hA⟩ := hg5
   refine X.seq ?_
   refine sk ⟨[(0, lV (l.map d155)), (1, lV (m.map d155)), (5, iV v5), (14, bV (decide ((v5 : Int) < ((l.map d155).length : Int))))], [], 240⟩ ?_
   refine if_ (b := decide ((v5 : Int) < ((l.map d155).length : Int))) (fun hb6 => ?_) (fun hb6 => ?_)
   ·replace hb6 := of_decide_eq_true (hb6)
    refine X.skip ?_
    refine X.seq ?_
    refine X.block ?_
    refine X.seq (rs 2 ?_)
    obtain ⟨x7, hx7⟩ : ∃ x, l[Int.toNat v5]? = some x := ⟨_, List.getElem?_eq_getElem (by first | omega | (simp; done) | (simp; omega))⟩
    refine CH.idx hτ (d155 x7) (rows := (l.map d155)) (n := v5) (sz := 5) (by kernel_rfl) (by kernel_rfl) (by first | omega | (simp; done) | (simp; omega)) (by rw [List.getElem?_map, hx7]; rfl) (by kernel_rfl) ?_
    refine go 3 ?_
    obtain ⟨x8, hx8⟩ : ∃ x, m[Int.toNat v5]? = some x := ⟨_, List.getElem?_eq_getElem (by first | omega | (simp; done) | (simp; omega))⟩
    refine CH.idx hτ (d155 x8) (rows := (m.map d155)) (n := v5) (sz := 5) (by kernel_rfl) (by kernel_rfl) (by first | omega | (simp; done) | (simp; omega)) (by rw [List.getElem?_map, hx8]; rfl) (by kernel_rfl) ?_
    refine go 1 ?_
    obtain ⟨r9, hr11, hf10⟩ := l_eqAcct x7 x8 (by exact all_at hl.2 ‹_›) (by exact all_at hm.2 ‹_›)
    replace hr11 := hr11.symm; subst hr11
    refine ca hf10 Tryz.func119 ?_
    refine go 1 ?_
    refine ek ⟨[(0, lV (l.map d155)), (1, lV (m.map d155)), (5, iV v5), (26, bV (!(eqV x7 x8)))], [], 400⟩ ?_
    refine if_ (b := !(eqV x7 x8)) (fun hb13 => ?_) (fun hb13 => ?_)
    ·replace hb13 := bnot_yes (hb13)
     refine sk ⟨[(4, bV false)], [], 416⟩ ?_
     refine X.ret ?_
     exact ⟨trivial, _, _, ⟨false, (by first | exact fls (fun h => by have := congrArg List.length h; omega) | exact fls (eq_no ‹_› ‹_› (eqV_no ‹_›)) | exact tru (eq_all hA (by omega) (by omega))), rfl, rfl⟩, mkr⟩
    ·replace hb13 := bnot_no (hb13)
     refine X.skip ?_
     refine X.rk ⟨[(0, lV (l.map d155)), (1, lV (m.map d155)), (5, iV (wrap64 (v5 + 1)))], [], 448⟩ hτ hmix (by kernel_rfl) (by kernel_rfl) (s2 := ⟨[(0, lV (l.map d155)), (1, lV (m.map d155)), (5, iV (v5 + 1))], [], 448⟩) (congrArg (fun z : Int => (⟨[(0, lV (l.map d155)), (1, lV (m.map d155)), (5, iV z)], [], 448⟩ : St)) (show wrap64 (v5 + 1) = (v5 + 1) by rw [w64 (n := (v5 + 1)) (by omega) (by omega)])) ?_
     refine ⟨⟨(v5 + 1), ⟨by first | omega | (dsimp only; omega), by first | omega | (dsimp only; omega), upto_nx (by first | omega | (dsimp only; omega)) hA ‹_› (eq_stp ‹_› (eqV_iff.1 ‹_›))⟩⟩, by first | exact rfl | omega | (dsimp only; omega) | (simp only [List.length_append, List.length_cons, List.length_nil, List.length_set]; omega) | (simp; done) | (simp; omega), Wk.mk' [] (by kernel_rfl) (by kernel_rfl) (by kernel_rfl)⟩
   ·replace hb6 := of_decide_eq_false (hb6)
    refine X.exit ?_
    refine sk ⟨[(4, bV true)], [], 256⟩ ?_
    refine X.ret ?_
    exact ⟨trivial, _, _, ⟨true, (by first | exact fls (fun h => by have := congrArg List.length h; omega) | exact fls (eq_no ‹_› ‹_› (eqV_no ‹_›)) | exact tru (eq_all hA (by omega) (by omega))), rfl, rfl⟩, mkr⟩
 obtain ⟨_, _, ⟨r0, h1_, rfl, rfl⟩, hf⟩ := key
 exact ⟨r0, h1_, hf⟩

theorem l_toLedger (x : S24) (hs : Sm43 (toLedger x)) : ∃ r0 : S43, (r0 = toLedger x) ∧ Fn Tryz.prog 27 [.e (.agg [.d (.v (.int .i64 x.f0)), .d (.sl (x.f1.map d151))])] (lookH []) (.e (.agg [.d (.v (.int .i64 r0.f0)), .f (.sl (r0.f1.map d155))])) (lookH []) := by
 have key : ∃ x' h', ((fun x' h' => ∃ r0 : S43, (r0 = toLedger x) ∧ x' = .e (.agg [.d (.v (.int .i64 r0.f0)), .f (.sl (r0.f1.map d155))]) ∧ h' = [])) x' h' ∧ Fn Tryz.prog 27 [.e (.agg [.d (.v (.int .i64 x.f0)), .d (.sl (x.f1.map d151))])] (lookH []) x' (lookH h') := by
  refine Fn.bodyX (N := 12) hτ Tryz.func27 rfl rfl rfl rfl ?_
  refine sk ⟨[(1, .pt 64 0 0), (2, .pt 80 0 0)], [(64, some (.box [.d (.v (.int .i64 x.f0)), .d (.sl (x.f1.map d151))])), (80, some (.box [.d (.v (.int .i64 0)), .nil]))], 96⟩ ?_
  refine X.seq ?_
  have hq1 : ((x.f1.map toAcct).length ≤ 2000000 ∧ ∀ z, z ∈ (x.f1.map toAcct) → Sm155 z) := hs
  refine rk ⟨[(1, .pt 64 0 0), (2, .pt 80 0 0), (3, .pt 96 0 0)], [(64, some (.box [.d (.v (.int .i64 x.f0)), .d (.sl (x.f1.map d151))])), (80, some (.box [.d (.v (.int .i64 0)), .nil])), (96, some (.box [.d (.v (.int .i64 0)), .nil]))], 112⟩ ?_
  refine sk ⟨[(1, .pt 64 0 0), (2, .pt 80 0 0), (3, .pt 96 0 0)], [(64, some (.box [.d (.v (.int .i64 x.f0)), .d (.sl (x.f1.map d151))])), (80, some (.box [.d (.v (.int .i64 0)), .nil])), (96, some (.box [.d (.v (.int .i64 x.f0)), .nil]))], 176⟩ ?_
  refine X.seq (rs 2 ?_)
  obtain ⟨r1, hr3, hf2⟩ := l_toAcctS x.f1 (by assumption)
  replace hr3 := hr3.symm; subst hr3
  have hlm : (x.f1.map toAcct).length = x.f1.length := List.length_map ..
  refine ca hf2 Tryz.func72 ?_
  refine go 2 ?_
  refine ek ⟨[(2, .pt 80 0 0), (3, .pt 96 0 0)], [(80, some (.box [.d (.v (.int .i64 0)), .nil])), (96, some (.box [.d (.v (.int .i64 x.f0)), .f (.sl ((x.f1.map toAcct).map d155))]))], 256⟩ ?_
  refine sk ⟨[(2, .pt 80 0 0)], [(80, some (.box [.d (.v (.int .i64 x.f0)), .f (.sl ((x.f1.map toAcct).map d155))]))], 288⟩ ?_
  refine X.ret ?_
  exact ⟨trivial, _, _, ⟨(⟨x.f0, (x.f1.map toAcct)⟩ : S43), rfl, rfl, rfl⟩, mkr⟩
 obtain ⟨_, _, ⟨r0, h1_, rfl, rfl⟩, hf⟩ := key
 exact ⟨r0, h1_, hf⟩

theorem l_eqLedger (a : S43) (b : S43) (ha : Sm43 a) (hb : Sm43 b) : ∃ r0 : Bool, (r0 = eqV a b) ∧ Fn Tryz.prog 45 [.e (.agg [.d (.v (.int .i64 a.f0)), .d (.sl (a.f1.map d155))]), .e (.agg [.d (.v (.int .i64 b.f0)), .d (.sl (b.f1.map d155))])] (lookH []) (bV r0) (lookH []) := by
 have key : ∃ x' h', ((fun x' h' => ∃ r0 : Bool, (r0 = eqV a b) ∧ x' = bV r0 ∧ h' = [])) x' h' ∧ Fn Tryz.prog 45 [.e (.agg [.d (.v (.int .i64 a.f0)), .d (.sl (a.f1.map d155))]), .e (.agg [.d (.v (.int .i64 b.f0)), .d (.sl (b.f1.map d155))])] (lookH []) x' (lookH h') := by
  refine Fn.bodyX (N := 16) hτ Tryz.func45 rfl rfl rfl rfl ?_
  refine sk ⟨[(2, .pt 64 0 0), (3, .pt 80 0 0)], [(64, some (.box [.d (.v (.int .i64 a.f0)), .d (.sl (a.f1.map d155))])), (80, some (.box [.d (.v (.int .i64 b.f0)), .d (.sl (b.f1.map d155))]))], 112⟩ ?_
  refine X.seq ?_
  refine X.seq ?_
  have a1 : (a.f1.length ≤ 2000000 ∧ ∀ z, z ∈ a.f1 → Sm155 z) := ha
  have b1 : (b.f1.length ≤ 2000000 ∧ ∀ z, z ∈ b.f1 → Sm155 z) := hb
  refine rk ⟨[(2, .pt 64 0 0), (3, .pt 80 0 0), (9, bV (a.f0 != b.f0))], [(64, some (.box [.d (.v (.int .i64 a.f0)), .d (.sl (a.f1.map d155))])), (80, some (.box [.d (.v (.int .i64 b.f0)), .d (.sl (b.f1.map d155))]))], 192⟩ ?_
  refine if_ (b := (a.f0 != b.f0)) (fun hb1 => ?_) (fun hb1 => ?_)
  ·replace hb1 := bne_iff_ne.1 (hb1)
   refine sk ⟨[(4, bV false)], [], 208⟩ ?_
   refine X.ret ?_
   exact ⟨trivial, _, _, ⟨false, (by first | exact fls (fun h => by subst h; first | exact absurd rfl ‹_› | exact tf (eqV_self _) ‹_› | exact tf (allEq_self _) ‹_›) | exact tru (by cases a; cases b; simp_all [eqV_iff, allEq_iff, tl_inj])), rfl, rfl⟩, mkr⟩
  ·replace hb1 := bne_eq_false_iff_eq.1 (hb1)
   refine X.skip ?_
   refine X.seq ?_
   refine X.seq (rs 4 ?_)
   obtain ⟨r2, hr4, hf3⟩ := l_eqAcctS a.f1 b.f1 (by assumption) (by assumption)
   replace hr4 := hr4.symm; subst hr4
   refine ca hf3 Tryz.func91 ?_
   refine go 1 ?_
   refine ek ⟨[(15, bV (!(allEq a.f1 b.f1)))], [], 288⟩ ?_
   refine if_ (b := !(allEq a.f1 b.f1)) (fun hb6 => ?_) (fun hb6 => ?_)
   ·replace hb6 := bnot_yes (hb6)
    refine sk ⟨[(4, bV false)], [], 304⟩ ?_
    refine X.ret ?_
    exact ⟨trivial, _, _, ⟨false, (by first | exact fls (fun h => by subst h; first | exact absurd rfl ‹_› | exact tf (eqV_self _) ‹_› | exact tf (allEq_self _) ‹_›) | exact tru (by cases a; cases b; simp_all [eqV_iff, allEq_iff, tl_inj])), rfl, rfl⟩, mkr⟩
   ·replace hb6 := bnot_no (hb6)
    refine X.skip ?_
    refine sk ⟨[(4, bV true)], [], 304⟩ ?_
    refine X.ret ?_
    exact ⟨trivial, _, _, ⟨true, (by first | exact fls (fun h => by subst h; first | exact absurd rfl ‹_› | exact tf (eqV_self _) ‹_› | exact tf (allEq_self _) ‹_›) | exact tru (by cases a; cases b; simp_all [eqV_iff, allEq_iff, tl_inj])), rfl, rfl⟩, mkr⟩
 obtain ⟨_, _, ⟨r0, h1_, rfl, rfl⟩, hf⟩ := key
 exact ⟨r0, h1_, hf⟩

theorem l_toVal (x : S100) (hs : Sm121 (toVal x)) : ∃ r0 : S121, (r0 = toVal x) ∧ Fn Tryz.prog 73 [.e (.agg [.d (.v (.string x.f0)), .d (.v (.int .i64 x.f1))])] (lookH []) (.e (.agg [.d (.v (.string r0.f0)), .d (.v (.int .i64 r0.f1))])) (lookH []) := by
 have key : ∃ x' h', ((fun x' h' => ∃ r0 : S121, (r0 = toVal x) ∧ x' = .e (.agg [.d (.v (.string r0.f0)), .d (.v (.int .i64 r0.f1))]) ∧ h' = [])) x' h' ∧ Fn Tryz.prog 73 [.e (.agg [.d (.v (.string x.f0)), .d (.v (.int .i64 x.f1))])] (lookH []) x' (lookH h') := by
  refine Fn.bodyX (N := 11) hτ Tryz.func73 rfl rfl rfl rfl ?_
  refine sk ⟨[(1, .pt 64 0 0), (2, .pt 80 0 0)], [(64, some (.box [.d (.v (.string x.f0)), .d (.v (.int .i64 x.f1))])), (80, some (.box [.d (.v (.string (⟨#[]⟩ : ByteArray))), .d (.v (.int .i64 0))]))], 96⟩ ?_
  refine sk ⟨[(1, .pt 64 0 0), (2, .pt 80 0 0), (3, .pt 96 0 0)], [(64, some (.box [.d (.v (.string x.f0)), .d (.v (.int .i64 x.f1))])), (80, some (.box [.d (.v (.string (⟨#[]⟩ : ByteArray))), .d (.v (.int .i64 0))])), (96, some (.box [.d (.v (.string (⟨#[]⟩ : ByteArray))), .d (.v (.int .i64 0))]))], 112⟩ ?_
  refine sk ⟨[(1, .pt 64 0 0), (2, .pt 80 0 0), (3, .pt 96 0 0)], [(64, some (.box [.d (.v (.string x.f0)), .d (.v (.int .i64 x.f1))])), (80, some (.box [.d (.v (.string (⟨#[]⟩ : ByteArray))), .d (.v (.int .i64 0))])), (96, some (.box [.d (.v (.string x.f0)), .d (.v (.int .i64 0))]))], 176⟩ ?_
  refine sk ⟨[(2, .pt 80 0 0), (3, .pt 96 0 0)], [(80, some (.box [.d (.v (.string (⟨#[]⟩ : ByteArray))), .d (.v (.int .i64 0))])), (96, some (.box [.d (.v (.string x.f0)), .d (.v (.int .i64 x.f1))]))], 240⟩ ?_
  refine sk ⟨[(2, .pt 80 0 0)], [(80, some (.box [.d (.v (.string x.f0)), .d (.v (.int .i64 x.f1))]))], 272⟩ ?_
  refine X.ret ?_
  exact ⟨trivial, _, _, ⟨(⟨x.f0, x.f1⟩ : S121), rfl, rfl, rfl⟩, mkr⟩
 obtain ⟨_, _, ⟨r0, h1_, rfl, rfl⟩, hf⟩ := key
 exact ⟨r0, h1_, hf⟩

theorem l_eqVal (a : S121) (b : S121) (ha : Sm121 a) (hb : Sm121 b) : ∃ r0 : Bool, (r0 = eqV a b) ∧ Fn Tryz.prog 92 [.e (.agg [.d (.v (.string a.f0)), .d (.v (.int .i64 a.f1))]), .e (.agg [.d (.v (.string b.f0)), .d (.v (.int .i64 b.f1))])] (lookH []) (bV r0) (lookH []) := by
 have key : ∃ x' h', ((fun x' h' => ∃ r0 : Bool, (r0 = eqV a b) ∧ x' = bV r0 ∧ h' = [])) x' h' ∧ Fn Tryz.prog 92 [.e (.agg [.d (.v (.string a.f0)), .d (.v (.int .i64 a.f1))]), .e (.agg [.d (.v (.string b.f0)), .d (.v (.int .i64 b.f1))])] (lookH []) x' (lookH h') := by
  refine Fn.bodyX (N := 15) hτ Tryz.func92 rfl rfl rfl rfl ?_
  refine sk ⟨[(2, .pt 64 0 0), (3, .pt 80 0 0)], [(64, some (.box [.d (.v (.string a.f0)), .d (.v (.int .i64 a.f1))])), (80, some (.box [.d (.v (.string b.f0)), .d (.v (.int .i64 b.f1))]))], 112⟩ ?_
  refine X.seq ?_
  refine X.seq ?_
  have a0 : SmS a.f0 := ha
  have b0 : SmS b.f0 := hb
  refine rk ⟨[(2, .pt 64 0 0), (3, .pt 80 0 0), (9, bV (!(a.f0.toList == b.f0.toList)))], [(64, some (.box [.d (.v (.string a.f0)), .d (.v (.int .i64 a.f1))])), (80, some (.box [.d (.v (.string b.f0)), .d (.v (.int .i64 b.f1))]))], 192⟩ ?_
  refine if_ (b := !(a.f0.toList == b.f0.toList)) (fun hb1 => ?_) (fun hb1 => ?_)
  ·replace hb1 := beq_no (bnot_yes (hb1))
   refine sk ⟨[(4, bV false)], [], 208⟩ ?_
   refine X.ret ?_
   exact ⟨trivial, _, _, ⟨false, (by first | exact fls (fun h => by subst h; first | exact absurd rfl ‹_› | exact tf (eqV_self _) ‹_› | exact tf (allEq_self _) ‹_›) | exact tru (by cases a; cases b; simp_all [eqV_iff, allEq_iff, tl_inj])), rfl, rfl⟩, mkr⟩
  ·replace hb1 := beq_yes (bnot_no (hb1))
   refine X.skip ?_
   refine X.seq ?_
   refine sk ⟨[(14, bV (a.f1 != b.f1))], [], 272⟩ ?_
   refine if_ (b := (a.f1 != b.f1)) (fun hb2 => ?_) (fun hb2 => ?_)
   ·replace hb2 := bne_iff_ne.1 (hb2)
    refine sk ⟨[(4, bV false)], [], 288⟩ ?_
    refine X.ret ?_
    exact ⟨trivial, _, _, ⟨false, (by first | exact fls (fun h => by subst h; first | exact absurd rfl ‹_› | exact tf (eqV_self _) ‹_› | exact tf (allEq_self _) ‹_›) | exact tru (by cases a; cases b; simp_all [eqV_iff, allEq_iff, tl_inj])), rfl, rfl⟩, mkr⟩
   ·replace hb2 := bne_eq_false_iff_eq.1 (hb2)
    refine X.skip ?_
    refine sk ⟨[(4, bV true)], [], 288⟩ ?_
    refine X.ret ?_
    exact ⟨trivial, _, _, ⟨true, (by first | exact fls (fun h => by subst h; first | exact absurd rfl ‹_› | exact tf (eqV_self _) ‹_› | exact tf (allEq_self _) ‹_›) | exact tru (by cases a; cases b; simp_all [eqV_iff, allEq_iff, tl_inj])), rfl, rfl⟩, mkr⟩
 obtain ⟨_, _, ⟨r0, h1_, rfl, rfl⟩, hf⟩ := key
 exact ⟨r0, h1_, hf⟩

theorem l_toValS (l : List S100) (hl : SmV (l.map toVal)) : ∃ r0 : List S121, (r0 = l.map toVal) ∧ Fn Tryz.prog 28 [lV (l.map d100)] (lookH []) (.e (.c (.f (.sl (r0.map d121))))) (lookH []) := by
 have key : ∃ x' h', ((fun x' h' => ∃ r0 : List S121, (r0 = l.map toVal) ∧ x' = .e (.c (.f (.sl (r0.map d121)))) ∧ h' = [])) x' h' ∧ Fn Tryz.prog 28 [lV (l.map d100)] (lookH []) x' (lookH h') := by
  refine Fn.bodyX (N := 23) hτ Tryz.func28 rfl rfl rfl rfl ?_
  refine sk ⟨[(0, lV (l.map d100))], [], 80⟩ ?_
  refine X.seq ?_
  have hll : l.length ≤ 2000000 := by have := hl.1; simpa only [List.length_map] using this
  have el1 : (l.map d100).length = l.length := List.length_map ..
  refine rs 2 ?_
  refine CH.mks hτ (n := (l.map d100).length) (bys := 24) (by kernel_rfl) (by kernel_rfl) (by first | omega | (simp only [List.length_map]; omega) | (simp; omega)) (by first | omega | (simp only [List.length_map]; omega) | (simp; omega)) (by kernel_rfl) ?_
  refine go 1 ?_
  refine CH.endk ⟨[(0, lV (l.map d100)), (3, rV 112)], [(112, some (.row 2 121 (List.replicate ((l.map d100).length) (d121 z121)) false true))], 144⟩ (by kernel_rfl) (by kernel_rfl) (s2 := ⟨[(0, lV (l.map d100)), (3, rV 112)], [(112, some (.row 2 121 ((List.replicate ((l.map d100).length) z121).map d121) false true))], 144⟩) (congrArg (fun z : List (List D) => (⟨[(0, lV (l.map d100)), (3, rV 112)], [(112, some (.row 2 121 z false true))], 144⟩ : St)) (show List.replicate ((l.map d100).length) (d121 z121) = ((List.replicate ((l.map d100).length) z121).map d121) from List.map_replicate.symm)) ?_
  refine X.seq ?_
  refine sk ⟨[(0, lV (l.map d100)), (3, rV 112), (4, iV 0)], [(112, some (.row 2 121 ((List.replicate ((l.map d100).length) z121).map d121) false true))], 160⟩ ?_
  refine X.block ?_
  -- 3: Lv3 : List S121, v4 : Int
  refine X.loop (σ := { g : (List S121) × Int // (fun (Lv3 : List S121) (v4 : Int) => 0 ≤ v4 ∧ v4 ≤ l.length ∧ Lv3.length = l.length ∧ ∀ (j : Nat) (x : S100), (j : Int) < v4 → l[j]? = some x → Lv3[j]? = some (toVal x)) g.1 g.2 }) (fun g => (fun (Lv3 : List S121) (v4 : Int) => ⟨[(0, lV (l.map d100)), (3, rV 112), (4, iV v4)], [(112, some (.row 2 121 (Lv3.map d121) false true))], 160⟩) g.1.1 g.1.2) (fun g => (fun (Lv3 : List S121) (v4 : Int) => (l.length - v4).toNat) g.1.1 g.1.2) ⟨((List.replicate ((l.map d100).length) z121), 0), ⟨by first | omega | (dsimp only; omega), by first | omega | (dsimp only; omega), by simp, fun j x h => by first | omega | (dsimp only; omega)⟩⟩ (Wk.less (by kernel_rfl)) (fun g => ?_)
  obtain ⟨⟨Lv3, v4⟩, hg3⟩ := g
  have hg3 : 0 ≤ v4 ∧ v4 ≤ l.length ∧ Lv3.length = l.length ∧ ∀ (j : Nat) (x : S100), (j : Int) < v4 → l[j]? = some x → Lv3[j]? = some (toVal x) := hg3
  obtain ⟨_, _, hL, hA⟩ := hg3
  refine X.seq ?_
  refine sk ⟨[(0, lV (l.map d100)), (3, rV 112), (4, iV v4), (11, bV (decide ((v4 : Int) < ((l.map d100).length : Int))))], [(112, some (.row 2 121 (Lv3.map d121) false true))], 224⟩ ?_
  refine if_ (b := decide ((v4 : Int) < ((l.map d100).length : Int))) (fun hb4 => ?_) (fun hb4 => ?_)
  ·replace hb4 := of_decide_eq_true (hb4)
   refine X.skip ?_
   refine X.seq ?_
   refine X.block ?_
   refine rs 4 ?_
   obtain ⟨x5, hx5⟩ : ∃ x, l[Int.toNat v4]? = some x := ⟨_, List.getElem?_eq_getElem (by first | omega | (simp; done) | (simp; omega))⟩
   refine CH.idx hτ (d100 x5) (rows := (l.map d100)) (n := v4) (sz := 2) (by kernel_rfl) (by kernel_rfl) (by first | omega | (simp; done) | (simp; omega)) (by rw [List.getElem?_map, hx5]; rfl) (by kernel_rfl) ?_
   refine go 1 ?_
   obtain ⟨r6, hr8, hf7⟩ := l_toVal x5 (by exact hl.2 _ (List.mem_map.2 ⟨_, List.mem_of_getElem? ‹_›, rfl⟩))
   replace hr8 := hr8.symm; subst hr8
   refine ca hf7 Tryz.func73 ?_
   refine CH.idxR hτ (rows := (Lv3.map d121)) (n := v4) (b := 112) (by kernel_rfl) (by kernel_rfl) (by first | omega | (simp; done) | (simp; omega)) (by simp only [List.length_map, List.length_set]; first | omega | (simp; done) | (simp; omega)) (by kernel_rfl) ?_
   obtain ⟨x10, hx10⟩ : ∃ x, Lv3[Int.toNat v4]? = some x := ⟨_, List.getElem?_eq_getElem (by first | omega | (simp; done) | (simp; omega))⟩
   refine CH.row hτ (d121 x10) (by kernel_rfl) (by kernel_rfl) (by rw [List.getElem?_map, hx10]; rfl) (by kernel_rfl) ?_
   refine CH.endk ⟨[(0, lV (l.map d100)), (3, rV 112), (4, iV v4)], [(112, some (.row 2 121 ((Lv3.map d121).set (Int.toNat v4) (d121 ((toVal x5)))) false true))], 368⟩ (by kernel_rfl) (by kernel_rfl) (s2 := ⟨[(0, lV (l.map d100)), (3, rV 112), (4, iV v4)], [(112, some (.row 2 121 ((Lv3.set (Int.toNat v4) ((toVal x5))).map d121) false true))], 368⟩) (congrArg (fun z : List (List D) => (⟨[(0, lV (l.map d100)), (3, rV 112), (4, iV v4)], [(112, some (.row 2 121 z false true))], 368⟩ : St)) (show ((Lv3.map d121).set (Int.toNat v4) (d121 ((toVal x5)))) = ((Lv3.set (Int.toNat v4) ((toVal x5))).map d121) from List.map_set.symm)) ?_
   refine X.rk ⟨[(0, lV (l.map d100)), (3, rV 112), (4, iV (wrap64 (v4 + 1)))], [(112, some (.row 2 121 ((Lv3.set (Int.toNat v4) ((toVal x5))).map d121) false true))], 416⟩ hτ hmix (by kernel_rfl) (by kernel_rfl) (s2 := ⟨[(0, lV (l.map d100)), (3, rV 112), (4, iV (v4 + 1))], [(112, some (.row 2 121 ((Lv3.set (Int.toNat v4) ((toVal x5))).map d121) false true))], 416⟩) (congrArg (fun z : Int => (⟨[(0, lV (l.map d100)), (3, rV 112), (4, iV z)], [(112, some (.row 2 121 ((Lv3.set (Int.toNat v4) ((toVal x5))).map d121) false true))], 416⟩ : St)) (show wrap64 (v4 + 1) = (v4 + 1) by rw [w64 (n := (v4 + 1)) (by omega) (by omega)])) ?_
   refine ⟨⟨((Lv3.set (Int.toNat v4) ((toVal x5))), (v4 + 1)), ⟨by first | omega | (dsimp only; omega), by first | omega | (dsimp only; omega), by simp; omega, ts_next (f := toVal) hA (by first | omega | (dsimp only; omega)) (by first | omega | (dsimp only; omega)) ‹_›⟩⟩, by first | exact rfl | omega | (dsimp only; omega) | (simp only [List.length_append, List.length_cons, List.length_nil, List.length_set]; omega) | (simp; done) | (simp; omega), Wk.mk' [(112, 112)] (by kernel_rfl) (by kernel_rfl) (by kernel_rfl)⟩
  ·replace hb4 := of_decide_eq_false (hb4)
   refine X.exit ?_
   refine sk ⟨[(2, rV 112)], [(112, some (.row 2 121 (Lv3.map d121) false true))], 256⟩ ?_
   refine X.ret ?_
   exact ⟨trivial, _, _, ⟨Lv3, ts_end hA hL (by omega), rfl, rfl⟩, .inr ⟨⟨[(2, .e (.c (.f (.sl (Lv3.map d121)))))], [(112, some (.row 2 121 (Lv3.map d121) true true))], 256⟩, Wk.less (by kernel_rfl), Ret.mk' [] (by kernel_rfl) (by kernel_rfl) (by kernel_rfl)⟩⟩
 obtain ⟨_, _, ⟨r0, h1_, rfl, rfl⟩, hf⟩ := key
 exact ⟨r0, h1_, hf⟩

theorem l_eqValS (l : List S121) (m : List S121) (hl : SmV l) (hm : SmV m) : ∃ r0 : Bool, (r0 = allEq l m) ∧ Fn Tryz.prog 46 [lV (l.map d121), lV (m.map d121)] (lookH []) (bV r0) (lookH []) := by
 have key : ∃ x' h', ((fun x' h' => ∃ r0 : Bool, (r0 = allEq l m) ∧ x' = bV r0 ∧ h' = [])) x' h' ∧ Fn Tryz.prog 46 [lV (l.map d121), lV (m.map d121)] (lookH []) x' (lookH h') := by
  refine Fn.bodyX (N := 27) hτ Tryz.func46 rfl rfl rfl rfl ?_
  refine sk ⟨[(0, lV (l.map d121)), (1, lV (m.map d121))], [], 80⟩ ?_
  refine X.seq ?_
  refine X.seq ?_
  have hll : l.length ≤ 2000000 := hl.1
  have hml : m.length ≤ 2000000 := hm.1
  have el1 : (l.map d121).length = l.length := List.length_map ..
  have el2 : (m.map d121).length = m.length := List.length_map ..
  refine rk ⟨[(0, lV (l.map d121)), (1, lV (m.map d121)), (10, bV (((l.map d121).length : Int) != ((m.map d121).length : Int)))], [], 160⟩ ?_
  refine if_ (b := (((l.map d121).length : Int) != ((m.map d121).length : Int))) (fun hb3 => ?_) (fun hb3 => ?_)
  ·replace hb3 := bne_iff_ne.1 (hb3)
   refine sk ⟨[(4, bV false)], [], 176⟩ ?_
   refine X.ret ?_
   exact ⟨trivial, _, _, ⟨false, (by first | exact fls (fun h => by have := congrArg List.length h; omega) | exact fls (eq_no ‹_› ‹_› (eqV_no ‹_›)) | exact tru (eq_all hA (by omega) (by omega))), rfl, rfl⟩, mkr⟩
  ·replace hb3 := bne_eq_false_iff_eq.1 (hb3)
   refine X.skip ?_
   refine X.seq ?_
   refine sk ⟨[(0, lV (l.map d121)), (1, lV (m.map d121)), (5, iV 0)], [], 176⟩ ?_
   refine X.block ?_
   -- 4: v5 : Int
   refine X.loop (σ := { g : Int // (fun (v5 : Int) => 0 ≤ v5 ∧ v5 ≤ l.length ∧ Upto (fun j x => m[j.toNat]? = some x) (fun n => l[n]?) v5) g }) (fun g => (fun (v5 : Int) => ⟨[(0, lV (l.map d121)), (1, lV (m.map d121)), (5, iV v5)], [], 176⟩) g.1) (fun g => (fun (v5 : Int) => (l.length - v5).toNat) g.1) ⟨0, ⟨by first | omega | (dsimp only; omega), by first | omega | (dsimp only; omega), upto_zero⟩⟩ (Wk.less (by kernel_rfl)) (fun g => ?_)
   obtain ⟨v5, hg5⟩ := g
   have hg5 : 0 ≤ v5 ∧ v5 ≤ l.length ∧ Upto (fun j x => m[j.toNat]? = some x) (fun n => l[n]?) v5 := hg5
   obtain ⟨_, _, hA⟩ := hg5
   refine X.seq ?_
   refine sk ⟨[(0, lV (l.map d121)), (1, lV (m.map d121)), (5, iV v5), (14, bV (decide ((v5 : Int) < ((l.map d121).length : Int))))], [], 240⟩ ?_
   refine if_ (b := decide ((v5 : Int) < ((l.map d121).length : Int))) (fun hb6 => ?_) (fun hb6 => ?_)
   ·replace hb6 := of_decide_eq_true (hb6)
    refine X.skip ?_
    refine X.seq ?_
    refine X.block ?_
    refine X.seq (rs 2 ?_)
    obtain ⟨x7, hx7⟩ : ∃ x, l[Int.toNat v5]? = some x := ⟨_, List.getElem?_eq_getElem (by first | omega | (simp; done) | (simp; omega))⟩
    refine CH.idx hτ (d121 x7) (rows := (l.map d121)) (n := v5) (sz := 2) (by kernel_rfl) (by kernel_rfl) (by first | omega | (simp; done) | (simp; omega)) (by rw [List.getElem?_map, hx7]; rfl) (by kernel_rfl) ?_
    refine go 3 ?_
    obtain ⟨x8, hx8⟩ : ∃ x, m[Int.toNat v5]? = some x := ⟨_, List.getElem?_eq_getElem (by first | omega | (simp; done) | (simp; omega))⟩
    refine CH.idx hτ (d121 x8) (rows := (m.map d121)) (n := v5) (sz := 2) (by kernel_rfl) (by kernel_rfl) (by first | omega | (simp; done) | (simp; omega)) (by rw [List.getElem?_map, hx8]; rfl) (by kernel_rfl) ?_
    refine go 1 ?_
    obtain ⟨r9, hr11, hf10⟩ := l_eqVal x7 x8 (by exact all_at hl.2 ‹_›) (by exact all_at hm.2 ‹_›)
    replace hr11 := hr11.symm; subst hr11
    refine ca hf10 Tryz.func92 ?_
    refine go 1 ?_
    refine ek ⟨[(0, lV (l.map d121)), (1, lV (m.map d121)), (5, iV v5), (26, bV (!(eqV x7 x8)))], [], 400⟩ ?_
    refine if_ (b := !(eqV x7 x8)) (fun hb13 => ?_) (fun hb13 => ?_)
    ·replace hb13 := bnot_yes (hb13)
     refine sk ⟨[(4, bV false)], [], 416⟩ ?_
     refine X.ret ?_
     exact ⟨trivial, _, _, ⟨false, (by first | exact fls (fun h => by have := congrArg List.length h; omega) | exact fls (eq_no ‹_› ‹_› (eqV_no ‹_›)) | exact tru (eq_all hA (by omega) (by omega))), rfl, rfl⟩, mkr⟩
    ·replace hb13 := bnot_no (hb13)
     refine X.skip ?_
     refine X.rk ⟨[(0, lV (l.map d121)), (1, lV (m.map d121)), (5, iV (wrap64 (v5 + 1)))], [], 448⟩ hτ hmix (by kernel_rfl) (by kernel_rfl) (s2 := ⟨[(0, lV (l.map d121)), (1, lV (m.map d121)), (5, iV (v5 + 1))], [], 448⟩) (congrArg (fun z : Int => (⟨[(0, lV (l.map d121)), (1, lV (m.map d121)), (5, iV z)], [], 448⟩ : St)) (show wrap64 (v5 + 1) = (v5 + 1) by rw [w64 (n := (v5 + 1)) (by omega) (by omega)])) ?_
     refine ⟨⟨(v5 + 1), ⟨by first | omega | (dsimp only; omega), by first | omega | (dsimp only; omega), upto_nx (by first | omega | (dsimp only; omega)) hA ‹_› (eq_stp ‹_› (eqV_iff.1 ‹_›))⟩⟩, by first | exact rfl | omega | (dsimp only; omega) | (simp only [List.length_append, List.length_cons, List.length_nil, List.length_set]; omega) | (simp; done) | (simp; omega), Wk.mk' [] (by kernel_rfl) (by kernel_rfl) (by kernel_rfl)⟩
   ·replace hb6 := of_decide_eq_false (hb6)
    refine X.exit ?_
    refine sk ⟨[(4, bV true)], [], 256⟩ ?_
    refine X.ret ?_
    exact ⟨trivial, _, _, ⟨true, (by first | exact fls (fun h => by have := congrArg List.length h; omega) | exact fls (eq_no ‹_› ‹_› (eqV_no ‹_›)) | exact tru (eq_all hA (by omega) (by omega))), rfl, rfl⟩, mkr⟩
 obtain ⟨_, _, ⟨r0, h1_, rfl, rfl⟩, hf⟩ := key
 exact ⟨r0, h1_, hf⟩

theorem l_toQc (x : S29) (hs : Sm46 (toQc x)) : ∃ r0 : S46, (r0 = toQc x) ∧ Fn Tryz.prog 30 [.e (.agg (cD (d29 x)))] (lookH []) (.e (.agg [.d (.v (.int .i64 r0.f0)), .d (.v (.int .i64 r0.f1)), .f (.sl (r0.f2.map dS))])) (lookH []) := by
 have key : ∃ x' h', ((fun x' h' => ∃ r0 : S46, (r0 = toQc x) ∧ x' = .e (.agg [.d (.v (.int .i64 r0.f0)), .d (.v (.int .i64 r0.f1)), .f (.sl (r0.f2.map dS))]) ∧ h' = [])) x' h' ∧ Fn Tryz.prog 30 [.e (.agg (cD (d29 x)))] (lookH []) x' (lookH h') := by
  refine Fn.bodyX (N := 15) hτ Tryz.func30 rfl rfl rfl rfl ?_
  refine sk ⟨[(1, .pt 64 0 0), (2, .pt 80 0 0)], [(64, some (.box (cD (d29 x)))), (80, some (.box [.d (.v (.int .i64 0)), .d (.v (.int .i64 0)), .nil]))], 96⟩ ?_
  refine X.seq ?_
  have hq2 : SmN x.f2 := hs
  refine rk ⟨[(1, .pt 64 0 0), (2, .pt 80 0 0), (3, .pt 96 0 0)], [(64, some (.box (cD (d29 x)))), (80, some (.box [.d (.v (.int .i64 0)), .d (.v (.int .i64 0)), .nil])), (96, some (.box [.d (.v (.int .i64 0)), .d (.v (.int .i64 0)), .nil]))], 112⟩ ?_
  refine sk ⟨[(1, .pt 64 0 0), (2, .pt 80 0 0), (3, .pt 96 0 0)], [(64, some (.box (cD (d29 x)))), (80, some (.box [.d (.v (.int .i64 0)), .d (.v (.int .i64 0)), .nil])), (96, some (.box [.d (.v (.int .i64 x.f0)), .d (.v (.int .i64 0)), .nil]))], 176⟩ ?_
  refine sk ⟨[(1, .pt 64 0 0), (2, .pt 80 0 0), (3, .pt 96 0 0)], [(64, some (.box (cD (d29 x)))), (80, some (.box [.d (.v (.int .i64 0)), .d (.v (.int .i64 0)), .nil])), (96, some (.box [.d (.v (.int .i64 x.f0)), .d (.v (.int .i64 x.f1)), .nil]))], 240⟩ ?_
  refine X.seq (rs 2 ?_)
  obtain ⟨r1, hr3, hf2⟩ := l_toStringS x.f2 (by assumption)
  replace hr3 := hr3.symm; subst hr3
  refine ca hf2 Tryz.func75 ?_
  refine go 2 ?_
  refine ek ⟨[(2, .pt 80 0 0), (3, .pt 96 0 0)], [(80, some (.box [.d (.v (.int .i64 0)), .d (.v (.int .i64 0)), .nil])), (96, some (.box [.d (.v (.int .i64 x.f0)), .d (.v (.int .i64 x.f1)), .f (.sl (x.f2.map dS))]))], 320⟩ ?_
  refine sk ⟨[(2, .pt 80 0 0)], [(80, some (.box [.d (.v (.int .i64 x.f0)), .d (.v (.int .i64 x.f1)), .f (.sl (x.f2.map dS))]))], 352⟩ ?_
  refine X.ret ?_
  exact ⟨trivial, _, _, ⟨(⟨x.f0, x.f1, x.f2⟩ : S46), rfl, rfl, rfl⟩, mkr⟩
 obtain ⟨_, _, ⟨r0, h1_, rfl, rfl⟩, hf⟩ := key
 exact ⟨r0, h1_, hf⟩

theorem l_eqQc (a : S46) (b : S46) (ha : Sm46 a) (hb : Sm46 b) : ∃ r0 : Bool, (r0 = eqV a b) ∧ Fn Tryz.prog 48 [.e (.agg (cD (d46 a))), .e (.agg (cD (d46 b)))] (lookH []) (bV r0) (lookH []) := by
 have key : ∃ x' h', ((fun x' h' => ∃ r0 : Bool, (r0 = eqV a b) ∧ x' = bV r0 ∧ h' = [])) x' h' ∧ Fn Tryz.prog 48 [.e (.agg (cD (d46 a))), .e (.agg (cD (d46 b)))] (lookH []) x' (lookH h') := by
  refine Fn.bodyX (N := 21) hτ Tryz.func48 rfl rfl rfl rfl ?_
  refine sk ⟨[(2, .pt 64 0 0), (3, .pt 80 0 0)], [(64, some (.box (cD (d46 a)))), (80, some (.box (cD (d46 b))))], 112⟩ ?_
  refine X.seq ?_
  refine X.seq ?_
  have a2 : SmN a.f2 := ha
  have b2 : SmN b.f2 := hb
  refine rk ⟨[(2, .pt 64 0 0), (3, .pt 80 0 0), (9, bV (a.f0 != b.f0))], [(64, some (.box (cD (d46 a)))), (80, some (.box (cD (d46 b))))], 192⟩ ?_
  refine if_ (b := (a.f0 != b.f0)) (fun hb1 => ?_) (fun hb1 => ?_)
  ·replace hb1 := bne_iff_ne.1 (hb1)
   refine sk ⟨[(4, bV false)], [], 208⟩ ?_
   refine X.ret ?_
   exact ⟨trivial, _, _, ⟨false, (by first | exact fls (fun h => by subst h; first | exact absurd rfl ‹_› | exact tf (eqV_self _) ‹_› | exact tf (allEq_self _) ‹_›) | exact tru (by cases a; cases b; simp_all [eqV_iff, allEq_iff, tl_inj])), rfl, rfl⟩, mkr⟩
  ·replace hb1 := bne_eq_false_iff_eq.1 (hb1)
   refine X.skip ?_
   refine X.seq ?_
   refine sk ⟨[(2, .pt 64 0 0), (3, .pt 80 0 0), (14, bV (a.f1 != b.f1))], [(64, some (.box (cD (d46 a)))), (80, some (.box (cD (d46 b))))], 272⟩ ?_
   refine if_ (b := (a.f1 != b.f1)) (fun hb2 => ?_) (fun hb2 => ?_)
   ·replace hb2 := bne_iff_ne.1 (hb2)
    refine sk ⟨[(4, bV false)], [], 288⟩ ?_
    refine X.ret ?_
    exact ⟨trivial, _, _, ⟨false, (by first | exact fls (fun h => by subst h; first | exact absurd rfl ‹_› | exact tf (eqV_self _) ‹_› | exact tf (allEq_self _) ‹_›) | exact tru (by cases a; cases b; simp_all [eqV_iff, allEq_iff, tl_inj])), rfl, rfl⟩, mkr⟩
   ·replace hb2 := bne_eq_false_iff_eq.1 (hb2)
    refine X.skip ?_
    refine X.seq ?_
    refine X.seq (rs 4 ?_)
    obtain ⟨r3, hr5, hf4⟩ := l_eqStringS a.f2 b.f2 (by assumption) (by assumption)
    replace hr5 := hr5.symm; subst hr5
    refine ca hf4 Tryz.func94 ?_
    refine go 1 ?_
    refine ek ⟨[(20, bV (!(allEq a.f2 b.f2)))], [], 368⟩ ?_
    refine if_ (b := !(allEq a.f2 b.f2)) (fun hb7 => ?_) (fun hb7 => ?_)
    ·replace hb7 := bnot_yes (hb7)
     refine sk ⟨[(4, bV false)], [], 384⟩ ?_
     refine X.ret ?_
     exact ⟨trivial, _, _, ⟨false, (by first | exact fls (fun h => by subst h; first | exact absurd rfl ‹_› | exact tf (eqV_self _) ‹_› | exact tf (allEq_self _) ‹_›) | exact tru (by cases a; cases b; simp_all [eqV_iff, allEq_iff, tl_inj])), rfl, rfl⟩, mkr⟩
    ·replace hb7 := bnot_no (hb7)
     refine X.skip ?_
     refine sk ⟨[(4, bV true)], [], 384⟩ ?_
     refine X.ret ?_
     exact ⟨trivial, _, _, ⟨true, (by first | exact fls (fun h => by subst h; first | exact absurd rfl ‹_› | exact tf (eqV_self _) ‹_› | exact tf (allEq_self _) ‹_›) | exact tru (by cases a; cases b; simp_all [eqV_iff, allEq_iff, tl_inj])), rfl, rfl⟩, mkr⟩
 obtain ⟨_, _, ⟨r0, h1_, rfl, rfl⟩, hf⟩ := key
 exact ⟨r0, h1_, hf⟩

theorem l_toTc (x : S32) (hs : Sm47 (toTc x)) : ∃ r0 : S47, (r0 = toTc x) ∧ Fn Tryz.prog 31 [.e (.agg (cD (d32 x)))] (lookH []) (.e (.agg [.d (.v (.int .i64 r0.f0)), .f (.sl (r0.f1.map dS)), .f (.sl (r0.f2.map dI))])) (lookH []) := by
 have key : ∃ x' h', ((fun x' h' => ∃ r0 : S47, (r0 = toTc x) ∧ x' = .e (.agg [.d (.v (.int .i64 r0.f0)), .f (.sl (r0.f1.map dS)), .f (.sl (r0.f2.map dI))]) ∧ h' = [])) x' h' ∧ Fn Tryz.prog 31 [.e (.agg (cD (d32 x)))] (lookH []) x' (lookH h') := by
  refine Fn.bodyX (N := 16) hτ Tryz.func31 rfl rfl rfl rfl ?_
  refine sk ⟨[(1, .pt 64 0 0), (2, .pt 80 0 0)], [(64, some (.box (cD (d32 x)))), (80, some (.box [.d (.v (.int .i64 0)), .nil, .nil]))], 96⟩ ?_
  refine X.seq ?_
  have hq1 : SmN x.f1 := hs.1
  have hq2 : x.f2.length ≤ 2000000 := hs.2
  refine rk ⟨[(1, .pt 64 0 0), (2, .pt 80 0 0), (3, .pt 96 0 0)], [(64, some (.box (cD (d32 x)))), (80, some (.box [.d (.v (.int .i64 0)), .nil, .nil])), (96, some (.box [.d (.v (.int .i64 0)), .nil, .nil]))], 112⟩ ?_
  refine sk ⟨[(1, .pt 64 0 0), (2, .pt 80 0 0), (3, .pt 96 0 0)], [(64, some (.box (cD (d32 x)))), (80, some (.box [.d (.v (.int .i64 0)), .nil, .nil])), (96, some (.box [.d (.v (.int .i64 x.f0)), .nil, .nil]))], 176⟩ ?_
  refine X.seq (rs 2 ?_)
  obtain ⟨r1, hr3, hf2⟩ := l_toStringS x.f1 (by assumption)
  replace hr3 := hr3.symm; subst hr3
  refine ca hf2 Tryz.func75 ?_
  refine go 2 ?_
  refine ek ⟨[(1, .pt 64 0 0), (2, .pt 80 0 0), (3, .pt 96 0 0)], [(64, some (.box (cD (d32 x)))), (80, some (.box [.d (.v (.int .i64 0)), .nil, .nil])), (96, some (.box [.d (.v (.int .i64 x.f0)), .f (.sl (x.f1.map dS)), .nil]))], 256⟩ ?_
  refine X.seq (rs 2 ?_)
  obtain ⟨r5, hr7, hf6⟩ := l_toIntS x.f2 (by assumption)
  replace hr7 := hr7.symm; subst hr7
  refine ca hf6 Tryz.func34 ?_
  refine go 2 ?_
  refine ek ⟨[(2, .pt 80 0 0), (3, .pt 96 0 0)], [(80, some (.box [.d (.v (.int .i64 0)), .nil, .nil])), (96, some (.box [.d (.v (.int .i64 x.f0)), .f (.sl (x.f1.map dS)), .f (.sl (x.f2.map dI))]))], 336⟩ ?_
  refine sk ⟨[(2, .pt 80 0 0)], [(80, some (.box [.d (.v (.int .i64 x.f0)), .f (.sl (x.f1.map dS)), .f (.sl (x.f2.map dI))]))], 368⟩ ?_
  refine X.ret ?_
  exact ⟨trivial, _, _, ⟨(⟨x.f0, x.f1, x.f2⟩ : S47), rfl, rfl, rfl⟩, mkr⟩
 obtain ⟨_, _, ⟨r0, h1_, rfl, rfl⟩, hf⟩ := key
 exact ⟨r0, h1_, hf⟩

theorem l_eqTc (a : S47) (b : S47) (ha : Sm47 a) (hb : Sm47 b) : ∃ r0 : Bool, (r0 = eqV a b) ∧ Fn Tryz.prog 49 [.e (.agg (cD (d47 a))), .e (.agg (cD (d47 b)))] (lookH []) (bV r0) (lookH []) := by
 have key : ∃ x' h', ((fun x' h' => ∃ r0 : Bool, (r0 = eqV a b) ∧ x' = bV r0 ∧ h' = [])) x' h' ∧ Fn Tryz.prog 49 [.e (.agg (cD (d47 a))), .e (.agg (cD (d47 b)))] (lookH []) x' (lookH h') := by
  refine Fn.bodyX (N := 22) hτ Tryz.func49 rfl rfl rfl rfl ?_
  refine sk ⟨[(2, .pt 64 0 0), (3, .pt 80 0 0)], [(64, some (.box (cD (d47 a)))), (80, some (.box (cD (d47 b))))], 112⟩ ?_
  refine X.seq ?_
  refine X.seq ?_
  have a1 : SmN a.f1 := ha.1
  have b1 : SmN b.f1 := hb.1
  have a2 : a.f2.length ≤ 2000000 := ha.2
  have b2 : b.f2.length ≤ 2000000 := hb.2
  refine rk ⟨[(2, .pt 64 0 0), (3, .pt 80 0 0), (9, bV (a.f0 != b.f0))], [(64, some (.box (cD (d47 a)))), (80, some (.box (cD (d47 b))))], 192⟩ ?_
  refine if_ (b := (a.f0 != b.f0)) (fun hb1 => ?_) (fun hb1 => ?_)
  ·replace hb1 := bne_iff_ne.1 (hb1)
   refine sk ⟨[(4, bV false)], [], 208⟩ ?_
   refine X.ret ?_
   exact ⟨trivial, _, _, ⟨false, (by first | exact fls (fun h => by subst h; first | exact absurd rfl ‹_› | exact tf (eqV_self _) ‹_› | exact tf (allEq_self _) ‹_›) | exact tru (by cases a; cases b; simp_all [eqV_iff, allEq_iff, tl_inj])), rfl, rfl⟩, mkr⟩
  ·replace hb1 := bne_eq_false_iff_eq.1 (hb1)
   refine X.skip ?_
   refine X.seq ?_
   refine X.seq (rs 4 ?_)
   obtain ⟨r2, hr4, hf3⟩ := l_eqStringS a.f1 b.f1 (by assumption) (by assumption)
   replace hr4 := hr4.symm; subst hr4
   refine ca hf3 Tryz.func94 ?_
   refine go 1 ?_
   refine ek ⟨[(2, .pt 64 0 0), (3, .pt 80 0 0), (15, bV (!(allEq a.f1 b.f1)))], [(64, some (.box (cD (d47 a)))), (80, some (.box (cD (d47 b))))], 288⟩ ?_
   refine if_ (b := !(allEq a.f1 b.f1)) (fun hb6 => ?_) (fun hb6 => ?_)
   ·replace hb6 := bnot_yes (hb6)
    refine sk ⟨[(4, bV false)], [], 304⟩ ?_
    refine X.ret ?_
    exact ⟨trivial, _, _, ⟨false, (by first | exact fls (fun h => by subst h; first | exact absurd rfl ‹_› | exact tf (eqV_self _) ‹_› | exact tf (allEq_self _) ‹_›) | exact tru (by cases a; cases b; simp_all [eqV_iff, allEq_iff, tl_inj])), rfl, rfl⟩, mkr⟩
   ·replace hb6 := bnot_no (hb6)
    refine X.skip ?_
    refine X.seq ?_
    refine X.seq (rs 4 ?_)
    obtain ⟨r7, hr9, hf8⟩ := l_eqIntS a.f2 b.f2 (by assumption) (by assumption)
    replace hr9 := hr9.symm; subst hr9
    refine ca hf8 Tryz.func52 ?_
    refine go 1 ?_
    refine ek ⟨[(21, bV (!(allEq a.f2 b.f2)))], [], 384⟩ ?_
    refine if_ (b := !(allEq a.f2 b.f2)) (fun hb11 => ?_) (fun hb11 => ?_)
    ·replace hb11 := bnot_yes (hb11)
     refine sk ⟨[(4, bV false)], [], 400⟩ ?_
     refine X.ret ?_
     exact ⟨trivial, _, _, ⟨false, (by first | exact fls (fun h => by subst h; first | exact absurd rfl ‹_› | exact tf (eqV_self _) ‹_› | exact tf (allEq_self _) ‹_›) | exact tru (by cases a; cases b; simp_all [eqV_iff, allEq_iff, tl_inj])), rfl, rfl⟩, mkr⟩
    ·replace hb11 := bnot_no (hb11)
     refine X.skip ?_
     refine sk ⟨[(4, bV true)], [], 400⟩ ?_
     refine X.ret ?_
     exact ⟨trivial, _, _, ⟨true, (by first | exact fls (fun h => by subst h; first | exact absurd rfl ‹_› | exact tf (eqV_self _) ‹_› | exact tf (allEq_self _) ‹_›) | exact tru (by cases a; cases b; simp_all [eqV_iff, allEq_iff, tl_inj])), rfl, rfl⟩, mkr⟩
 obtain ⟨_, _, ⟨r0, h1_, rfl, rfl⟩, hf⟩ := key
 exact ⟨r0, h1_, hf⟩

theorem l_toTx (x : S113) (hs : Sm119 (toTx x)) : ∃ r0 : S119, (r0 = toTx x) ∧ Fn Tryz.prog 78 [.e (.agg (cD (d113 x)))] (lookH []) (.e (.agg [.d (.v (.int .i64 r0.f0)), .d (.v (.string r0.f1)), .d (.v (.string r0.f2)), .d (.v (.int .i64 r0.f3)), .d (.v (.int .i64 r0.f4))])) (lookH []) := by
 have key : ∃ x' h', ((fun x' h' => ∃ r0 : S119, (r0 = toTx x) ∧ x' = .e (.agg [.d (.v (.int .i64 r0.f0)), .d (.v (.string r0.f1)), .d (.v (.string r0.f2)), .d (.v (.int .i64 r0.f3)), .d (.v (.int .i64 r0.f4))]) ∧ h' = [])) x' h' ∧ Fn Tryz.prog 78 [.e (.agg (cD (d113 x)))] (lookH []) x' (lookH h') := by
  refine Fn.bodyX (N := 20) hτ Tryz.func78 rfl rfl rfl rfl ?_
  refine sk ⟨[(1, .pt 64 0 0), (2, .pt 80 0 0)], [(64, some (.box (cD (d113 x)))), (80, some (.box [.d (.v (.int .i64 0)), .d (.v (.string (⟨#[]⟩ : ByteArray))), .d (.v (.string (⟨#[]⟩ : ByteArray))), .d (.v (.int .i64 0)), .d (.v (.int .i64 0))]))], 96⟩ ?_
  refine sk ⟨[(1, .pt 64 0 0), (2, .pt 80 0 0), (3, .pt 96 0 0)], [(64, some (.box (cD (d113 x)))), (80, some (.box [.d (.v (.int .i64 0)), .d (.v (.string (⟨#[]⟩ : ByteArray))), .d (.v (.string (⟨#[]⟩ : ByteArray))), .d (.v (.int .i64 0)), .d (.v (.int .i64 0))])), (96, some (.box [.d (.v (.int .i64 0)), .d (.v (.string (⟨#[]⟩ : ByteArray))), .d (.v (.string (⟨#[]⟩ : ByteArray))), .d (.v (.int .i64 0)), .d (.v (.int .i64 0))]))], 112⟩ ?_
  refine sk ⟨[(1, .pt 64 0 0), (2, .pt 80 0 0), (3, .pt 96 0 0)], [(64, some (.box (cD (d113 x)))), (80, some (.box [.d (.v (.int .i64 0)), .d (.v (.string (⟨#[]⟩ : ByteArray))), .d (.v (.string (⟨#[]⟩ : ByteArray))), .d (.v (.int .i64 0)), .d (.v (.int .i64 0))])), (96, some (.box [.d (.v (.int .i64 x.f0)), .d (.v (.string (⟨#[]⟩ : ByteArray))), .d (.v (.string (⟨#[]⟩ : ByteArray))), .d (.v (.int .i64 0)), .d (.v (.int .i64 0))]))], 176⟩ ?_
  refine sk ⟨[(1, .pt 64 0 0), (2, .pt 80 0 0), (3, .pt 96 0 0)], [(64, some (.box (cD (d113 x)))), (80, some (.box [.d (.v (.int .i64 0)), .d (.v (.string (⟨#[]⟩ : ByteArray))), .d (.v (.string (⟨#[]⟩ : ByteArray))), .d (.v (.int .i64 0)), .d (.v (.int .i64 0))])), (96, some (.box [.d (.v (.int .i64 x.f0)), .d (.v (.string x.f1)), .d (.v (.string (⟨#[]⟩ : ByteArray))), .d (.v (.int .i64 0)), .d (.v (.int .i64 0))]))], 240⟩ ?_
  refine sk ⟨[(1, .pt 64 0 0), (2, .pt 80 0 0), (3, .pt 96 0 0)], [(64, some (.box (cD (d113 x)))), (80, some (.box [.d (.v (.int .i64 0)), .d (.v (.string (⟨#[]⟩ : ByteArray))), .d (.v (.string (⟨#[]⟩ : ByteArray))), .d (.v (.int .i64 0)), .d (.v (.int .i64 0))])), (96, some (.box [.d (.v (.int .i64 x.f0)), .d (.v (.string x.f1)), .d (.v (.string x.f2)), .d (.v (.int .i64 0)), .d (.v (.int .i64 0))]))], 304⟩ ?_
  refine sk ⟨[(1, .pt 64 0 0), (2, .pt 80 0 0), (3, .pt 96 0 0)], [(64, some (.box (cD (d113 x)))), (80, some (.box [.d (.v (.int .i64 0)), .d (.v (.string (⟨#[]⟩ : ByteArray))), .d (.v (.string (⟨#[]⟩ : ByteArray))), .d (.v (.int .i64 0)), .d (.v (.int .i64 0))])), (96, some (.box [.d (.v (.int .i64 x.f0)), .d (.v (.string x.f1)), .d (.v (.string x.f2)), .d (.v (.int .i64 x.f3)), .d (.v (.int .i64 0))]))], 368⟩ ?_
  refine sk ⟨[(2, .pt 80 0 0), (3, .pt 96 0 0)], [(80, some (.box [.d (.v (.int .i64 0)), .d (.v (.string (⟨#[]⟩ : ByteArray))), .d (.v (.string (⟨#[]⟩ : ByteArray))), .d (.v (.int .i64 0)), .d (.v (.int .i64 0))])), (96, some (.box (cD (d113 x))))], 432⟩ ?_
  refine sk ⟨[(2, .pt 80 0 0)], [(80, some (.box (cD (d113 x))))], 464⟩ ?_
  refine X.ret ?_
  exact ⟨trivial, _, _, ⟨(⟨x.f0, x.f1, x.f2, x.f3, x.f4⟩ : S119), rfl, rfl, rfl⟩, mkr⟩
 obtain ⟨_, _, ⟨r0, h1_, rfl, rfl⟩, hf⟩ := key
 exact ⟨r0, h1_, hf⟩

theorem l_eqTx (a : S119) (b : S119) (ha : Sm119 a) (hb : Sm119 b) : ∃ r0 : Bool, (r0 = eqV a b) ∧ Fn Tryz.prog 97 [.e (.agg (cD (d119 a))), .e (.agg (cD (d119 b)))] (lookH []) (bV r0) (lookH []) := by
 have key : ∃ x' h', ((fun x' h' => ∃ r0 : Bool, (r0 = eqV a b) ∧ x' = bV r0 ∧ h' = [])) x' h' ∧ Fn Tryz.prog 97 [.e (.agg (cD (d119 a))), .e (.agg (cD (d119 b)))] (lookH []) x' (lookH h') := by
  refine Fn.bodyX (N := 30) hτ Tryz.func97 rfl rfl rfl rfl ?_
  refine sk ⟨[(2, .pt 64 0 0), (3, .pt 80 0 0)], [(64, some (.box (cD (d119 a)))), (80, some (.box (cD (d119 b))))], 112⟩ ?_
  refine X.seq ?_
  refine X.seq ?_
  have a1 : SmS a.f1 := ha.1
  have b1 : SmS b.f1 := hb.1
  have a2 : SmS a.f2 := ha.2
  have b2 : SmS b.f2 := hb.2
  refine rk ⟨[(2, .pt 64 0 0), (3, .pt 80 0 0), (9, bV (a.f0 != b.f0))], [(64, some (.box (cD (d119 a)))), (80, some (.box (cD (d119 b))))], 192⟩ ?_
  refine if_ (b := (a.f0 != b.f0)) (fun hb1 => ?_) (fun hb1 => ?_)
  ·replace hb1 := bne_iff_ne.1 (hb1)
   refine sk ⟨[(4, bV false)], [], 208⟩ ?_
   refine X.ret ?_
   exact ⟨trivial, _, _, ⟨false, (by first | exact fls (fun h => by subst h; first | exact absurd rfl ‹_› | exact tf (eqV_self _) ‹_› | exact tf (allEq_self _) ‹_›) | exact tru (by cases a; cases b; simp_all [eqV_iff, allEq_iff, tl_inj])), rfl, rfl⟩, mkr⟩
  ·replace hb1 := bne_eq_false_iff_eq.1 (hb1)
   refine X.skip ?_
   refine X.seq ?_
   refine sk ⟨[(2, .pt 64 0 0), (3, .pt 80 0 0), (14, bV (!(a.f1.toList == b.f1.toList)))], [(64, some (.box (cD (d119 a)))), (80, some (.box (cD (d119 b))))], 272⟩ ?_
   refine if_ (b := !(a.f1.toList == b.f1.toList)) (fun hb2 => ?_) (fun hb2 => ?_)
   ·replace hb2 := beq_no (bnot_yes (hb2))
    refine sk ⟨[(4, bV false)], [], 288⟩ ?_
    refine X.ret ?_
    exact ⟨trivial, _, _, ⟨false, (by first | exact fls (fun h => by subst h; first | exact absurd rfl ‹_› | exact tf (eqV_self _) ‹_› | exact tf (allEq_self _) ‹_›) | exact tru (by cases a; cases b; simp_all [eqV_iff, allEq_iff, tl_inj])), rfl, rfl⟩, mkr⟩
   ·replace hb2 := beq_yes (bnot_no (hb2))
    refine X.skip ?_
    refine X.seq ?_
    refine sk ⟨[(2, .pt 64 0 0), (3, .pt 80 0 0), (19, bV (!(a.f2.toList == b.f2.toList)))], [(64, some (.box (cD (d119 a)))), (80, some (.box (cD (d119 b))))], 352⟩ ?_
    refine if_ (b := !(a.f2.toList == b.f2.toList)) (fun hb3 => ?_) (fun hb3 => ?_)
    ·replace hb3 := beq_no (bnot_yes (hb3))
     refine sk ⟨[(4, bV false)], [], 368⟩ ?_
     refine X.ret ?_
     exact ⟨trivial, _, _, ⟨false, (by first | exact fls (fun h => by subst h; first | exact absurd rfl ‹_› | exact tf (eqV_self _) ‹_› | exact tf (allEq_self _) ‹_›) | exact tru (by cases a; cases b; simp_all [eqV_iff, allEq_iff, tl_inj])), rfl, rfl⟩, mkr⟩
    ·replace hb3 := beq_yes (bnot_no (hb3))
     refine X.skip ?_
     refine X.seq ?_
     refine sk ⟨[(2, .pt 64 0 0), (3, .pt 80 0 0), (24, bV (a.f3 != b.f3))], [(64, some (.box (cD (d119 a)))), (80, some (.box (cD (d119 b))))], 432⟩ ?_
     refine if_ (b := (a.f3 != b.f3)) (fun hb4 => ?_) (fun hb4 => ?_)
     ·replace hb4 := bne_iff_ne.1 (hb4)
      refine sk ⟨[(4, bV false)], [], 448⟩ ?_
      refine X.ret ?_
      exact ⟨trivial, _, _, ⟨false, (by first | exact fls (fun h => by subst h; first | exact absurd rfl ‹_› | exact tf (eqV_self _) ‹_› | exact tf (allEq_self _) ‹_›) | exact tru (by cases a; cases b; simp_all [eqV_iff, allEq_iff, tl_inj])), rfl, rfl⟩, mkr⟩
     ·replace hb4 := bne_eq_false_iff_eq.1 (hb4)
      refine X.skip ?_
      refine X.seq ?_
      refine sk ⟨[(29, bV (a.f4 != b.f4))], [], 512⟩ ?_
      refine if_ (b := (a.f4 != b.f4)) (fun hb5 => ?_) (fun hb5 => ?_)
      ·replace hb5 := bne_iff_ne.1 (hb5)
       refine sk ⟨[(4, bV false)], [], 528⟩ ?_
       refine X.ret ?_
       exact ⟨trivial, _, _, ⟨false, (by first | exact fls (fun h => by subst h; first | exact absurd rfl ‹_› | exact tf (eqV_self _) ‹_› | exact tf (allEq_self _) ‹_›) | exact tru (by cases a; cases b; simp_all [eqV_iff, allEq_iff, tl_inj])), rfl, rfl⟩, mkr⟩
      ·replace hb5 := bne_eq_false_iff_eq.1 (hb5)
       refine X.skip ?_
       refine sk ⟨[(4, bV true)], [], 528⟩ ?_
       refine X.ret ?_
       exact ⟨trivial, _, _, ⟨true, (by first | exact fls (fun h => by subst h; first | exact absurd rfl ‹_› | exact tf (eqV_self _) ‹_› | exact tf (allEq_self _) ‹_›) | exact tru (by cases a; cases b; simp_all [eqV_iff, allEq_iff, tl_inj])), rfl, rfl⟩, mkr⟩
 obtain ⟨_, _, ⟨r0, h1_, rfl, rfl⟩, hf⟩ := key
 exact ⟨r0, h1_, hf⟩

theorem l_toTxS (l : List S113) (hl : SmT (l.map toTx)) : ∃ r0 : List S119, (r0 = l.map toTx) ∧ Fn Tryz.prog 35 [lV (l.map d113)] (lookH []) (.e (.c (.f (.sl (r0.map d119))))) (lookH []) := by
 have key : ∃ x' h', ((fun x' h' => ∃ r0 : List S119, (r0 = l.map toTx) ∧ x' = .e (.c (.f (.sl (r0.map d119)))) ∧ h' = [])) x' h' ∧ Fn Tryz.prog 35 [lV (l.map d113)] (lookH []) x' (lookH h') := by
  refine Fn.bodyX (N := 23) hτ Tryz.func35 rfl rfl rfl rfl ?_
  refine sk ⟨[(0, lV (l.map d113))], [], 80⟩ ?_
  refine X.seq ?_
  have hll : l.length ≤ 2000000 := by have := hl.1; simpa only [List.length_map] using this
  have el1 : (l.map d113).length = l.length := List.length_map ..
  refine rs 2 ?_
  refine CH.mks hτ (n := (l.map d113).length) (bys := 56) (by kernel_rfl) (by kernel_rfl) (by first | omega | (simp only [List.length_map]; omega) | (simp; omega)) (by first | omega | (simp only [List.length_map]; omega) | (simp; omega)) (by kernel_rfl) ?_
  refine go 1 ?_
  refine CH.endk ⟨[(0, lV (l.map d113)), (3, rV 112)], [(112, some (.row 5 119 (List.replicate ((l.map d113).length) (d119 z119)) false true))], 144⟩ (by kernel_rfl) (by kernel_rfl) (s2 := ⟨[(0, lV (l.map d113)), (3, rV 112)], [(112, some (.row 5 119 ((List.replicate ((l.map d113).length) z119).map d119) false true))], 144⟩) (congrArg (fun z : List (List D) => (⟨[(0, lV (l.map d113)), (3, rV 112)], [(112, some (.row 5 119 z false true))], 144⟩ : St)) (show List.replicate ((l.map d113).length) (d119 z119) = ((List.replicate ((l.map d113).length) z119).map d119) from List.map_replicate.symm)) ?_
  refine X.seq ?_
  refine sk ⟨[(0, lV (l.map d113)), (3, rV 112), (4, iV 0)], [(112, some (.row 5 119 ((List.replicate ((l.map d113).length) z119).map d119) false true))], 160⟩ ?_
  refine X.block ?_
  -- 3: Lv3 : List S119, v4 : Int
  refine X.loop (σ := { g : (List S119) × Int // (fun (Lv3 : List S119) (v4 : Int) => 0 ≤ v4 ∧ v4 ≤ l.length ∧ Lv3.length = l.length ∧ ∀ (j : Nat) (x : S113), (j : Int) < v4 → l[j]? = some x → Lv3[j]? = some (toTx x)) g.1 g.2 }) (fun g => (fun (Lv3 : List S119) (v4 : Int) => ⟨[(0, lV (l.map d113)), (3, rV 112), (4, iV v4)], [(112, some (.row 5 119 (Lv3.map d119) false true))], 160⟩) g.1.1 g.1.2) (fun g => (fun (Lv3 : List S119) (v4 : Int) => (l.length - v4).toNat) g.1.1 g.1.2) ⟨((List.replicate ((l.map d113).length) z119), 0), ⟨by first | omega | (dsimp only; omega), by first | omega | (dsimp only; omega), by simp, fun j x h => by first | omega | (dsimp only; omega)⟩⟩ (Wk.less (by kernel_rfl)) (fun g => ?_)
  obtain ⟨⟨Lv3, v4⟩, hg3⟩ := g
  have hg3 : 0 ≤ v4 ∧ v4 ≤ l.length ∧ Lv3.length = l.length ∧ ∀ (j : Nat) (x : S113), (j : Int) < v4 → l[j]? = some x → Lv3[j]? = some (toTx x) := hg3
  obtain ⟨_, _, hL, hA⟩ := hg3
  refine X.seq ?_
  refine sk ⟨[(0, lV (l.map d113)), (3, rV 112), (4, iV v4), (11, bV (decide ((v4 : Int) < ((l.map d113).length : Int))))], [(112, some (.row 5 119 (Lv3.map d119) false true))], 224⟩ ?_
  refine if_ (b := decide ((v4 : Int) < ((l.map d113).length : Int))) (fun hb4 => ?_) (fun hb4 => ?_)
  ·replace hb4 := of_decide_eq_true (hb4)
   refine X.skip ?_
   refine X.seq ?_
   refine X.block ?_
   refine rs 4 ?_
   obtain ⟨x5, hx5⟩ : ∃ x, l[Int.toNat v4]? = some x := ⟨_, List.getElem?_eq_getElem (by first | omega | (simp; done) | (simp; omega))⟩
   refine CH.idx hτ (d113 x5) (rows := (l.map d113)) (n := v4) (sz := 5) (by kernel_rfl) (by kernel_rfl) (by first | omega | (simp; done) | (simp; omega)) (by rw [List.getElem?_map, hx5]; rfl) (by kernel_rfl) ?_
   refine go 1 ?_
   obtain ⟨r6, hr8, hf7⟩ := l_toTx x5 (by exact hl.2 _ (List.mem_map.2 ⟨_, List.mem_of_getElem? ‹_›, rfl⟩))
   replace hr8 := hr8.symm; subst hr8
   refine ca hf7 Tryz.func78 ?_
   refine CH.idxR hτ (rows := (Lv3.map d119)) (n := v4) (b := 112) (by kernel_rfl) (by kernel_rfl) (by first | omega | (simp; done) | (simp; omega)) (by simp only [List.length_map, List.length_set]; first | omega | (simp; done) | (simp; omega)) (by kernel_rfl) ?_
   obtain ⟨x10, hx10⟩ : ∃ x, Lv3[Int.toNat v4]? = some x := ⟨_, List.getElem?_eq_getElem (by first | omega | (simp; done) | (simp; omega))⟩
   refine CH.row hτ (d119 x10) (by kernel_rfl) (by kernel_rfl) (by rw [List.getElem?_map, hx10]; rfl) (by kernel_rfl) ?_
   refine CH.endk ⟨[(0, lV (l.map d113)), (3, rV 112), (4, iV v4)], [(112, some (.row 5 119 ((Lv3.map d119).set (Int.toNat v4) (d119 ((toTx x5)))) false true))], 368⟩ (by kernel_rfl) (by kernel_rfl) (s2 := ⟨[(0, lV (l.map d113)), (3, rV 112), (4, iV v4)], [(112, some (.row 5 119 ((Lv3.set (Int.toNat v4) ((toTx x5))).map d119) false true))], 368⟩) (congrArg (fun z : List (List D) => (⟨[(0, lV (l.map d113)), (3, rV 112), (4, iV v4)], [(112, some (.row 5 119 z false true))], 368⟩ : St)) (show ((Lv3.map d119).set (Int.toNat v4) (d119 ((toTx x5)))) = ((Lv3.set (Int.toNat v4) ((toTx x5))).map d119) from List.map_set.symm)) ?_
   refine X.rk ⟨[(0, lV (l.map d113)), (3, rV 112), (4, iV (wrap64 (v4 + 1)))], [(112, some (.row 5 119 ((Lv3.set (Int.toNat v4) ((toTx x5))).map d119) false true))], 416⟩ hτ hmix (by kernel_rfl) (by kernel_rfl) (s2 := ⟨[(0, lV (l.map d113)), (3, rV 112), (4, iV (v4 + 1))], [(112, some (.row 5 119 ((Lv3.set (Int.toNat v4) ((toTx x5))).map d119) false true))], 416⟩) (congrArg (fun z : Int => (⟨[(0, lV (l.map d113)), (3, rV 112), (4, iV z)], [(112, some (.row 5 119 ((Lv3.set (Int.toNat v4) ((toTx x5))).map d119) false true))], 416⟩ : St)) (show wrap64 (v4 + 1) = (v4 + 1) by rw [w64 (n := (v4 + 1)) (by omega) (by omega)])) ?_
   refine ⟨⟨((Lv3.set (Int.toNat v4) ((toTx x5))), (v4 + 1)), ⟨by first | omega | (dsimp only; omega), by first | omega | (dsimp only; omega), by simp; omega, ts_next (f := toTx) hA (by first | omega | (dsimp only; omega)) (by first | omega | (dsimp only; omega)) ‹_›⟩⟩, by first | exact rfl | omega | (dsimp only; omega) | (simp only [List.length_append, List.length_cons, List.length_nil, List.length_set]; omega) | (simp; done) | (simp; omega), Wk.mk' [(112, 112)] (by kernel_rfl) (by kernel_rfl) (by kernel_rfl)⟩
  ·replace hb4 := of_decide_eq_false (hb4)
   refine X.exit ?_
   refine sk ⟨[(2, rV 112)], [(112, some (.row 5 119 (Lv3.map d119) false true))], 256⟩ ?_
   refine X.ret ?_
   exact ⟨trivial, _, _, ⟨Lv3, ts_end hA hL (by omega), rfl, rfl⟩, .inr ⟨⟨[(2, .e (.c (.f (.sl (Lv3.map d119)))))], [(112, some (.row 5 119 (Lv3.map d119) true true))], 256⟩, Wk.less (by kernel_rfl), Ret.mk' [] (by kernel_rfl) (by kernel_rfl) (by kernel_rfl)⟩⟩
 obtain ⟨_, _, ⟨r0, h1_, rfl, rfl⟩, hf⟩ := key
 exact ⟨r0, h1_, hf⟩

theorem l_eqTxS (l : List S119) (m : List S119) (hl : SmT l) (hm : SmT m) : ∃ r0 : Bool, (r0 = allEq l m) ∧ Fn Tryz.prog 53 [lV (l.map d119), lV (m.map d119)] (lookH []) (bV r0) (lookH []) := by
 have key : ∃ x' h', ((fun x' h' => ∃ r0 : Bool, (r0 = allEq l m) ∧ x' = bV r0 ∧ h' = [])) x' h' ∧ Fn Tryz.prog 53 [lV (l.map d119), lV (m.map d119)] (lookH []) x' (lookH h') := by
  refine Fn.bodyX (N := 27) hτ Tryz.func53 rfl rfl rfl rfl ?_
  refine sk ⟨[(0, lV (l.map d119)), (1, lV (m.map d119))], [], 80⟩ ?_
  refine X.seq ?_
  refine X.seq ?_
  have hll : l.length ≤ 2000000 := hl.1
  have hml : m.length ≤ 2000000 := hm.1
  have el1 : (l.map d119).length = l.length := List.length_map ..
  have el2 : (m.map d119).length = m.length := List.length_map ..
  refine rk ⟨[(0, lV (l.map d119)), (1, lV (m.map d119)), (10, bV (((l.map d119).length : Int) != ((m.map d119).length : Int)))], [], 160⟩ ?_
  refine if_ (b := (((l.map d119).length : Int) != ((m.map d119).length : Int))) (fun hb3 => ?_) (fun hb3 => ?_)
  ·replace hb3 := bne_iff_ne.1 (hb3)
   refine sk ⟨[(4, bV false)], [], 176⟩ ?_
   refine X.ret ?_
   exact ⟨trivial, _, _, ⟨false, (by first | exact fls (fun h => by have := congrArg List.length h; omega) | exact fls (eq_no ‹_› ‹_› (eqV_no ‹_›)) | exact tru (eq_all hA (by omega) (by omega))), rfl, rfl⟩, mkr⟩
  ·replace hb3 := bne_eq_false_iff_eq.1 (hb3)
   refine X.skip ?_
   refine X.seq ?_
   refine sk ⟨[(0, lV (l.map d119)), (1, lV (m.map d119)), (5, iV 0)], [], 176⟩ ?_
   refine X.block ?_
   -- 4: v5 : Int
   refine X.loop (σ := { g : Int // (fun (v5 : Int) => 0 ≤ v5 ∧ v5 ≤ l.length ∧ Upto (fun j x => m[j.toNat]? = some x) (fun n => l[n]?) v5) g }) (fun g => (fun (v5 : Int) => ⟨[(0, lV (l.map d119)), (1, lV (m.map d119)), (5, iV v5)], [], 176⟩) g.1) (fun g => (fun (v5 : Int) => (l.length - v5).toNat) g.1) ⟨0, ⟨by first | omega | (dsimp only; omega), by first | omega | (dsimp only; omega), upto_zero⟩⟩ (Wk.less (by kernel_rfl)) (fun g => ?_)
   obtain ⟨v5, hg5⟩ := g
   have hg5 : 0 ≤ v5 ∧ v5 ≤ l.length ∧ Upto (fun j x => m[j.toNat]? = some x) (fun n => l[n]?) v5 := hg5
   obtain ⟨_, _, hA⟩ := hg5
   refine X.seq ?_
   refine sk ⟨[(0, lV (l.map d119)), (1, lV (m.map d119)), (5, iV v5), (14, bV (decide ((v5 : Int) < ((l.map d119).length : Int))))], [], 240⟩ ?_
   refine if_ (b := decide ((v5 : Int) < ((l.map d119).length : Int))) (fun hb6 => ?_) (fun hb6 => ?_)
   ·replace hb6 := of_decide_eq_true (hb6)
    refine X.skip ?_
    refine X.seq ?_
    refine X.block ?_
    refine X.seq (rs 2 ?_)
    obtain ⟨x7, hx7⟩ : ∃ x, l[Int.toNat v5]? = some x := ⟨_, List.getElem?_eq_getElem (by first | omega | (simp; done) | (simp; omega))⟩
    refine CH.idx hτ (d119 x7) (rows := (l.map d119)) (n := v5) (sz := 5) (by kernel_rfl) (by kernel_rfl) (by first | omega | (simp; done) | (simp; omega)) (by rw [List.getElem?_map, hx7]; rfl) (by kernel_rfl) ?_
    refine go 3 ?_
    obtain ⟨x8, hx8⟩ : ∃ x, m[Int.toNat v5]? = some x := ⟨_, List.getElem?_eq_getElem (by first | omega | (simp; done) | (simp; omega))⟩
    refine CH.idx hτ (d119 x8) (rows := (m.map d119)) (n := v5) (sz := 5) (by kernel_rfl) (by kernel_rfl) (by first | omega | (simp; done) | (simp; omega)) (by rw [List.getElem?_map, hx8]; rfl) (by kernel_rfl) ?_
    refine go 1 ?_
    obtain ⟨r9, hr11, hf10⟩ := l_eqTx x7 x8 (by exact all_at hl.2 ‹_›) (by exact all_at hm.2 ‹_›)
    replace hr11 := hr11.symm; subst hr11
    refine ca hf10 Tryz.func97 ?_
    refine go 1 ?_
    refine ek ⟨[(0, lV (l.map d119)), (1, lV (m.map d119)), (5, iV v5), (26, bV (!(eqV x7 x8)))], [], 400⟩ ?_
    refine if_ (b := !(eqV x7 x8)) (fun hb13 => ?_) (fun hb13 => ?_)
    ·replace hb13 := bnot_yes (hb13)
     refine sk ⟨[(4, bV false)], [], 416⟩ ?_
     refine X.ret ?_
     exact ⟨trivial, _, _, ⟨false, (by first | exact fls (fun h => by have := congrArg List.length h; omega) | exact fls (eq_no ‹_› ‹_› (eqV_no ‹_›)) | exact tru (eq_all hA (by omega) (by omega))), rfl, rfl⟩, mkr⟩
    ·replace hb13 := bnot_no (hb13)
     refine X.skip ?_
     refine X.rk ⟨[(0, lV (l.map d119)), (1, lV (m.map d119)), (5, iV (wrap64 (v5 + 1)))], [], 448⟩ hτ hmix (by kernel_rfl) (by kernel_rfl) (s2 := ⟨[(0, lV (l.map d119)), (1, lV (m.map d119)), (5, iV (v5 + 1))], [], 448⟩) (congrArg (fun z : Int => (⟨[(0, lV (l.map d119)), (1, lV (m.map d119)), (5, iV z)], [], 448⟩ : St)) (show wrap64 (v5 + 1) = (v5 + 1) by rw [w64 (n := (v5 + 1)) (by omega) (by omega)])) ?_
     refine ⟨⟨(v5 + 1), ⟨by first | omega | (dsimp only; omega), by first | omega | (dsimp only; omega), upto_nx (by first | omega | (dsimp only; omega)) hA ‹_› (eq_stp ‹_› (eqV_iff.1 ‹_›))⟩⟩, by first | exact rfl | omega | (dsimp only; omega) | (simp only [List.length_append, List.length_cons, List.length_nil, List.length_set]; omega) | (simp; done) | (simp; omega), Wk.mk' [] (by kernel_rfl) (by kernel_rfl) (by kernel_rfl)⟩
   ·replace hb6 := of_decide_eq_false (hb6)
    refine X.exit ?_
    refine sk ⟨[(4, bV true)], [], 256⟩ ?_
    refine X.ret ?_
    exact ⟨trivial, _, _, ⟨true, (by first | exact fls (fun h => by have := congrArg List.length h; omega) | exact fls (eq_no ‹_› ‹_› (eqV_no ‹_›)) | exact tru (eq_all hA (by omega) (by omega))), rfl, rfl⟩, mkr⟩
 obtain ⟨_, _, ⟨r0, h1_, rfl, rfl⟩, hf⟩ := key
 exact ⟨r0, h1_, hf⟩
end Go.Proofs.YtpegmlbbeookbaaGreat.Av
