/-
What functions of the program come to, walked one by one.
Conditions: none beside those that each theorem names.
-/
import Derived.Test.YtnieghbgcjbnhaaAvG
import Derived.Test.YtnieghbgcjbnhaaAvD
set_option linter.unusedVariables false
set_option linter.unusedSimpArgs false
namespace Go.Proofs.Ytnieghbgcjbnhaa.Av
open Go.RowKit
set_option maxRecDepth 20000
set_option maxHeartbeats 4000000

noncomputable def sameQ (q r : S43) : Bool := q.f0 == r.f0 && (q.f1 == r.f1 && allEq q.f2 r.f2)
noncomputable def sameT (q r : S46) : Bool := q.f0 == r.f0 && (allEq q.f1 r.f1 && allEq q.f2 r.f2)
noncomputable def sameB (a b : S49) : Bool := a.f0 == b.f0 && (a.f1 == b.f1 && (a.f2 == b.f2 && (a.f3.toList == b.f3.toList && (a.f7 == b.f7 && (a.f9.toList == b.f9.toList && (sameQ a.f4 b.f4 && (sameT a.f5 b.f5 && (allEq a.f6 b.f6 && allEq a.f8 b.f8))))))))
theorem sameB_self (b : S49) : sameB b b = true := by simp [sameB, sameQ, sameT, allEq_self]

def highOf (t : S46) : Int := t.f2.foldl (fun m h => mmx true m h) 0
theorem fold_next {α β : Type} {f : β → α → β} {l : List α} {b q : β} {i : Int} {x : α} (h0 : 0 ≤ i) (hx : l[i.toNat]? = some x) (h : q = (l.take i.toNat).foldl f b) : f q x = (l.take (i + 1).toNat).foldl f b := by
  rw [h, show (i + 1).toNat = i.toNat + 1 by omega, List.take_add_one, hx, List.foldl_append]
  rfl
theorem fold_end {α β : Type} {f : β → α → β} {l : List α} {b q : β} {i : Int} (hi : ¬ i < (l.length : Int)) (h : q = (l.take i.toNat).foldl f b) : q = l.foldl f b := by rw [h, List.take_of_length_le (by omega)]
def follows (b : S49) : Bool := (b.f4.f0 == wr .i64 (b.f2 - 1) && noneT b.f5) || (decide (b.f5.f0 > 0) && (b.f5.f0 == wr .i64 (b.f2 - 1) && decide (b.f4.f0 ≥ highOf b.f5)))
theorem i_eqStr (l : List ByteArray) (m : List ByteArray) (hl : l.length ≤ 2000000) (hm : m.length ≤ 2000000) : ∃ r0 : Bool, (r0 = allEq l m) ∧ Fn Try.prog 139 [lV (l.map dS), lV (m.map dS)] (lookH []) (bV r0) (lookH []) := by
  have key : ∃ x' h', ((fun x' h' => ∃ r0 : Bool, (r0 = allEq l m) ∧ x' = bV r0 ∧ h' = [])) x' h' ∧ Fn Try.prog 139 [lV (l.map dS), lV (m.map dS)] (lookH []) x' (lookH h') := by
    refine Fn.bodyX (N := 26) hτ Try.func139 rfl rfl rfl rfl ?_
    refine X.seq ?_
    refine X.rk ⟨[(0, lV (l.map dS)), (1, lV (m.map dS))], [], 80⟩ hτ hmix (by kernel_rfl) (by kernel_rfl) rfl ?_
    refine X.seq ?_
    refine X.seq ?_
    have el1 : (l.map dS).length = l.length := List.length_map ..
    have el2 : (m.map dS).length = m.length := List.length_map ..
    refine X.rk ⟨[(0, lV (l.map dS)), (1, lV (m.map dS)), (10, bV (((l.map dS).length : Int) != ((m.map dS).length : Int)))], [], 160⟩ hτ hmix (by kernel_rfl) (by kernel_rfl) rfl ?_
    refine X.if_ (b := (((l.map dS).length : Int) != ((m.map dS).length : Int))) (by kernel_rfl) (fun hb3 => ?_) (fun hb3 => ?_)
    · replace hb3 := bne_iff_ne.1 (hb3)
      refine X.seq ?_
      refine X.rk ⟨[(4, bV false)], [], 176⟩ hτ hmix (by kernel_rfl) (by kernel_rfl) rfl ?_
      refine X.ret ?_
      exact ⟨trivial, _, _, ⟨false, (by first | exact fls (fun h => by have := congrArg List.length h; omega) | exact fls (eq_noS ‹_› ‹_› ‹_›) | exact tru (eq_all hA (by omega) (by omega))), rfl, rfl⟩, .inl (Ret.mk' [] (by kernel_rfl) (by kernel_rfl) (by kernel_rfl))⟩
    · replace hb3 := bne_eq_false_iff_eq.1 (hb3)
      refine X.skip ?_
      refine X.seq ?_
      refine X.seq ?_
      refine X.rk ⟨[(0, lV (l.map dS)), (1, lV (m.map dS)), (12, iV ((l.map dS).length : Int)), (13, iV 0)], [], 208⟩ hτ hmix (by kernel_rfl) (by kernel_rfl) rfl ?_
      refine X.block ?_
      -- 4: v13 : Int
      refine X.loop (σ := { g : Int // (fun (v13 : Int) => 0 ≤ v13 ∧ v13 ≤ l.length ∧ Upto (fun j x => m[j.toNat]? = some x) (fun n => l[n]?) v13) g }) (fun g => (fun (v13 : Int) => ⟨[(0, lV (l.map dS)), (1, lV (m.map dS)), (12, iV ((l.map dS).length : Int)), (13, iV v13)], [], 208⟩) g.1) (fun g => (fun (v13 : Int) => (l.length - v13).toNat) g.1) ⟨0, ⟨by first | omega | (dsimp only; omega), by first | omega | (dsimp only; omega), upto_zero⟩⟩ (Wk.less (by kernel_rfl)) (fun g => ?_)
      obtain ⟨v13, hg5⟩ := g
      have hg5 : 0 ≤ v13 ∧ v13 ≤ l.length ∧ Upto (fun j x => m[j.toNat]? = some x) (fun n => l[n]?) v13 := hg5
      obtain ⟨_, _, hA⟩ := hg5
      refine X.seq ?_
      refine X.rk ⟨[(0, lV (l.map dS)), (1, lV (m.map dS)), (12, iV ((l.map dS).length : Int)), (13, iV v13), (14, bV (decide ((v13 : Int) < ((l.map dS).length : Int))))], [], 224⟩ hτ hmix (by kernel_rfl) (by kernel_rfl) rfl ?_
      refine X.seq ?_
      refine X.if_ (b := decide ((v13 : Int) < ((l.map dS).length : Int))) (by kernel_rfl) (fun hb6 => ?_) (fun hb6 => ?_)
      · replace hb6 := of_decide_eq_true (hb6)
        refine X.skip ?_
        refine X.seq ?_
        refine X.block ?_
        refine X.seq ?_
        refine X.rk ⟨[(0, lV (l.map dS)), (1, lV (m.map dS)), (5, iV v13), (12, iV ((l.map dS).length : Int)), (13, iV v13)], [], 256⟩ hτ hmix (by kernel_rfl) (by kernel_rfl) rfl ?_
        refine X.seq ?_
        refine X.rs 2 hτ hmix (by kernel_rfl) ?_
        obtain ⟨x7, hx7⟩ : ∃ x, l[Int.toNat v13]? = some x := ⟨_, List.getElem?_eq_getElem (by first | omega | (simp; done) | (simp; omega))⟩
        refine CH.idx hτ (dS x7) (rows := (l.map dS)) (n := v13) (sz := 1) (by kernel_rfl) (by kernel_rfl) (by first | omega | (simp; done) | (simp; omega)) (by rw [List.getElem?_map, hx7]; rfl) (by kernel_rfl) ?_
        refine CH.go 3 hτ (by kernel_rfl) ?_
        obtain ⟨x8, hx8⟩ : ∃ x, m[Int.toNat v13]? = some x := ⟨_, List.getElem?_eq_getElem (by first | omega | (simp; done) | (simp; omega))⟩
        refine CH.idx hτ (dS x8) (rows := (m.map dS)) (n := v13) (sz := 1) (by kernel_rfl) (by kernel_rfl) (by first | omega | (simp; done) | (simp; omega)) (by rw [List.getElem?_map, hx8]; rfl) (by kernel_rfl) ?_
        refine CH.go 2 hτ (by kernel_rfl) ?_
        refine CH.endk ⟨[(0, lV (l.map dS)), (1, lV (m.map dS)), (12, iV ((l.map dS).length : Int)), (13, iV v13), (24, bV (!(x7.toList == x8.toList)))], [], 400⟩ (by kernel_rfl) (by kernel_rfl) rfl ?_
        refine X.if_ (b := !(x7.toList == x8.toList)) (by kernel_rfl) (fun hb9 => ?_) (fun hb9 => ?_)
        · replace hb9 := beq_no (bnot_yes (hb9))
          refine X.seq ?_
          refine X.rk ⟨[(4, bV false)], [], 416⟩ hτ hmix (by kernel_rfl) (by kernel_rfl) rfl ?_
          refine X.ret ?_
          exact ⟨trivial, _, _, ⟨false, (by first | exact fls (fun h => by have := congrArg List.length h; omega) | exact fls (eq_noS ‹_› ‹_› ‹_›) | exact tru (eq_all hA (by omega) (by omega))), rfl, rfl⟩, .inl (Ret.mk' [] (by kernel_rfl) (by kernel_rfl) (by kernel_rfl))⟩
        · replace hb9 := beq_yes (bnot_no (hb9))
          refine X.skip ?_
          refine X.rk ⟨[(0, lV (l.map dS)), (1, lV (m.map dS)), (12, iV ((l.map dS).length : Int)), (13, iV (wrap64 (v13 + 1)))], [], 432⟩ hτ hmix (by kernel_rfl) (by kernel_rfl) (s2 := ⟨[(0, lV (l.map dS)), (1, lV (m.map dS)), (12, iV ((l.map dS).length : Int)), (13, iV (v13 + 1))], [], 432⟩) (congrArg (fun z : Int => (⟨[(0, lV (l.map dS)), (1, lV (m.map dS)), (12, iV ((l.map dS).length : Int)), (13, iV z)], [], 432⟩ : St)) (show wrap64 (v13 + 1) = (v13 + 1) by rw [w64 (n := (v13 + 1)) (by omega) (by omega)])) ?_
          refine ⟨⟨(v13 + 1), ⟨by first | omega | (dsimp only; omega), by first | omega | (dsimp only; omega), upto_nx (by first | omega | (dsimp only; omega)) hA ‹_› (eq_stp ‹_› (tl_inj.1 ‹_›))⟩⟩, by first | exact rfl | omega | (dsimp only; omega) | (simp only [List.length_append, List.length_cons, List.length_nil, List.length_set]; omega) | (simp; done) | (simp; omega), Wk.mk' [] (by kernel_rfl) (by kernel_rfl) (by kernel_rfl)⟩
      · replace hb6 := of_decide_eq_false (hb6)
        refine X.exit ?_
        refine X.seq ?_
        refine X.rk ⟨[(4, bV true)], [], 240⟩ hτ hmix (by kernel_rfl) (by kernel_rfl) rfl ?_
        refine X.ret ?_
        exact ⟨trivial, _, _, ⟨true, (by first | exact fls (fun h => by have := congrArg List.length h; omega) | exact fls (eq_noS ‹_› ‹_› ‹_›) | exact tru (eq_all hA (by omega) (by omega))), rfl, rfl⟩, .inl (Ret.mk' [] (by kernel_rfl) (by kernel_rfl) (by kernel_rfl))⟩
  obtain ⟨_, _, ⟨r0, q1, rfl, rfl⟩, hf⟩ := key
  exact ⟨r0, q1, hf⟩

theorem i_eqInt (l : List Int) (m : List Int) (hl : l.length ≤ 2000000) (hm : m.length ≤ 2000000) : ∃ r0 : Bool, (r0 = allEq l m) ∧ Fn Try.prog 140 [lV (l.map dI), lV (m.map dI)] (lookH []) (bV r0) (lookH []) := by
  have key : ∃ x' h', ((fun x' h' => ∃ r0 : Bool, (r0 = allEq l m) ∧ x' = bV r0 ∧ h' = [])) x' h' ∧ Fn Try.prog 140 [lV (l.map dI), lV (m.map dI)] (lookH []) x' (lookH h') := by
    refine Fn.bodyX (N := 26) hτ Try.func140 rfl rfl rfl rfl ?_
    refine X.seq ?_
    refine X.rk ⟨[(0, lV (l.map dI)), (1, lV (m.map dI))], [], 80⟩ hτ hmix (by kernel_rfl) (by kernel_rfl) rfl ?_
    refine X.seq ?_
    refine X.seq ?_
    have el1 : (l.map dI).length = l.length := List.length_map ..
    have el2 : (m.map dI).length = m.length := List.length_map ..
    refine X.rk ⟨[(0, lV (l.map dI)), (1, lV (m.map dI)), (10, bV (((l.map dI).length : Int) != ((m.map dI).length : Int)))], [], 160⟩ hτ hmix (by kernel_rfl) (by kernel_rfl) rfl ?_
    refine X.if_ (b := (((l.map dI).length : Int) != ((m.map dI).length : Int))) (by kernel_rfl) (fun hb3 => ?_) (fun hb3 => ?_)
    · replace hb3 := bne_iff_ne.1 (hb3)
      refine X.seq ?_
      refine X.rk ⟨[(4, bV false)], [], 176⟩ hτ hmix (by kernel_rfl) (by kernel_rfl) rfl ?_
      refine X.ret ?_
      exact ⟨trivial, _, _, ⟨false, (by first | exact fls (fun h => by have := congrArg List.length h; omega) | exact fls (eq_no ‹_› ‹_› ‹_›) | exact tru (eq_all hA (by omega) (by omega))), rfl, rfl⟩, .inl (Ret.mk' [] (by kernel_rfl) (by kernel_rfl) (by kernel_rfl))⟩
    · replace hb3 := bne_eq_false_iff_eq.1 (hb3)
      refine X.skip ?_
      refine X.seq ?_
      refine X.seq ?_
      refine X.rk ⟨[(0, lV (l.map dI)), (1, lV (m.map dI)), (12, iV ((l.map dI).length : Int)), (13, iV 0)], [], 208⟩ hτ hmix (by kernel_rfl) (by kernel_rfl) rfl ?_
      refine X.block ?_
      -- 4: v13 : Int
      refine X.loop (σ := { g : Int // (fun (v13 : Int) => 0 ≤ v13 ∧ v13 ≤ l.length ∧ Upto (fun j x => m[j.toNat]? = some x) (fun n => l[n]?) v13) g }) (fun g => (fun (v13 : Int) => ⟨[(0, lV (l.map dI)), (1, lV (m.map dI)), (12, iV ((l.map dI).length : Int)), (13, iV v13)], [], 208⟩) g.1) (fun g => (fun (v13 : Int) => (l.length - v13).toNat) g.1) ⟨0, ⟨by first | omega | (dsimp only; omega), by first | omega | (dsimp only; omega), upto_zero⟩⟩ (Wk.less (by kernel_rfl)) (fun g => ?_)
      obtain ⟨v13, hg5⟩ := g
      have hg5 : 0 ≤ v13 ∧ v13 ≤ l.length ∧ Upto (fun j x => m[j.toNat]? = some x) (fun n => l[n]?) v13 := hg5
      obtain ⟨_, _, hA⟩ := hg5
      refine X.seq ?_
      refine X.rk ⟨[(0, lV (l.map dI)), (1, lV (m.map dI)), (12, iV ((l.map dI).length : Int)), (13, iV v13), (14, bV (decide ((v13 : Int) < ((l.map dI).length : Int))))], [], 224⟩ hτ hmix (by kernel_rfl) (by kernel_rfl) rfl ?_
      refine X.seq ?_
      refine X.if_ (b := decide ((v13 : Int) < ((l.map dI).length : Int))) (by kernel_rfl) (fun hb6 => ?_) (fun hb6 => ?_)
      · replace hb6 := of_decide_eq_true (hb6)
        refine X.skip ?_
        refine X.seq ?_
        refine X.block ?_
        refine X.seq ?_
        refine X.rk ⟨[(0, lV (l.map dI)), (1, lV (m.map dI)), (5, iV v13), (12, iV ((l.map dI).length : Int)), (13, iV v13)], [], 256⟩ hτ hmix (by kernel_rfl) (by kernel_rfl) rfl ?_
        refine X.seq ?_
        refine X.rs 2 hτ hmix (by kernel_rfl) ?_
        obtain ⟨x7, hx7⟩ : ∃ x, l[Int.toNat v13]? = some x := ⟨_, List.getElem?_eq_getElem (by first | omega | (simp; done) | (simp; omega))⟩
        refine CH.idx hτ (dI x7) (rows := (l.map dI)) (n := v13) (sz := 1) (by kernel_rfl) (by kernel_rfl) (by first | omega | (simp; done) | (simp; omega)) (by rw [List.getElem?_map, hx7]; rfl) (by kernel_rfl) ?_
        refine CH.go 3 hτ (by kernel_rfl) ?_
        obtain ⟨x8, hx8⟩ : ∃ x, m[Int.toNat v13]? = some x := ⟨_, List.getElem?_eq_getElem (by first | omega | (simp; done) | (simp; omega))⟩
        refine CH.idx hτ (dI x8) (rows := (m.map dI)) (n := v13) (sz := 1) (by kernel_rfl) (by kernel_rfl) (by first | omega | (simp; done) | (simp; omega)) (by rw [List.getElem?_map, hx8]; rfl) (by kernel_rfl) ?_
        refine CH.go 2 hτ (by kernel_rfl) ?_
        refine CH.endk ⟨[(0, lV (l.map dI)), (1, lV (m.map dI)), (12, iV ((l.map dI).length : Int)), (13, iV v13), (24, bV (x7 != x8))], [], 400⟩ (by kernel_rfl) (by kernel_rfl) rfl ?_
        refine X.if_ (b := (x7 != x8)) (by kernel_rfl) (fun hb9 => ?_) (fun hb9 => ?_)
        · replace hb9 := bne_iff_ne.1 (hb9)
          refine X.seq ?_
          refine X.rk ⟨[(4, bV false)], [], 416⟩ hτ hmix (by kernel_rfl) (by kernel_rfl) rfl ?_
          refine X.ret ?_
          exact ⟨trivial, _, _, ⟨false, (by first | exact fls (fun h => by have := congrArg List.length h; omega) | exact fls (eq_no ‹_› ‹_› ‹_›) | exact tru (eq_all hA (by omega) (by omega))), rfl, rfl⟩, .inl (Ret.mk' [] (by kernel_rfl) (by kernel_rfl) (by kernel_rfl))⟩
        · replace hb9 := bne_eq_false_iff_eq.1 (hb9)
          refine X.skip ?_
          refine X.rk ⟨[(0, lV (l.map dI)), (1, lV (m.map dI)), (12, iV ((l.map dI).length : Int)), (13, iV (wrap64 (v13 + 1)))], [], 432⟩ hτ hmix (by kernel_rfl) (by kernel_rfl) (s2 := ⟨[(0, lV (l.map dI)), (1, lV (m.map dI)), (12, iV ((l.map dI).length : Int)), (13, iV (v13 + 1))], [], 432⟩) (congrArg (fun z : Int => (⟨[(0, lV (l.map dI)), (1, lV (m.map dI)), (12, iV ((l.map dI).length : Int)), (13, iV z)], [], 432⟩ : St)) (show wrap64 (v13 + 1) = (v13 + 1) by rw [w64 (n := (v13 + 1)) (by omega) (by omega)])) ?_
          refine ⟨⟨(v13 + 1), ⟨by first | omega | (dsimp only; omega), by first | omega | (dsimp only; omega), upto_nx (by first | omega | (dsimp only; omega)) hA ‹_› (eq_stp ‹_› ‹_›)⟩⟩, by first | exact rfl | omega | (dsimp only; omega) | (simp only [List.length_append, List.length_cons, List.length_nil, List.length_set]; omega) | (simp; done) | (simp; omega), Wk.mk' [] (by kernel_rfl) (by kernel_rfl) (by kernel_rfl)⟩
      · replace hb6 := of_decide_eq_false (hb6)
        refine X.exit ?_
        refine X.seq ?_
        refine X.rk ⟨[(4, bV true)], [], 240⟩ hτ hmix (by kernel_rfl) (by kernel_rfl) rfl ?_
        refine X.ret ?_
        exact ⟨trivial, _, _, ⟨true, (by first | exact fls (fun h => by have := congrArg List.length h; omega) | exact fls (eq_no ‹_› ‹_› ‹_›) | exact tru (eq_all hA (by omega) (by omega))), rfl, rfl⟩, .inl (Ret.mk' [] (by kernel_rfl) (by kernel_rfl) (by kernel_rfl))⟩
  obtain ⟨_, _, ⟨r0, q1, rfl, rfl⟩, hf⟩ := key
  exact ⟨r0, q1, hf⟩

theorem i_eqTx (l : List S26) (m : List S26) (hl : l.length ≤ 2000000) (hm : m.length ≤ 2000000) : ∃ r0 : Bool, (r0 = allEq l m) ∧ Fn Try.prog 82 [lV (l.map d26), lV (m.map d26)] (lookH []) (bV r0) (lookH []) := by
  have key : ∃ x' h', ((fun x' h' => ∃ r0 : Bool, (r0 = allEq l m) ∧ x' = bV r0 ∧ h' = [])) x' h' ∧ Fn Try.prog 82 [lV (l.map d26), lV (m.map d26)] (lookH []) x' (lookH h') := by
    refine Fn.bodyX (N := 26) hτ Try.func82 rfl rfl rfl rfl ?_
    refine X.seq ?_
    refine X.rk ⟨[(0, lV (l.map d26)), (1, lV (m.map d26))], [], 80⟩ hτ hmix (by kernel_rfl) (by kernel_rfl) rfl ?_
    refine X.seq ?_
    refine X.seq ?_
    have el1 : (l.map d26).length = l.length := List.length_map ..
    have el2 : (m.map d26).length = m.length := List.length_map ..
    refine X.rk ⟨[(0, lV (l.map d26)), (1, lV (m.map d26)), (10, bV (((l.map d26).length : Int) != ((m.map d26).length : Int)))], [], 160⟩ hτ hmix (by kernel_rfl) (by kernel_rfl) rfl ?_
    refine X.if_ (b := (((l.map d26).length : Int) != ((m.map d26).length : Int))) (by kernel_rfl) (fun hb3 => ?_) (fun hb3 => ?_)
    · replace hb3 := bne_iff_ne.1 (hb3)
      refine X.seq ?_
      refine X.rk ⟨[(4, bV false)], [], 176⟩ hτ hmix (by kernel_rfl) (by kernel_rfl) rfl ?_
      refine X.ret ?_
      exact ⟨trivial, _, _, ⟨false, (by first | exact fls (fun h => by have := congrArg List.length h; omega) | exact fls (eq_no ‹_› ‹_› ‹_›) | exact tru (eq_all hA (by omega) (by omega))), rfl, rfl⟩, .inl (Ret.mk' [] (by kernel_rfl) (by kernel_rfl) (by kernel_rfl))⟩
    · replace hb3 := bne_eq_false_iff_eq.1 (hb3)
      refine X.skip ?_
      refine X.seq ?_
      refine X.seq ?_
      refine X.rk ⟨[(0, lV (l.map d26)), (1, lV (m.map d26)), (12, iV ((l.map d26).length : Int)), (13, iV 0)], [], 208⟩ hτ hmix (by kernel_rfl) (by kernel_rfl) rfl ?_
      refine X.block ?_
      -- 4: v13 : Int
      refine X.loop (σ := { g : Int // (fun (v13 : Int) => 0 ≤ v13 ∧ v13 ≤ l.length ∧ Upto (fun j x => m[j.toNat]? = some x) (fun n => l[n]?) v13) g }) (fun g => (fun (v13 : Int) => ⟨[(0, lV (l.map d26)), (1, lV (m.map d26)), (12, iV ((l.map d26).length : Int)), (13, iV v13)], [], 208⟩) g.1) (fun g => (fun (v13 : Int) => (l.length - v13).toNat) g.1) ⟨0, ⟨by first | omega | (dsimp only; omega), by first | omega | (dsimp only; omega), upto_zero⟩⟩ (Wk.less (by kernel_rfl)) (fun g => ?_)
      obtain ⟨v13, hg5⟩ := g
      have hg5 : 0 ≤ v13 ∧ v13 ≤ l.length ∧ Upto (fun j x => m[j.toNat]? = some x) (fun n => l[n]?) v13 := hg5
      obtain ⟨_, _, hA⟩ := hg5
      refine X.seq ?_
      refine X.rk ⟨[(0, lV (l.map d26)), (1, lV (m.map d26)), (12, iV ((l.map d26).length : Int)), (13, iV v13), (14, bV (decide ((v13 : Int) < ((l.map d26).length : Int))))], [], 224⟩ hτ hmix (by kernel_rfl) (by kernel_rfl) rfl ?_
      refine X.seq ?_
      refine X.if_ (b := decide ((v13 : Int) < ((l.map d26).length : Int))) (by kernel_rfl) (fun hb6 => ?_) (fun hb6 => ?_)
      · replace hb6 := of_decide_eq_true (hb6)
        refine X.skip ?_
        refine X.seq ?_
        refine X.block ?_
        refine X.seq ?_
        refine X.rk ⟨[(0, lV (l.map d26)), (1, lV (m.map d26)), (5, iV v13), (12, iV ((l.map d26).length : Int)), (13, iV v13)], [], 256⟩ hτ hmix (by kernel_rfl) (by kernel_rfl) rfl ?_
        refine X.seq ?_
        refine X.rs 2 hτ hmix (by kernel_rfl) ?_
        obtain ⟨x7, hx7⟩ : ∃ x, l[Int.toNat v13]? = some x := ⟨_, List.getElem?_eq_getElem (by first | omega | (simp; done) | (simp; omega))⟩
        refine CH.idx hτ (d26 x7) (rows := (l.map d26)) (n := v13) (sz := 5) (by kernel_rfl) (by kernel_rfl) (by first | omega | (simp; done) | (simp; omega)) (by rw [List.getElem?_map, hx7]; rfl) (by kernel_rfl) ?_
        refine CH.go 3 hτ (by kernel_rfl) ?_
        obtain ⟨x8, hx8⟩ : ∃ x, m[Int.toNat v13]? = some x := ⟨_, List.getElem?_eq_getElem (by first | omega | (simp; done) | (simp; omega))⟩
        refine CH.idx hτ (d26 x8) (rows := (m.map d26)) (n := v13) (sz := 5) (by kernel_rfl) (by kernel_rfl) (by first | omega | (simp; done) | (simp; omega)) (by rw [List.getElem?_map, hx8]; rfl) (by kernel_rfl) ?_
        refine CH.go 1 hτ (by kernel_rfl) ?_
        refine CH.eqS (t := 26) (ng := true) (sm26 x7 x8) (by kernel_rfl) (by kernel_rfl) (flatS26 x7) ?_
        refine CH.endk ⟨[(0, lV (l.map d26)), (1, lV (m.map d26)), (12, iV ((l.map d26).length : Int)), (13, iV v13), (24, bV (!(sm26 x7 x8)))], [], 400⟩ (by kernel_rfl) (by kernel_rfl) rfl ?_
        refine X.if_ (b := !(sm26 x7 x8)) (by kernel_rfl) (fun hb9 => ?_) (fun hb9 => ?_)
        · replace hb9 := sm_no sm26_iff (bnot_yes (hb9))
          refine X.seq ?_
          refine X.rk ⟨[(4, bV false)], [], 416⟩ hτ hmix (by kernel_rfl) (by kernel_rfl) rfl ?_
          refine X.ret ?_
          exact ⟨trivial, _, _, ⟨false, (by first | exact fls (fun h => by have := congrArg List.length h; omega) | exact fls (eq_no ‹_› ‹_› ‹_›) | exact tru (eq_all hA (by omega) (by omega))), rfl, rfl⟩, .inl (Ret.mk' [] (by kernel_rfl) (by kernel_rfl) (by kernel_rfl))⟩
        · replace hb9 := (sm26_iff _ _).1 (bnot_no (hb9))
          refine X.skip ?_
          refine X.rk ⟨[(0, lV (l.map d26)), (1, lV (m.map d26)), (12, iV ((l.map d26).length : Int)), (13, iV (wrap64 (v13 + 1)))], [], 432⟩ hτ hmix (by kernel_rfl) (by kernel_rfl) (s2 := ⟨[(0, lV (l.map d26)), (1, lV (m.map d26)), (12, iV ((l.map d26).length : Int)), (13, iV (v13 + 1))], [], 432⟩) (congrArg (fun z : Int => (⟨[(0, lV (l.map d26)), (1, lV (m.map d26)), (12, iV ((l.map d26).length : Int)), (13, iV z)], [], 432⟩ : St)) (show wrap64 (v13 + 1) = (v13 + 1) by rw [w64 (n := (v13 + 1)) (by omega) (by omega)])) ?_
          refine ⟨⟨(v13 + 1), ⟨by first | omega | (dsimp only; omega), by first | omega | (dsimp only; omega), upto_nx (by first | omega | (dsimp only; omega)) hA ‹_› (eq_stp ‹_› ‹_›)⟩⟩, by first | exact rfl | omega | (dsimp only; omega) | (simp only [List.length_append, List.length_cons, List.length_nil, List.length_set]; omega) | (simp; done) | (simp; omega), Wk.mk' [] (by kernel_rfl) (by kernel_rfl) (by kernel_rfl)⟩
      · replace hb6 := of_decide_eq_false (hb6)
        refine X.exit ?_
        refine X.seq ?_
        refine X.rk ⟨[(4, bV true)], [], 240⟩ hτ hmix (by kernel_rfl) (by kernel_rfl) rfl ?_
        refine X.ret ?_
        exact ⟨trivial, _, _, ⟨true, (by first | exact fls (fun h => by have := congrArg List.length h; omega) | exact fls (eq_no ‹_› ‹_› ‹_›) | exact tru (eq_all hA (by omega) (by omega))), rfl, rfl⟩, .inl (Ret.mk' [] (by kernel_rfl) (by kernel_rfl) (by kernel_rfl))⟩
  obtain ⟨_, _, ⟨r0, q1, rfl, rfl⟩, hf⟩ := key
  exact ⟨r0, q1, hf⟩

theorem i_eqVal (l : List S107) (m : List S107) (hl : l.length ≤ 2000000) (hm : m.length ≤ 2000000) : ∃ r0 : Bool, (r0 = allEq l m) ∧ Fn Try.prog 83 [lV (l.map d107), lV (m.map d107)] (lookH []) (bV r0) (lookH []) := by
  have key : ∃ x' h', ((fun x' h' => ∃ r0 : Bool, (r0 = allEq l m) ∧ x' = bV r0 ∧ h' = [])) x' h' ∧ Fn Try.prog 83 [lV (l.map d107), lV (m.map d107)] (lookH []) x' (lookH h') := by
    refine Fn.bodyX (N := 26) hτ Try.func83 rfl rfl rfl rfl ?_
    refine X.seq ?_
    refine X.rk ⟨[(0, lV (l.map d107)), (1, lV (m.map d107))], [], 80⟩ hτ hmix (by kernel_rfl) (by kernel_rfl) rfl ?_
    refine X.seq ?_
    refine X.seq ?_
    have el1 : (l.map d107).length = l.length := List.length_map ..
    have el2 : (m.map d107).length = m.length := List.length_map ..
    refine X.rk ⟨[(0, lV (l.map d107)), (1, lV (m.map d107)), (10, bV (((l.map d107).length : Int) != ((m.map d107).length : Int)))], [], 160⟩ hτ hmix (by kernel_rfl) (by kernel_rfl) rfl ?_
    refine X.if_ (b := (((l.map d107).length : Int) != ((m.map d107).length : Int))) (by kernel_rfl) (fun hb3 => ?_) (fun hb3 => ?_)
    · replace hb3 := bne_iff_ne.1 (hb3)
      refine X.seq ?_
      refine X.rk ⟨[(4, bV false)], [], 176⟩ hτ hmix (by kernel_rfl) (by kernel_rfl) rfl ?_
      refine X.ret ?_
      exact ⟨trivial, _, _, ⟨false, (by first | exact fls (fun h => by have := congrArg List.length h; omega) | exact fls (eq_no ‹_› ‹_› ‹_›) | exact tru (eq_all hA (by omega) (by omega))), rfl, rfl⟩, .inl (Ret.mk' [] (by kernel_rfl) (by kernel_rfl) (by kernel_rfl))⟩
    · replace hb3 := bne_eq_false_iff_eq.1 (hb3)
      refine X.skip ?_
      refine X.seq ?_
      refine X.seq ?_
      refine X.rk ⟨[(0, lV (l.map d107)), (1, lV (m.map d107)), (12, iV ((l.map d107).length : Int)), (13, iV 0)], [], 208⟩ hτ hmix (by kernel_rfl) (by kernel_rfl) rfl ?_
      refine X.block ?_
      -- 4: v13 : Int
      refine X.loop (σ := { g : Int // (fun (v13 : Int) => 0 ≤ v13 ∧ v13 ≤ l.length ∧ Upto (fun j x => m[j.toNat]? = some x) (fun n => l[n]?) v13) g }) (fun g => (fun (v13 : Int) => ⟨[(0, lV (l.map d107)), (1, lV (m.map d107)), (12, iV ((l.map d107).length : Int)), (13, iV v13)], [], 208⟩) g.1) (fun g => (fun (v13 : Int) => (l.length - v13).toNat) g.1) ⟨0, ⟨by first | omega | (dsimp only; omega), by first | omega | (dsimp only; omega), upto_zero⟩⟩ (Wk.less (by kernel_rfl)) (fun g => ?_)
      obtain ⟨v13, hg5⟩ := g
      have hg5 : 0 ≤ v13 ∧ v13 ≤ l.length ∧ Upto (fun j x => m[j.toNat]? = some x) (fun n => l[n]?) v13 := hg5
      obtain ⟨_, _, hA⟩ := hg5
      refine X.seq ?_
      refine X.rk ⟨[(0, lV (l.map d107)), (1, lV (m.map d107)), (12, iV ((l.map d107).length : Int)), (13, iV v13), (14, bV (decide ((v13 : Int) < ((l.map d107).length : Int))))], [], 224⟩ hτ hmix (by kernel_rfl) (by kernel_rfl) rfl ?_
      refine X.seq ?_
      refine X.if_ (b := decide ((v13 : Int) < ((l.map d107).length : Int))) (by kernel_rfl) (fun hb6 => ?_) (fun hb6 => ?_)
      · replace hb6 := of_decide_eq_true (hb6)
        refine X.skip ?_
        refine X.seq ?_
        refine X.block ?_
        refine X.seq ?_
        refine X.rk ⟨[(0, lV (l.map d107)), (1, lV (m.map d107)), (5, iV v13), (12, iV ((l.map d107).length : Int)), (13, iV v13)], [], 256⟩ hτ hmix (by kernel_rfl) (by kernel_rfl) rfl ?_
        refine X.seq ?_
        refine X.rs 2 hτ hmix (by kernel_rfl) ?_
        obtain ⟨x7, hx7⟩ : ∃ x, l[Int.toNat v13]? = some x := ⟨_, List.getElem?_eq_getElem (by first | omega | (simp; done) | (simp; omega))⟩
        refine CH.idx hτ (d107 x7) (rows := (l.map d107)) (n := v13) (sz := 2) (by kernel_rfl) (by kernel_rfl) (by first | omega | (simp; done) | (simp; omega)) (by rw [List.getElem?_map, hx7]; rfl) (by kernel_rfl) ?_
        refine CH.go 3 hτ (by kernel_rfl) ?_
        obtain ⟨x8, hx8⟩ : ∃ x, m[Int.toNat v13]? = some x := ⟨_, List.getElem?_eq_getElem (by first | omega | (simp; done) | (simp; omega))⟩
        refine CH.idx hτ (d107 x8) (rows := (m.map d107)) (n := v13) (sz := 2) (by kernel_rfl) (by kernel_rfl) (by first | omega | (simp; done) | (simp; omega)) (by rw [List.getElem?_map, hx8]; rfl) (by kernel_rfl) ?_
        refine CH.go 1 hτ (by kernel_rfl) ?_
        refine CH.eqS (t := 107) (ng := true) (sm107 x7 x8) (by kernel_rfl) (by kernel_rfl) (flatS107 x7) ?_
        refine CH.endk ⟨[(0, lV (l.map d107)), (1, lV (m.map d107)), (12, iV ((l.map d107).length : Int)), (13, iV v13), (24, bV (!(sm107 x7 x8)))], [], 400⟩ (by kernel_rfl) (by kernel_rfl) rfl ?_
        refine X.if_ (b := !(sm107 x7 x8)) (by kernel_rfl) (fun hb9 => ?_) (fun hb9 => ?_)
        · replace hb9 := sm_no sm107_iff (bnot_yes (hb9))
          refine X.seq ?_
          refine X.rk ⟨[(4, bV false)], [], 416⟩ hτ hmix (by kernel_rfl) (by kernel_rfl) rfl ?_
          refine X.ret ?_
          exact ⟨trivial, _, _, ⟨false, (by first | exact fls (fun h => by have := congrArg List.length h; omega) | exact fls (eq_no ‹_› ‹_› ‹_›) | exact tru (eq_all hA (by omega) (by omega))), rfl, rfl⟩, .inl (Ret.mk' [] (by kernel_rfl) (by kernel_rfl) (by kernel_rfl))⟩
        · replace hb9 := (sm107_iff _ _).1 (bnot_no (hb9))
          refine X.skip ?_
          refine X.rk ⟨[(0, lV (l.map d107)), (1, lV (m.map d107)), (12, iV ((l.map d107).length : Int)), (13, iV (wrap64 (v13 + 1)))], [], 432⟩ hτ hmix (by kernel_rfl) (by kernel_rfl) (s2 := ⟨[(0, lV (l.map d107)), (1, lV (m.map d107)), (12, iV ((l.map d107).length : Int)), (13, iV (v13 + 1))], [], 432⟩) (congrArg (fun z : Int => (⟨[(0, lV (l.map d107)), (1, lV (m.map d107)), (12, iV ((l.map d107).length : Int)), (13, iV z)], [], 432⟩ : St)) (show wrap64 (v13 + 1) = (v13 + 1) by rw [w64 (n := (v13 + 1)) (by omega) (by omega)])) ?_
          refine ⟨⟨(v13 + 1), ⟨by first | omega | (dsimp only; omega), by first | omega | (dsimp only; omega), upto_nx (by first | omega | (dsimp only; omega)) hA ‹_› (eq_stp ‹_› ‹_›)⟩⟩, by first | exact rfl | omega | (dsimp only; omega) | (simp only [List.length_append, List.length_cons, List.length_nil, List.length_set]; omega) | (simp; done) | (simp; omega), Wk.mk' [] (by kernel_rfl) (by kernel_rfl) (by kernel_rfl)⟩
      · replace hb6 := of_decide_eq_false (hb6)
        refine X.exit ?_
        refine X.seq ?_
        refine X.rk ⟨[(4, bV true)], [], 240⟩ hτ hmix (by kernel_rfl) (by kernel_rfl) rfl ?_
        refine X.ret ?_
        exact ⟨trivial, _, _, ⟨true, (by first | exact fls (fun h => by have := congrArg List.length h; omega) | exact fls (eq_no ‹_› ‹_› ‹_›) | exact tru (eq_all hA (by omega) (by omega))), rfl, rfl⟩, .inl (Ret.mk' [] (by kernel_rfl) (by kernel_rfl) (by kernel_rfl))⟩
  obtain ⟨_, _, ⟨r0, q1, rfl, rfl⟩, hf⟩ := key
  exact ⟨r0, q1, hf⟩

theorem i_sameQc (q : S43) (r : S43) (hq : q.f2.length ≤ 2000000) (hr : r.f2.length ≤ 2000000) : ∃ r0 : Bool, (r0 = sameQ q r) ∧ Fn Try.prog 80 [.e (.agg (cD (d43 q))), .e (.agg (cD (d43 r)))] (lookH []) (bV r0) (lookH []) := by
  have key : ∃ x' h', ((fun x' h' => ∃ r0 : Bool, (r0 = sameQ q r) ∧ x' = bV r0 ∧ h' = [])) x' h' ∧ Fn Try.prog 80 [.e (.agg (cD (d43 q))), .e (.agg (cD (d43 r)))] (lookH []) x' (lookH h') := by
    refine Fn.bodyX (N := 24) hτ Try.func80 rfl rfl rfl rfl ?_
    refine X.seq ?_
    refine X.rk ⟨[(2, .pt 64 0 0), (3, .pt 80 0 0)], [(64, some (.box (cD (d43 q)))), (80, some (.box (cD (d43 r))))], 112⟩ hτ hmix (by kernel_rfl) (by kernel_rfl) rfl ?_
    refine X.seq ?_
    refine X.rs 6 hτ hmix (by kernel_rfl) ?_
    rcases Bool.eq_false_or_eq_true ((q.f0 == r.f0)) with hb1 | hb1
    · refine CH.alt 9 (sV (.bool ((q.f0 == r.f0)))) (sV (.bool true)) (by kernel_rfl) (by rw [hb1]) ?_
      refine CH.alt 10 (sV (.bool ((q.f0 == r.f0)))) (sV (.bool true)) (by kernel_rfl) (by rw [hb1]) ?_
      replace hb1 := eq_of_beq (hb1)
      refine CH.go 7 hτ (by kernel_rfl) ?_
      rcases Bool.eq_false_or_eq_true ((q.f1 == r.f1)) with hb2 | hb2
      · refine CH.alt 15 (sV (.bool ((q.f1 == r.f1)))) (sV (.bool true)) (by kernel_rfl) (by rw [hb2]) ?_
        refine CH.alt 16 (sV (.bool ((q.f1 == r.f1)))) (sV (.bool true)) (by kernel_rfl) (by rw [hb2]) ?_
        refine CH.alt 17 (sV (.bool ((q.f1 == r.f1)))) (sV (.bool true)) (by kernel_rfl) (by rw [hb2]) ?_
        replace hb2 := eq_of_beq (hb2)
        refine CH.go 4 hτ (by kernel_rfl) ?_
        obtain ⟨r3, hr5, hf4⟩ := i_eqStr q.f2 r.f2 (by assumption) (by assumption)
        replace hr5 := hr5.symm; subst hr5
        refine CH.call hf4 Try.func139 ⟨rfl, rfl⟩ [] (by kernel_rfl) (by kernel_rfl) (by kernel_rfl) (by kernel_rfl) ?_
        refine CH.go 2 hτ (by kernel_rfl) ?_
        refine CH.endk ⟨[(4, bV (allEq q.f2 r.f2))], [], 432⟩ (by kernel_rfl) (by kernel_rfl) rfl ?_
        refine X.ret ?_
        exact ⟨trivial, _, _, ⟨(allEq q.f2 r.f2), (by simp_all [sameQ]), rfl, rfl⟩, .inl (Ret.mk' [] (by kernel_rfl) (by kernel_rfl) (by kernel_rfl))⟩
      · refine CH.alt 15 (sV (.bool ((q.f1 == r.f1)))) (sV (.bool false)) (by kernel_rfl) (by rw [hb2]) ?_
        refine CH.alt 16 (sV (.bool ((q.f1 == r.f1)))) (sV (.bool false)) (by kernel_rfl) (by rw [hb2]) ?_
        refine CH.alt 17 (sV (.bool ((q.f1 == r.f1)))) (sV (.bool false)) (by kernel_rfl) (by rw [hb2]) ?_
        replace hb2 := beq_eq_false_iff_ne.1 (hb2)
        refine CH.go 7 hτ (by kernel_rfl) ?_
        refine CH.endk ⟨[(4, bV false)], [], 432⟩ (by kernel_rfl) (by kernel_rfl) rfl ?_
        refine X.ret ?_
        exact ⟨trivial, _, _, ⟨false, (by simp_all [sameQ]), rfl, rfl⟩, .inl (Ret.mk' [] (by kernel_rfl) (by kernel_rfl) (by kernel_rfl))⟩
    · refine CH.alt 9 (sV (.bool ((q.f0 == r.f0)))) (sV (.bool false)) (by kernel_rfl) (by rw [hb1]) ?_
      refine CH.alt 10 (sV (.bool ((q.f0 == r.f0)))) (sV (.bool false)) (by kernel_rfl) (by rw [hb1]) ?_
      replace hb1 := beq_eq_false_iff_ne.1 (hb1)
      refine CH.go 14 hτ (by kernel_rfl) ?_
      refine CH.endk ⟨[(4, bV false)], [], 432⟩ (by kernel_rfl) (by kernel_rfl) rfl ?_
      refine X.ret ?_
      exact ⟨trivial, _, _, ⟨false, (by simp_all [sameQ]), rfl, rfl⟩, .inl (Ret.mk' [] (by kernel_rfl) (by kernel_rfl) (by kernel_rfl))⟩
  obtain ⟨_, _, ⟨r0, q1, rfl, rfl⟩, hf⟩ := key
  exact ⟨r0, q1, hf⟩

theorem i_sameTc (q : S46) (r : S46) (hq : q.f1.length ≤ 2000000) (hq2 : q.f2.length ≤ 2000000) (hr : r.f1.length ≤ 2000000) (hr2 : r.f2.length ≤ 2000000) : ∃ r0 : Bool, (r0 = sameT q r) ∧ Fn Try.prog 81 [.e (.agg (cD (d46 q))), .e (.agg (cD (d46 r)))] (lookH []) (bV r0) (lookH []) := by
  have key : ∃ x' h', ((fun x' h' => ∃ r0 : Bool, (r0 = sameT q r) ∧ x' = bV r0 ∧ h' = [])) x' h' ∧ Fn Try.prog 81 [.e (.agg (cD (d46 q))), .e (.agg (cD (d46 r)))] (lookH []) x' (lookH h') := by
    refine Fn.bodyX (N := 24) hτ Try.func81 rfl rfl rfl rfl ?_
    refine X.seq ?_
    refine X.rk ⟨[(2, .pt 64 0 0), (3, .pt 80 0 0)], [(64, some (.box (cD (d46 q)))), (80, some (.box (cD (d46 r))))], 112⟩ hτ hmix (by kernel_rfl) (by kernel_rfl) rfl ?_
    refine X.seq ?_
    refine X.rs 6 hτ hmix (by kernel_rfl) ?_
    rcases Bool.eq_false_or_eq_true ((q.f0 == r.f0)) with hb1 | hb1
    · refine CH.alt 9 (sV (.bool ((q.f0 == r.f0)))) (sV (.bool true)) (by kernel_rfl) (by rw [hb1]) ?_
      refine CH.alt 10 (sV (.bool ((q.f0 == r.f0)))) (sV (.bool true)) (by kernel_rfl) (by rw [hb1]) ?_
      replace hb1 := eq_of_beq (hb1)
      refine CH.go 4 hτ (by kernel_rfl) ?_
      obtain ⟨r2, hr4, hf3⟩ := i_eqStr q.f1 r.f1 (by assumption) (by assumption)
      replace hr4 := hr4.symm; subst hr4
      refine CH.call hf3 Try.func139 ⟨rfl, rfl⟩ [] (by kernel_rfl) (by kernel_rfl) (by kernel_rfl) (by kernel_rfl) ?_
      refine CH.go 2 hτ (by kernel_rfl) ?_
      rcases Bool.eq_false_or_eq_true ((allEq q.f1 r.f1)) with hb6 | hb6
      · refine CH.alt 15 (sV (.bool ((allEq q.f1 r.f1)))) (sV (.bool true)) (by kernel_rfl) (by rw [hb6]) ?_
        refine CH.alt 16 (sV (.bool ((allEq q.f1 r.f1)))) (sV (.bool true)) (by kernel_rfl) (by rw [hb6]) ?_
        refine CH.alt 17 (sV (.bool ((allEq q.f1 r.f1)))) (sV (.bool true)) (by kernel_rfl) (by rw [hb6]) ?_
        refine CH.go 4 hτ (by kernel_rfl) ?_
        obtain ⟨r7, hr9, hf8⟩ := i_eqInt q.f2 r.f2 (by assumption) (by assumption)
        replace hr9 := hr9.symm; subst hr9
        refine CH.call hf8 Try.func140 ⟨rfl, rfl⟩ [] (by kernel_rfl) (by kernel_rfl) (by kernel_rfl) (by kernel_rfl) ?_
        refine CH.go 2 hτ (by kernel_rfl) ?_
        refine CH.endk ⟨[(4, bV (allEq q.f2 r.f2))], [], 432⟩ (by kernel_rfl) (by kernel_rfl) rfl ?_
        refine X.ret ?_
        exact ⟨trivial, _, _, ⟨(allEq q.f2 r.f2), (by simp_all [sameT]), rfl, rfl⟩, .inl (Ret.mk' [] (by kernel_rfl) (by kernel_rfl) (by kernel_rfl))⟩
      · refine CH.alt 15 (sV (.bool ((allEq q.f1 r.f1)))) (sV (.bool false)) (by kernel_rfl) (by rw [hb6]) ?_
        refine CH.alt 16 (sV (.bool ((allEq q.f1 r.f1)))) (sV (.bool false)) (by kernel_rfl) (by rw [hb6]) ?_
        refine CH.alt 17 (sV (.bool ((allEq q.f1 r.f1)))) (sV (.bool false)) (by kernel_rfl) (by rw [hb6]) ?_
        refine CH.go 7 hτ (by kernel_rfl) ?_
        refine CH.endk ⟨[(4, bV false)], [], 432⟩ (by kernel_rfl) (by kernel_rfl) rfl ?_
        refine X.ret ?_
        exact ⟨trivial, _, _, ⟨false, (by simp_all [sameT]), rfl, rfl⟩, .inl (Ret.mk' [] (by kernel_rfl) (by kernel_rfl) (by kernel_rfl))⟩
    · refine CH.alt 9 (sV (.bool ((q.f0 == r.f0)))) (sV (.bool false)) (by kernel_rfl) (by rw [hb1]) ?_
      refine CH.alt 10 (sV (.bool ((q.f0 == r.f0)))) (sV (.bool false)) (by kernel_rfl) (by rw [hb1]) ?_
      replace hb1 := beq_eq_false_iff_ne.1 (hb1)
      refine CH.go 14 hτ (by kernel_rfl) ?_
      refine CH.endk ⟨[(4, bV false)], [], 432⟩ (by kernel_rfl) (by kernel_rfl) rfl ?_
      refine X.ret ?_
      exact ⟨trivial, _, _, ⟨false, (by simp_all [sameT]), rfl, rfl⟩, .inl (Ret.mk' [] (by kernel_rfl) (by kernel_rfl) (by kernel_rfl))⟩
  obtain ⟨_, _, ⟨r0, q1, rfl, rfl⟩, hf⟩ := key
  exact ⟨r0, q1, hf⟩

theorem i_SameBlock (a : S49) (b : S49) (ha : Sm49 a) (hb : Sm49 b) : ∃ r0 : Bool, (r0 = sameB a b) ∧ Fn Try.prog 27 [.e (.agg (cD (d49 a))), .e (.agg (cD (d49 b)))] (lookH []) (bV r0) (lookH []) := by
  have key : ∃ x' h', ((fun x' h' => ∃ r0 : Bool, (r0 = sameB a b) ∧ x' = bV r0 ∧ h' = [])) x' h' ∧ Fn Try.prog 27 [.e (.agg (cD (d49 a))), .e (.agg (cD (d49 b)))] (lookH []) x' (lookH h') := by
    refine Fn.bodyX (N := 71) hτ Try.func27 rfl rfl rfl rfl ?_
    refine X.seq ?_
    refine X.rk ⟨[(2, .pt 64 0 0), (3, .pt 80 0 0)], [(64, some (.box (cD (d49 a)))), (80, some (.box (cD (d49 b))))], 112⟩ hτ hmix (by kernel_rfl) (by kernel_rfl) rfl ?_
    refine X.seq ?_
    refine X.seq ?_
    refine X.rs 6 hτ hmix (by kernel_rfl) ?_
    rcases Bool.eq_false_or_eq_true ((a.f0 != b.f0)) with hb1 | hb1
    · refine CH.alt 9 (sV (.bool ((a.f0 != b.f0)))) (sV (.bool true)) (by kernel_rfl) (by rw [hb1]) ?_
      refine CH.alt 10 (sV (.bool ((a.f0 != b.f0)))) (sV (.bool true)) (by kernel_rfl) (by rw [hb1]) ?_
      replace hb1 := bne_iff_ne.1 (hb1)
      refine CH.go 34 hτ (by kernel_rfl) ?_
      refine CH.endk ⟨[(2, .pt 64 0 0), (3, .pt 80 0 0), (44, bV true)], [(64, some (.box (cD (d49 a)))), (80, some (.box (cD (d49 b))))], 752⟩ (by kernel_rfl) (by kernel_rfl) rfl ?_
      refine X.ifT (by kernel_rfl) ?_
      refine X.seq ?_
      refine X.rk ⟨[(4, bV false)], [], 768⟩ hτ hmix (by kernel_rfl) (by kernel_rfl) rfl ?_
      refine X.ret ?_
      exact ⟨trivial, _, _, ⟨false, (by simp_all [sameB]), rfl, rfl⟩, .inl (Ret.mk' [] (by kernel_rfl) (by kernel_rfl) (by kernel_rfl))⟩
    · refine CH.alt 9 (sV (.bool ((a.f0 != b.f0)))) (sV (.bool false)) (by kernel_rfl) (by rw [hb1]) ?_
      refine CH.alt 10 (sV (.bool ((a.f0 != b.f0)))) (sV (.bool false)) (by kernel_rfl) (by rw [hb1]) ?_
      replace hb1 := bne_eq_false_iff_eq.1 (hb1)
      refine CH.go 7 hτ (by kernel_rfl) ?_
      rcases Bool.eq_false_or_eq_true ((a.f1 != b.f1)) with hb2 | hb2
      · refine CH.alt 15 (sV (.bool ((a.f1 != b.f1)))) (sV (.bool true)) (by kernel_rfl) (by rw [hb2]) ?_
        refine CH.alt 16 (sV (.bool ((a.f1 != b.f1)))) (sV (.bool true)) (by kernel_rfl) (by rw [hb2]) ?_
        refine CH.alt 17 (sV (.bool ((a.f1 != b.f1)))) (sV (.bool true)) (by kernel_rfl) (by rw [hb2]) ?_
        replace hb2 := bne_iff_ne.1 (hb2)
        refine CH.go 27 hτ (by kernel_rfl) ?_
        refine CH.endk ⟨[(2, .pt 64 0 0), (3, .pt 80 0 0), (44, bV true)], [(64, some (.box (cD (d49 a)))), (80, some (.box (cD (d49 b))))], 752⟩ (by kernel_rfl) (by kernel_rfl) rfl ?_
        refine X.ifT (by kernel_rfl) ?_
        refine X.seq ?_
        refine X.rk ⟨[(4, bV false)], [], 768⟩ hτ hmix (by kernel_rfl) (by kernel_rfl) rfl ?_
        refine X.ret ?_
        exact ⟨trivial, _, _, ⟨false, (by simp_all [sameB]), rfl, rfl⟩, .inl (Ret.mk' [] (by kernel_rfl) (by kernel_rfl) (by kernel_rfl))⟩
      · refine CH.alt 15 (sV (.bool ((a.f1 != b.f1)))) (sV (.bool false)) (by kernel_rfl) (by rw [hb2]) ?_
        refine CH.alt 16 (sV (.bool ((a.f1 != b.f1)))) (sV (.bool false)) (by kernel_rfl) (by rw [hb2]) ?_
        refine CH.alt 17 (sV (.bool ((a.f1 != b.f1)))) (sV (.bool false)) (by kernel_rfl) (by rw [hb2]) ?_
        replace hb2 := bne_eq_false_iff_eq.1 (hb2)
        refine CH.go 7 hτ (by kernel_rfl) ?_
        rcases Bool.eq_false_or_eq_true ((a.f2 != b.f2)) with hb3 | hb3
        · refine CH.alt 22 (sV (.bool ((a.f2 != b.f2)))) (sV (.bool true)) (by kernel_rfl) (by rw [hb3]) ?_
          refine CH.alt 23 (sV (.bool ((a.f2 != b.f2)))) (sV (.bool true)) (by kernel_rfl) (by rw [hb3]) ?_
          refine CH.alt 24 (sV (.bool ((a.f2 != b.f2)))) (sV (.bool true)) (by kernel_rfl) (by rw [hb3]) ?_
          replace hb3 := bne_iff_ne.1 (hb3)
          refine CH.go 20 hτ (by kernel_rfl) ?_
          refine CH.endk ⟨[(2, .pt 64 0 0), (3, .pt 80 0 0), (44, bV true)], [(64, some (.box (cD (d49 a)))), (80, some (.box (cD (d49 b))))], 752⟩ (by kernel_rfl) (by kernel_rfl) rfl ?_
          refine X.ifT (by kernel_rfl) ?_
          refine X.seq ?_
          refine X.rk ⟨[(4, bV false)], [], 768⟩ hτ hmix (by kernel_rfl) (by kernel_rfl) rfl ?_
          refine X.ret ?_
          exact ⟨trivial, _, _, ⟨false, (by simp_all [sameB]), rfl, rfl⟩, .inl (Ret.mk' [] (by kernel_rfl) (by kernel_rfl) (by kernel_rfl))⟩
        · refine CH.alt 22 (sV (.bool ((a.f2 != b.f2)))) (sV (.bool false)) (by kernel_rfl) (by rw [hb3]) ?_
          refine CH.alt 23 (sV (.bool ((a.f2 != b.f2)))) (sV (.bool false)) (by kernel_rfl) (by rw [hb3]) ?_
          refine CH.alt 24 (sV (.bool ((a.f2 != b.f2)))) (sV (.bool false)) (by kernel_rfl) (by rw [hb3]) ?_
          replace hb3 := bne_eq_false_iff_eq.1 (hb3)
          refine CH.go 7 hτ (by kernel_rfl) ?_
          rcases Bool.eq_false_or_eq_true (!(a.f3.toList == b.f3.toList)) with hb4 | hb4
          · refine CH.alt 29 (sV (.bool (!(a.f3.toList == b.f3.toList)))) (sV (.bool true)) (by kernel_rfl) (by rw [hb4]) ?_
            refine CH.alt 30 (sV (.bool (!(a.f3.toList == b.f3.toList)))) (sV (.bool true)) (by kernel_rfl) (by rw [hb4]) ?_
            refine CH.alt 31 (sV (.bool (!(a.f3.toList == b.f3.toList)))) (sV (.bool true)) (by kernel_rfl) (by rw [hb4]) ?_
            replace hb4 := beq_no (bnot_yes (hb4))
            refine CH.go 13 hτ (by kernel_rfl) ?_
            refine CH.endk ⟨[(2, .pt 64 0 0), (3, .pt 80 0 0), (44, bV true)], [(64, some (.box (cD (d49 a)))), (80, some (.box (cD (d49 b))))], 752⟩ (by kernel_rfl) (by kernel_rfl) rfl ?_
            refine X.ifT (by kernel_rfl) ?_
            refine X.seq ?_
            refine X.rk ⟨[(4, bV false)], [], 768⟩ hτ hmix (by kernel_rfl) (by kernel_rfl) rfl ?_
            refine X.ret ?_
            exact ⟨trivial, _, _, ⟨false, (by simp_all [sameB]), rfl, rfl⟩, .inl (Ret.mk' [] (by kernel_rfl) (by kernel_rfl) (by kernel_rfl))⟩
          · refine CH.alt 29 (sV (.bool (!(a.f3.toList == b.f3.toList)))) (sV (.bool false)) (by kernel_rfl) (by rw [hb4]) ?_
            refine CH.alt 30 (sV (.bool (!(a.f3.toList == b.f3.toList)))) (sV (.bool false)) (by kernel_rfl) (by rw [hb4]) ?_
            refine CH.alt 31 (sV (.bool (!(a.f3.toList == b.f3.toList)))) (sV (.bool false)) (by kernel_rfl) (by rw [hb4]) ?_
            replace hb4 := beq_yes (bnot_no (hb4))
            refine CH.go 4 hτ (by kernel_rfl) ?_
            refine CH.eqB (t := 4) (ng := true) (a := a.f7) (b := b.f7) (by kernel_rfl) (by kernel_rfl) Try.underlying4 ?_
            refine CH.go 2 hτ (by kernel_rfl) ?_
            rcases Bool.eq_false_or_eq_true (!(a.f7 == b.f7)) with hb5 | hb5
            · refine CH.alt 36 (sV (.bool (!(a.f7 == b.f7)))) (sV (.bool true)) (by kernel_rfl) (by rw [hb5]) ?_
              refine CH.alt 37 (sV (.bool (!(a.f7 == b.f7)))) (sV (.bool true)) (by kernel_rfl) (by rw [hb5]) ?_
              refine CH.alt 38 (sV (.bool (!(a.f7 == b.f7)))) (sV (.bool true)) (by kernel_rfl) (by rw [hb5]) ?_
              replace hb5 := beq_eq_false_iff_ne.1 (bnot_yes (hb5))
              refine CH.go 6 hτ (by kernel_rfl) ?_
              refine CH.endk ⟨[(2, .pt 64 0 0), (3, .pt 80 0 0), (44, bV true)], [(64, some (.box (cD (d49 a)))), (80, some (.box (cD (d49 b))))], 752⟩ (by kernel_rfl) (by kernel_rfl) rfl ?_
              refine X.ifT (by kernel_rfl) ?_
              refine X.seq ?_
              refine X.rk ⟨[(4, bV false)], [], 768⟩ hτ hmix (by kernel_rfl) (by kernel_rfl) rfl ?_
              refine X.ret ?_
              exact ⟨trivial, _, _, ⟨false, (by simp_all [sameB]), rfl, rfl⟩, .inl (Ret.mk' [] (by kernel_rfl) (by kernel_rfl) (by kernel_rfl))⟩
            · refine CH.alt 36 (sV (.bool (!(a.f7 == b.f7)))) (sV (.bool false)) (by kernel_rfl) (by rw [hb5]) ?_
              refine CH.alt 37 (sV (.bool (!(a.f7 == b.f7)))) (sV (.bool false)) (by kernel_rfl) (by rw [hb5]) ?_
              refine CH.alt 38 (sV (.bool (!(a.f7 == b.f7)))) (sV (.bool false)) (by kernel_rfl) (by rw [hb5]) ?_
              replace hb5 := eq_of_beq (bnot_no (hb5))
              refine CH.go 6 hτ (by kernel_rfl) ?_
              refine CH.endk ⟨[(2, .pt 64 0 0), (3, .pt 80 0 0), (44, bV (!(a.f9.toList == b.f9.toList)))], [(64, some (.box (cD (d49 a)))), (80, some (.box (cD (d49 b))))], 752⟩ (by kernel_rfl) (by kernel_rfl) rfl ?_
              refine X.if_ (b := !(a.f9.toList == b.f9.toList)) (by kernel_rfl) (fun hb6 => ?_) (fun hb6 => ?_)
              · replace hb6 := beq_no (bnot_yes (hb6))
                refine X.seq ?_
                refine X.rk ⟨[(4, bV false)], [], 768⟩ hτ hmix (by kernel_rfl) (by kernel_rfl) rfl ?_
                refine X.ret ?_
                exact ⟨trivial, _, _, ⟨false, (by simp_all [sameB]), rfl, rfl⟩, .inl (Ret.mk' [] (by kernel_rfl) (by kernel_rfl) (by kernel_rfl))⟩
              · replace hb6 := beq_yes (bnot_no (hb6))
                refine X.skip ?_
                refine X.seq ?_
                refine X.rs 4 hτ hmix (by kernel_rfl) ?_
                obtain ⟨r7, hr9, hf8⟩ := i_sameQc a.f4 b.f4 (by exact ha.2.1.1) (by exact hb.2.1.1)
                replace hr9 := hr9.symm; subst hr9
                refine CH.call hf8 Try.func80 ⟨rfl, rfl⟩ [] (by kernel_rfl) (by kernel_rfl) (by kernel_rfl) (by kernel_rfl) ?_
                refine CH.go 1 hτ (by kernel_rfl) ?_
                rcases Bool.eq_false_or_eq_true ((sameQ a.f4 b.f4)) with hb11 | hb11
                · refine CH.alt 49 (sV (.bool ((sameQ a.f4 b.f4)))) (sV (.bool true)) (by kernel_rfl) (by rw [hb11]) ?_
                  refine CH.alt 50 (sV (.bool ((sameQ a.f4 b.f4)))) (sV (.bool true)) (by kernel_rfl) (by rw [hb11]) ?_
                  refine CH.go 4 hτ (by kernel_rfl) ?_
                  obtain ⟨r12, hr14, hf13⟩ := i_sameTc a.f5 b.f5 (by exact ha.2.2.1.1.1) (by exact ha.2.2.1.2) (by exact hb.2.2.1.1.1) (by exact hb.2.2.1.2)
                  replace hr14 := hr14.symm; subst hr14
                  refine CH.call hf13 Try.func81 ⟨rfl, rfl⟩ [] (by kernel_rfl) (by kernel_rfl) (by kernel_rfl) (by kernel_rfl) ?_
                  refine CH.go 2 hτ (by kernel_rfl) ?_
                  rcases Bool.eq_false_or_eq_true ((sameT a.f5 b.f5)) with hb16 | hb16
                  · refine CH.alt 55 (sV (.bool ((sameT a.f5 b.f5)))) (sV (.bool true)) (by kernel_rfl) (by rw [hb16]) ?_
                    refine CH.alt 56 (sV (.bool ((sameT a.f5 b.f5)))) (sV (.bool true)) (by kernel_rfl) (by rw [hb16]) ?_
                    refine CH.alt 57 (sV (.bool ((sameT a.f5 b.f5)))) (sV (.bool true)) (by kernel_rfl) (by rw [hb16]) ?_
                    refine CH.go 4 hτ (by kernel_rfl) ?_
                    obtain ⟨r17, hr19, hf18⟩ := i_eqTx a.f6 b.f6 (by exact ha.2.2.2.1.1) (by exact hb.2.2.2.1.1)
                    replace hr19 := hr19.symm; subst hr19
                    refine CH.call hf18 Try.func82 ⟨rfl, rfl⟩ [] (by kernel_rfl) (by kernel_rfl) (by kernel_rfl) (by kernel_rfl) ?_
                    refine CH.go 2 hτ (by kernel_rfl) ?_
                    rcases Bool.eq_false_or_eq_true ((allEq a.f6 b.f6)) with hb21 | hb21
                    · refine CH.alt 62 (sV (.bool ((allEq a.f6 b.f6)))) (sV (.bool true)) (by kernel_rfl) (by rw [hb21]) ?_
                      refine CH.alt 63 (sV (.bool ((allEq a.f6 b.f6)))) (sV (.bool true)) (by kernel_rfl) (by rw [hb21]) ?_
                      refine CH.alt 64 (sV (.bool ((allEq a.f6 b.f6)))) (sV (.bool true)) (by kernel_rfl) (by rw [hb21]) ?_
                      refine CH.go 4 hτ (by kernel_rfl) ?_
                      obtain ⟨r22, hr24, hf23⟩ := i_eqVal a.f8 b.f8 (by exact ha.2.2.2.2.1.1) (by exact hb.2.2.2.2.1.1)
                      replace hr24 := hr24.symm; subst hr24
                      refine CH.call hf23 Try.func83 ⟨rfl, rfl⟩ [] (by kernel_rfl) (by kernel_rfl) (by kernel_rfl) (by kernel_rfl) ?_
                      refine CH.go 2 hτ (by kernel_rfl) ?_
                      refine CH.endk ⟨[(4, bV (allEq a.f8 b.f8))], [], 1184⟩ (by kernel_rfl) (by kernel_rfl) rfl ?_
                      refine X.ret ?_
                      exact ⟨trivial, _, _, ⟨(allEq a.f8 b.f8), (by simp_all [sameB]), rfl, rfl⟩, .inl (Ret.mk' [] (by kernel_rfl) (by kernel_rfl) (by kernel_rfl))⟩
                    · refine CH.alt 62 (sV (.bool ((allEq a.f6 b.f6)))) (sV (.bool false)) (by kernel_rfl) (by rw [hb21]) ?_
                      refine CH.alt 63 (sV (.bool ((allEq a.f6 b.f6)))) (sV (.bool false)) (by kernel_rfl) (by rw [hb21]) ?_
                      refine CH.alt 64 (sV (.bool ((allEq a.f6 b.f6)))) (sV (.bool false)) (by kernel_rfl) (by rw [hb21]) ?_
                      refine CH.go 7 hτ (by kernel_rfl) ?_
                      refine CH.endk ⟨[(4, bV false)], [], 1184⟩ (by kernel_rfl) (by kernel_rfl) rfl ?_
                      refine X.ret ?_
                      exact ⟨trivial, _, _, ⟨false, (by simp_all [sameB]), rfl, rfl⟩, .inl (Ret.mk' [] (by kernel_rfl) (by kernel_rfl) (by kernel_rfl))⟩
                  · refine CH.alt 55 (sV (.bool ((sameT a.f5 b.f5)))) (sV (.bool false)) (by kernel_rfl) (by rw [hb16]) ?_
                    refine CH.alt 56 (sV (.bool ((sameT a.f5 b.f5)))) (sV (.bool false)) (by kernel_rfl) (by rw [hb16]) ?_
                    refine CH.alt 57 (sV (.bool ((sameT a.f5 b.f5)))) (sV (.bool false)) (by kernel_rfl) (by rw [hb16]) ?_
                    refine CH.go 14 hτ (by kernel_rfl) ?_
                    refine CH.endk ⟨[(4, bV false)], [], 1184⟩ (by kernel_rfl) (by kernel_rfl) rfl ?_
                    refine X.ret ?_
                    exact ⟨trivial, _, _, ⟨false, (by simp_all [sameB]), rfl, rfl⟩, .inl (Ret.mk' [] (by kernel_rfl) (by kernel_rfl) (by kernel_rfl))⟩
                · refine CH.alt 49 (sV (.bool ((sameQ a.f4 b.f4)))) (sV (.bool false)) (by kernel_rfl) (by rw [hb11]) ?_
                  refine CH.alt 50 (sV (.bool ((sameQ a.f4 b.f4)))) (sV (.bool false)) (by kernel_rfl) (by rw [hb11]) ?_
                  refine CH.go 21 hτ (by kernel_rfl) ?_
                  refine CH.endk ⟨[(4, bV false)], [], 1184⟩ (by kernel_rfl) (by kernel_rfl) rfl ?_
                  refine X.ret ?_
                  exact ⟨trivial, _, _, ⟨false, (by simp_all [sameB]), rfl, rfl⟩, .inl (Ret.mk' [] (by kernel_rfl) (by kernel_rfl) (by kernel_rfl))⟩
  obtain ⟨_, _, ⟨r0, q1, rfl, rfl⟩, hf⟩ := key
  exact ⟨r0, q1, hf⟩

theorem i_HighOf (t : S46) (ht : t.f2.length ≤ 2000000) : ∃ r0 : Int, (r0 = highOf t) ∧ Fn Try.prog 85 [.e (.agg (cD (d46 t)))] (lookH []) (iV r0) (lookH []) := by
  have key : ∃ x' h', ((fun x' h' => ∃ r0 : Int, (r0 = highOf t) ∧ x' = iV r0 ∧ h' = [])) x' h' ∧ Fn Try.prog 85 [.e (.agg (cD (d46 t)))] (lookH []) x' (lookH h') := by
    refine Fn.bodyX (N := 18) hτ Try.func85 rfl rfl rfl rfl ?_
    refine X.seq ?_
    refine X.rk ⟨[(1, .pt 64 0 0)], [(64, some (.box (cD (d46 t))))], 96⟩ hτ hmix (by kernel_rfl) (by kernel_rfl) rfl ?_
    refine X.seq ?_
    refine X.rk ⟨[(1, .pt 64 0 0), (3, iV 0)], [(64, some (.box (cD (d46 t))))], 112⟩ hτ hmix (by kernel_rfl) (by kernel_rfl) rfl ?_
    refine X.seq ?_
    refine X.seq ?_
    have el1 : (t.f2.map dI).length = t.f2.length := List.length_map ..
    refine X.rk ⟨[(3, iV 0), (7, lV (t.f2.map dI)), (8, iV ((t.f2.map dI).length : Int)), (9, iV 0)], [], 176⟩ hτ hmix (by kernel_rfl) (by kernel_rfl) rfl ?_
    refine X.block ?_
    -- 3: v3 : Int, v9 : Int
    refine X.loop (σ := { g : Int × Int // (fun (v3 : Int) (v9 : Int) => 0 ≤ v9 ∧ v9 ≤ t.f2.length ∧ v3 = (t.f2.take v9.toNat).foldl (fun m h => mmx true m h) 0) g.1 g.2 }) (fun g => (fun (v3 : Int) (v9 : Int) => ⟨[(3, iV v3), (7, lV (t.f2.map dI)), (8, iV ((t.f2.map dI).length : Int)), (9, iV v9)], [], 176⟩) g.1.1 g.1.2) (fun g => (fun (v3 : Int) (v9 : Int) => (t.f2.length - v9).toNat) g.1.1 g.1.2) ⟨(0, 0), ⟨by first | omega | (dsimp only; omega), by first | omega | (dsimp only; omega), by simp⟩⟩ (Wk.less (by kernel_rfl)) (fun g => ?_)
    obtain ⟨⟨v3, v9⟩, hg3⟩ := g
    have hg3 : 0 ≤ v9 ∧ v9 ≤ t.f2.length ∧ v3 = (t.f2.take v9.toNat).foldl (fun m h => mmx true m h) 0 := hg3
    obtain ⟨_, _, hF⟩ := hg3
    refine X.seq ?_
    refine X.rk ⟨[(3, iV v3), (7, lV (t.f2.map dI)), (8, iV ((t.f2.map dI).length : Int)), (9, iV v9), (10, bV (decide ((v9 : Int) < ((t.f2.map dI).length : Int))))], [], 192⟩ hτ hmix (by kernel_rfl) (by kernel_rfl) rfl ?_
    refine X.seq ?_
    refine X.if_ (b := decide ((v9 : Int) < ((t.f2.map dI).length : Int))) (by kernel_rfl) (fun hb4 => ?_) (fun hb4 => ?_)
    · replace hb4 := of_decide_eq_true (hb4)
      refine X.skip ?_
      refine X.seq ?_
      refine X.block ?_
      refine X.seq ?_
      refine X.rs 0 hτ hmix (by kernel_rfl) ?_
      obtain ⟨x5, hx5⟩ : ∃ x, t.f2[Int.toNat v9]? = some x := ⟨_, List.getElem?_eq_getElem (by first | omega | (simp; done) | (simp; omega))⟩
      refine CH.idx hτ (dI x5) (rows := (t.f2.map dI)) (n := v9) (sz := 1) (by kernel_rfl) (by kernel_rfl) (by first | omega | (simp; done) | (simp; omega)) (by rw [List.getElem?_map, hx5]; rfl) (by kernel_rfl) ?_
      refine CH.go 2 hτ (by kernel_rfl) ?_
      refine CH.endk ⟨[(3, iV v3), (5, iV x5), (7, lV (t.f2.map dI)), (8, iV ((t.f2.map dI).length : Int)), (9, iV v9)], [], 240⟩ (by kernel_rfl) (by kernel_rfl) rfl ?_
      refine X.rs 2 hτ hmix (by kernel_rfl) ?_
      refine CH.mm (mx := true) (k := .i64) (a := v3) (b := x5) (tu := (3, 3)) (by kernel_rfl) (by kernel_rfl) (by kernel_rfl) ?_
      refine CH.go 1 hτ (by kernel_rfl) ?_
      refine CH.endk ⟨[(3, iV (mmx true v3 x5)), (7, lV (t.f2.map dI)), (8, iV ((t.f2.map dI).length : Int)), (9, iV v9)], [], 304⟩ (by kernel_rfl) (by kernel_rfl) rfl ?_
      refine X.rk ⟨[(3, iV (mmx true v3 x5)), (7, lV (t.f2.map dI)), (8, iV ((t.f2.map dI).length : Int)), (9, iV (wrap64 (v9 + 1)))], [], 336⟩ hτ hmix (by kernel_rfl) (by kernel_rfl) (s2 := ⟨[(3, iV (mmx true v3 x5)), (7, lV (t.f2.map dI)), (8, iV ((t.f2.map dI).length : Int)), (9, iV (v9 + 1))], [], 336⟩) (congrArg (fun z : Int => (⟨[(3, iV (mmx true v3 x5)), (7, lV (t.f2.map dI)), (8, iV ((t.f2.map dI).length : Int)), (9, iV z)], [], 336⟩ : St)) (show wrap64 (v9 + 1) = (v9 + 1) by rw [w64 (n := (v9 + 1)) (by omega) (by omega)])) ?_
      refine ⟨⟨((mmx true v3 x5), (v9 + 1)), ⟨by first | omega | (dsimp only; omega), by first | omega | (dsimp only; omega), fold_next (f := fun m h => mmx true m h) (by first | omega | (dsimp only; omega)) ‹_› hF⟩⟩, by first | exact rfl | omega | (dsimp only; omega) | (simp only [List.length_append, List.length_cons, List.length_nil, List.length_set]; omega) | (simp; done) | (simp; omega), Wk.mk' [] (by kernel_rfl) (by kernel_rfl) (by kernel_rfl)⟩
    · replace hb4 := of_decide_eq_false (hb4)
      refine X.exit ?_
      refine X.seq ?_
      refine X.rk ⟨[(2, iV v3)], [], 224⟩ hτ hmix (by kernel_rfl) (by kernel_rfl) rfl ?_
      refine X.ret ?_
      exact ⟨trivial, _, _, ⟨v3, (fold_end (by omega) hF), rfl, rfl⟩, .inl (Ret.mk' [] (by kernel_rfl) (by kernel_rfl) (by kernel_rfl))⟩
  obtain ⟨_, _, ⟨r0, q1, rfl, rfl⟩, hf⟩ := key
  exact ⟨r0, q1, hf⟩

theorem i_Follows (b : S49) (hb : Sm49 b) : ∃ r0 : Bool, (r0 = follows b) ∧ Fn Try.prog 28 [.e (.agg (cD (d49 b)))] (lookH []) (bV r0) (lookH []) := by
  have key : ∃ x' h', ((fun x' h' => ∃ r0 : Bool, (r0 = follows b) ∧ x' = bV r0 ∧ h' = [])) x' h' ∧ Fn Try.prog 28 [.e (.agg (cD (d49 b)))] (lookH []) x' (lookH h') := by
    refine Fn.bodyX (N := 37) hτ Try.func28 rfl rfl rfl rfl ?_
    refine X.seq ?_
    refine X.rk ⟨[(1, .pt 64 0 0)], [(64, some (.box (cD (d49 b))))], 96⟩ hτ hmix (by kernel_rfl) (by kernel_rfl) rfl ?_
    refine X.seq ?_
    refine X.seq ?_
    refine X.rs 8 hτ hmix (by kernel_rfl) ?_
    rcases Bool.eq_false_or_eq_true ((b.f4.f0 == (wr .i64 (b.f2 - 1)))) with hb1 | hb1
    · refine CH.alt 9 (sV (.bool ((b.f4.f0 == (wr .i64 (b.f2 - 1)))))) (sV (.bool true)) (by kernel_rfl) (by rw [hb1]) ?_
      refine CH.alt 10 (sV (.bool ((b.f4.f0 == (wr .i64 (b.f2 - 1)))))) (sV (.bool true)) (by kernel_rfl) (by rw [hb1]) ?_
      replace hb1 := eq_of_beq (hb1)
      refine CH.go 2 hτ (by kernel_rfl) ?_
      obtain ⟨r2, hr4, hf3⟩ := i_isNone b.f5
      replace hr4 := hr4.symm; subst hr4
      refine CH.call hf3 Try.func84 ⟨rfl, rfl⟩ [] (by kernel_rfl) (by kernel_rfl) (by kernel_rfl) (by kernel_rfl) ?_
      refine CH.go 1 hτ (by kernel_rfl) ?_
      refine CH.endk ⟨[(1, .pt 64 0 0), (14, bV (noneT b.f5))], [(64, some (.box (cD (d49 b))))], 288⟩ (by kernel_rfl) (by kernel_rfl) rfl ?_
      refine X.if_ (b := (noneT b.f5)) (by kernel_rfl) (fun hb6 => ?_) (fun hb6 => ?_)
      · refine X.seq ?_
        refine X.rk ⟨[(2, bV true)], [], 304⟩ hτ hmix (by kernel_rfl) (by kernel_rfl) rfl ?_
        refine X.ret ?_
        exact ⟨trivial, _, _, ⟨true, (by rw [Bool.eq_iff_iff]; simp only [follows, Bool.and_eq_true, Bool.or_eq_true, inR_iff, decide_eq_true_eq, beq_iff_eq, Bool.false_eq_true, false_iff, true_iff, List.length_map]; first | (intro h; omega) | (intro h; simp_all; done) | (simp_all; done) | (simp_all; omega) | (constructor <;> intro h <;> (first | (simp_all; done) | (simp_all; omega) | omega))), rfl, rfl⟩, .inl (Ret.mk' [] (by kernel_rfl) (by kernel_rfl) (by kernel_rfl))⟩
      · refine X.skip ?_
        refine X.seq ?_
        refine X.rs 5 hτ hmix (by kernel_rfl) ?_
        rcases Bool.eq_false_or_eq_true (decide ((b.f5.f0 : Int) > 0)) with hb7 | hb7
        · refine CH.alt 18 (sV (.bool (decide ((b.f5.f0 : Int) > 0)))) (sV (.bool true)) (by kernel_rfl) (by rw [hb7]) ?_
          refine CH.alt 19 (sV (.bool (decide ((b.f5.f0 : Int) > 0)))) (sV (.bool true)) (by kernel_rfl) (by rw [hb7]) ?_
          replace hb7 := of_decide_eq_true (hb7)
          refine CH.go 9 hτ (by kernel_rfl) ?_
          rcases Bool.eq_false_or_eq_true ((b.f5.f0 == (wr .i64 (b.f2 - 1)))) with hb8 | hb8
          · refine CH.alt 26 (sV (.bool ((b.f5.f0 == (wr .i64 (b.f2 - 1)))))) (sV (.bool true)) (by kernel_rfl) (by rw [hb8]) ?_
            refine CH.alt 27 (sV (.bool ((b.f5.f0 == (wr .i64 (b.f2 - 1)))))) (sV (.bool true)) (by kernel_rfl) (by rw [hb8]) ?_
            refine CH.alt 28 (sV (.bool ((b.f5.f0 == (wr .i64 (b.f2 - 1)))))) (sV (.bool true)) (by kernel_rfl) (by rw [hb8]) ?_
            replace hb8 := eq_of_beq (hb8)
            refine CH.go 5 hτ (by kernel_rfl) ?_
            obtain ⟨r9, hr11, hf10⟩ := i_HighOf b.f5 (by exact hb.2.2.1.2)
            replace hr11 := hr11.symm; subst hr11
            refine CH.call hf10 Try.func85 ⟨rfl, rfl⟩ [] (by kernel_rfl) (by kernel_rfl) (by kernel_rfl) (by kernel_rfl) ?_
            refine CH.go 3 hτ (by kernel_rfl) ?_
            refine CH.endk ⟨[(2, bV (decide ((b.f4.f0 : Int) ≥ (highOf b.f5))))], [], 656⟩ (by kernel_rfl) (by kernel_rfl) rfl ?_
            refine X.ret ?_
            exact ⟨trivial, _, _, ⟨decide ((b.f4.f0 : Int) ≥ (highOf b.f5)), (by rw [Bool.eq_iff_iff]; simp only [follows, Bool.and_eq_true, Bool.or_eq_true, inR_iff, decide_eq_true_eq, beq_iff_eq, Bool.false_eq_true, false_iff, true_iff, List.length_map]; first | (intro h; omega) | (intro h; simp_all; done) | (simp_all; done) | (simp_all; omega) | (constructor <;> intro h <;> (first | (simp_all; done) | (simp_all; omega) | omega))), rfl, rfl⟩, .inl (Ret.mk' [] (by kernel_rfl) (by kernel_rfl) (by kernel_rfl))⟩
          · refine CH.alt 26 (sV (.bool ((b.f5.f0 == (wr .i64 (b.f2 - 1)))))) (sV (.bool false)) (by kernel_rfl) (by rw [hb8]) ?_
            refine CH.alt 27 (sV (.bool ((b.f5.f0 == (wr .i64 (b.f2 - 1)))))) (sV (.bool false)) (by kernel_rfl) (by rw [hb8]) ?_
            refine CH.alt 28 (sV (.bool ((b.f5.f0 == (wr .i64 (b.f2 - 1)))))) (sV (.bool false)) (by kernel_rfl) (by rw [hb8]) ?_
            replace hb8 := beq_eq_false_iff_ne.1 (hb8)
            refine CH.go 9 hτ (by kernel_rfl) ?_
            refine CH.endk ⟨[(2, bV false)], [], 656⟩ (by kernel_rfl) (by kernel_rfl) rfl ?_
            refine X.ret ?_
            exact ⟨trivial, _, _, ⟨false, (by rw [Bool.eq_iff_iff]; simp only [follows, Bool.and_eq_true, Bool.or_eq_true, inR_iff, decide_eq_true_eq, beq_iff_eq, Bool.false_eq_true, false_iff, true_iff, List.length_map]; first | (intro h; omega) | (intro h; simp_all; done) | (simp_all; done) | (simp_all; omega) | (constructor <;> intro h <;> (first | (simp_all; done) | (simp_all; omega) | omega))), rfl, rfl⟩, .inl (Ret.mk' [] (by kernel_rfl) (by kernel_rfl) (by kernel_rfl))⟩
        · refine CH.alt 18 (sV (.bool (decide ((b.f5.f0 : Int) > 0)))) (sV (.bool false)) (by kernel_rfl) (by rw [hb7]) ?_
          refine CH.alt 19 (sV (.bool (decide ((b.f5.f0 : Int) > 0)))) (sV (.bool false)) (by kernel_rfl) (by rw [hb7]) ?_
          replace hb7 := of_decide_eq_false (hb7)
          refine CH.go 18 hτ (by kernel_rfl) ?_
          refine CH.endk ⟨[(2, bV false)], [], 656⟩ (by kernel_rfl) (by kernel_rfl) rfl ?_
          refine X.ret ?_
          exact ⟨trivial, _, _, ⟨false, (by rw [Bool.eq_iff_iff]; simp only [follows, Bool.and_eq_true, Bool.or_eq_true, inR_iff, decide_eq_true_eq, beq_iff_eq, Bool.false_eq_true, false_iff, true_iff, List.length_map]; first | (intro h; omega) | (intro h; simp_all; done) | (simp_all; done) | (simp_all; omega) | (constructor <;> intro h <;> (first | (simp_all; done) | (simp_all; omega) | omega))), rfl, rfl⟩, .inl (Ret.mk' [] (by kernel_rfl) (by kernel_rfl) (by kernel_rfl))⟩
    · refine CH.alt 9 (sV (.bool ((b.f4.f0 == (wr .i64 (b.f2 - 1)))))) (sV (.bool false)) (by kernel_rfl) (by rw [hb1]) ?_
      refine CH.alt 10 (sV (.bool ((b.f4.f0 == (wr .i64 (b.f2 - 1)))))) (sV (.bool false)) (by kernel_rfl) (by rw [hb1]) ?_
      replace hb1 := beq_eq_false_iff_ne.1 (hb1)
      refine CH.go 4 hτ (by kernel_rfl) ?_
      refine CH.endk ⟨[(1, .pt 64 0 0), (14, bV false)], [(64, some (.box (cD (d49 b))))], 288⟩ (by kernel_rfl) (by kernel_rfl) rfl ?_
      refine X.ifF (by kernel_rfl) ?_
      refine X.skip ?_
      refine X.seq ?_
      refine X.rs 5 hτ hmix (by kernel_rfl) ?_
      rcases Bool.eq_false_or_eq_true (decide ((b.f5.f0 : Int) > 0)) with hb13 | hb13
      · refine CH.alt 18 (sV (.bool (decide ((b.f5.f0 : Int) > 0)))) (sV (.bool true)) (by kernel_rfl) (by rw [hb13]) ?_
        refine CH.alt 19 (sV (.bool (decide ((b.f5.f0 : Int) > 0)))) (sV (.bool true)) (by kernel_rfl) (by rw [hb13]) ?_
        replace hb13 := of_decide_eq_true (hb13)
        refine CH.go 9 hτ (by kernel_rfl) ?_
        rcases Bool.eq_false_or_eq_true ((b.f5.f0 == (wr .i64 (b.f2 - 1)))) with hb14 | hb14
        · refine CH.alt 26 (sV (.bool ((b.f5.f0 == (wr .i64 (b.f2 - 1)))))) (sV (.bool true)) (by kernel_rfl) (by rw [hb14]) ?_
          refine CH.alt 27 (sV (.bool ((b.f5.f0 == (wr .i64 (b.f2 - 1)))))) (sV (.bool true)) (by kernel_rfl) (by rw [hb14]) ?_
          refine CH.alt 28 (sV (.bool ((b.f5.f0 == (wr .i64 (b.f2 - 1)))))) (sV (.bool true)) (by kernel_rfl) (by rw [hb14]) ?_
          replace hb14 := eq_of_beq (hb14)
          refine CH.go 5 hτ (by kernel_rfl) ?_
          obtain ⟨r15, hr17, hf16⟩ := i_HighOf b.f5 (by exact hb.2.2.1.2)
          replace hr17 := hr17.symm; subst hr17
          refine CH.call hf16 Try.func85 ⟨rfl, rfl⟩ [] (by kernel_rfl) (by kernel_rfl) (by kernel_rfl) (by kernel_rfl) ?_
          refine CH.go 3 hτ (by kernel_rfl) ?_
          refine CH.endk ⟨[(2, bV (decide ((b.f4.f0 : Int) ≥ (highOf b.f5))))], [], 656⟩ (by kernel_rfl) (by kernel_rfl) rfl ?_
          refine X.ret ?_
          exact ⟨trivial, _, _, ⟨decide ((b.f4.f0 : Int) ≥ (highOf b.f5)), (by rw [Bool.eq_iff_iff]; simp only [follows, Bool.and_eq_true, Bool.or_eq_true, inR_iff, decide_eq_true_eq, beq_iff_eq, Bool.false_eq_true, false_iff, true_iff, List.length_map]; first | (intro h; omega) | (intro h; simp_all; done) | (simp_all; done) | (simp_all; omega) | (constructor <;> intro h <;> (first | (simp_all; done) | (simp_all; omega) | omega))), rfl, rfl⟩, .inl (Ret.mk' [] (by kernel_rfl) (by kernel_rfl) (by kernel_rfl))⟩
        · refine CH.alt 26 (sV (.bool ((b.f5.f0 == (wr .i64 (b.f2 - 1)))))) (sV (.bool false)) (by kernel_rfl) (by rw [hb14]) ?_
          refine CH.alt 27 (sV (.bool ((b.f5.f0 == (wr .i64 (b.f2 - 1)))))) (sV (.bool false)) (by kernel_rfl) (by rw [hb14]) ?_
          refine CH.alt 28 (sV (.bool ((b.f5.f0 == (wr .i64 (b.f2 - 1)))))) (sV (.bool false)) (by kernel_rfl) (by rw [hb14]) ?_
          replace hb14 := beq_eq_false_iff_ne.1 (hb14)
          refine CH.go 9 hτ (by kernel_rfl) ?_
          refine CH.endk ⟨[(2, bV false)], [], 656⟩ (by kernel_rfl) (by kernel_rfl) rfl ?_
          refine X.ret ?_
          exact ⟨trivial, _, _, ⟨false, (by rw [Bool.eq_iff_iff]; simp only [follows, Bool.and_eq_true, Bool.or_eq_true, inR_iff, decide_eq_true_eq, beq_iff_eq, Bool.false_eq_true, false_iff, true_iff, List.length_map]; first | (intro h; omega) | (intro h; simp_all; done) | (simp_all; done) | (simp_all; omega) | (constructor <;> intro h <;> (first | (simp_all; done) | (simp_all; omega) | omega))), rfl, rfl⟩, .inl (Ret.mk' [] (by kernel_rfl) (by kernel_rfl) (by kernel_rfl))⟩
      · refine CH.alt 18 (sV (.bool (decide ((b.f5.f0 : Int) > 0)))) (sV (.bool false)) (by kernel_rfl) (by rw [hb13]) ?_
        refine CH.alt 19 (sV (.bool (decide ((b.f5.f0 : Int) > 0)))) (sV (.bool false)) (by kernel_rfl) (by rw [hb13]) ?_
        replace hb13 := of_decide_eq_false (hb13)
        refine CH.go 18 hτ (by kernel_rfl) ?_
        refine CH.endk ⟨[(2, bV false)], [], 656⟩ (by kernel_rfl) (by kernel_rfl) rfl ?_
        refine X.ret ?_
        exact ⟨trivial, _, _, ⟨false, (by rw [Bool.eq_iff_iff]; simp only [follows, Bool.and_eq_true, Bool.or_eq_true, inR_iff, decide_eq_true_eq, beq_iff_eq, Bool.false_eq_true, false_iff, true_iff, List.length_map]; first | (intro h; omega) | (intro h; simp_all; done) | (simp_all; done) | (simp_all; omega) | (constructor <;> intro h <;> (first | (simp_all; done) | (simp_all; omega) | omega))), rfl, rfl⟩, .inl (Ret.mk' [] (by kernel_rfl) (by kernel_rfl) (by kernel_rfl))⟩
  obtain ⟨_, _, ⟨r0, q1, rfl, rfl⟩, hf⟩ := key
  exact ⟨r0, q1, hf⟩

theorem s_DrawPutBlock (code : List Int) (hl : code.length ≤ 4611686018427387904) : ∃ r0 : S49, (Sm49 r0) ∧ Fn Try.prog 22 [lV (code.map dB)] (lookH []) (.e (.agg [.d (.v (.int .i64 r0.f0)), .d (.v (.int .i64 r0.f1)), .d (.v (.int .i64 r0.f2)), .d (.v (.string r0.f3)), .d (.v (.int .i64 r0.f4.f0)), .d (.v (.int .i64 r0.f4.f1)), .f (.sl (r0.f4.f2.map dS)), .d (.v (.int .i64 r0.f5.f0)), .f (.sl (r0.f5.f1.map dS)), .f (.sl (r0.f5.f2.map dI)), .f (.sl (r0.f6.map d26)), .d (.v (.bool r0.f7)), .f (.sl (r0.f8.map d107)), .d (.v (.string r0.f9))])) (lookH []) := by
  have key : ∃ x' h', ((fun x' h' => ∃ r0 : S49, (Sm49 r0) ∧ x' = .e (.agg [.d (.v (.int .i64 r0.f0)), .d (.v (.int .i64 r0.f1)), .d (.v (.int .i64 r0.f2)), .d (.v (.string r0.f3)), .d (.v (.int .i64 r0.f4.f0)), .d (.v (.int .i64 r0.f4.f1)), .f (.sl (r0.f4.f2.map dS)), .d (.v (.int .i64 r0.f5.f0)), .f (.sl (r0.f5.f1.map dS)), .f (.sl (r0.f5.f2.map dI)), .f (.sl (r0.f6.map d26)), .d (.v (.bool r0.f7)), .f (.sl (r0.f8.map d107)), .d (.v (.string r0.f9))]) ∧ h' = [])) x' h' ∧ Fn Try.prog 22 [lV (code.map dB)] (lookH []) x' (lookH h') := by
    refine Fn.bodyX (N := 8) hτ Try.func22 rfl rfl rfl rfl ?_
    refine X.seq ?_
    refine X.rk ⟨[(0, lV (code.map dB)), (2, .pt 64 0 0)], [(64, some (.box [.d (.v (.int .i64 0)), .d (.v (.int .i64 0)), .d (.v (.int .i64 0)), .d (.v (.string (⟨#[]⟩ : ByteArray))), .d (.v (.int .i64 0)), .d (.v (.int .i64 0)), .nil, .d (.v (.int .i64 0)), .nil, .nil, .nil, .d (.v (.bool false)), .nil, .d (.v (.string (⟨#[]⟩ : ByteArray)))]))], 80⟩ hτ hmix (by kernel_rfl) (by kernel_rfl) rfl ?_
    refine X.seq ?_
    refine X.rs 1 hτ hmix (by kernel_rfl) ?_
    obtain ⟨i1, h2, hq4, hf3⟩ := s_l1New code (by first | assumption | omega)
    refine CH.callK hf3 Try.func48 ⟨rfl, rfl⟩ (by kernel_rfl) (by kernel_rfl) (by kernel_rfl) (by kernel_rfl) ?_
    refine CH.go 1 hτ (by kernel_rfl) ?_
    refine CH.endk ⟨[(2, .pt 64 0 0), (3, .pt 96 0 0)], [(64, some (.box [.d (.v (.int .i64 0)), .d (.v (.int .i64 0)), .d (.v (.int .i64 0)), .d (.v (.string (⟨#[]⟩ : ByteArray))), .d (.v (.int .i64 0)), .d (.v (.int .i64 0)), .nil, .d (.v (.int .i64 0)), .nil, .nil, .nil, .d (.v (.bool false)), .nil, .d (.v (.string (⟨#[]⟩ : ByteArray)))])), (96, some (.box [.d (.sl (code.map dB)), .d (.v (.int .i64 i1)), .d (.v (.int .i64 h2))]))], 128⟩ (by kernel_rfl) (by kernel_rfl) rfl ?_
    refine X.seq ?_
    refine X.rs 1 hτ hmix (by kernel_rfl) ?_
    obtain ⟨r5, i8, h9, hr7, hi10, hf6⟩ := s_l9Any code i1 h2 (by first | assumption | omega) (by omega)
    obtain ⟨hx, hxd⟩ := hr7
    refine CH.call hf6 Try.func64 ⟨rfl, rfl⟩ [(96, 0)] (by kernel_rfl) (by kernel_rfl) (by kernel_rfl) (by kernel_rfl) ?_
    refine CH.go 1 hτ (by kernel_rfl) ?_
    refine CH.endk ⟨[(2, .pt 64 0 0)], [(64, some (.box [.d (.v (.int .i64 r5.f0)), .d (.v (.int .i64 r5.f1)), .d (.v (.int .i64 r5.f2)), .d (.v (.string r5.f3)), .d (.v (.int .i64 r5.f4.f0)), .d (.v (.int .i64 r5.f4.f1)), .f (.sl (r5.f4.f2.map dS)), .d (.v (.int .i64 r5.f5.f0)), .f (.sl (r5.f5.f1.map dS)), .f (.sl (r5.f5.f2.map dI)), .f (.sl (r5.f6.map d26)), .d (.v (.bool r5.f7)), .f (.sl (r5.f8.map d107)), .d (.v (.string r5.f9))]))], 176⟩ (by kernel_rfl) (by kernel_rfl) rfl ?_
    refine X.ret ?_
    exact ⟨trivial, _, _, ⟨r5, hx, rfl, rfl⟩, .inl (Ret.mk' [] (by kernel_rfl) (by kernel_rfl) (by kernel_rfl))⟩
  obtain ⟨_, _, ⟨r0, q1, rfl, rfl⟩, hf⟩ := key
  exact ⟨r0, q1, hf⟩

theorem l_FnBlocks (code : List Int) (hl : code.length ≤ 4611686018427387904) : ∃ r0 : Bool, (r0 = true) ∧ Fn Try.prog 5 [lV (code.map dB)] (lookH []) (bV r0) (lookH []) := by
  have key : ∃ x' h', ((fun x' h' => ∃ r0 : Bool, (r0 = true) ∧ x' = bV r0 ∧ h' = [])) x' h' ∧ Fn Try.prog 5 [lV (code.map dB)] (lookH []) x' (lookH h') := by
    refine Fn.bodyX (N := 51) hτ Try.func5 rfl rfl rfl rfl ?_
    refine X.seq ?_
    refine X.rk ⟨[(0, lV (code.map dB))], [], 80⟩ hτ hmix (by kernel_rfl) (by kernel_rfl) rfl ?_
    refine X.seq ?_
    refine X.seq ?_
    refine X.rs 1 hτ hmix (by kernel_rfl) ?_
    obtain ⟨r1, hr3, hf2⟩ := l_big code (by assumption)
    refine CH.call hf2 Try.func10 ⟨rfl, rfl⟩ [] (by kernel_rfl) (by kernel_rfl) (by kernel_rfl) (by kernel_rfl) ?_
    refine CH.endk ⟨[(0, lV (code.map dB)), (8, bV r1)], [], 112⟩ (by kernel_rfl) (by kernel_rfl) rfl ?_
    refine X.if_ (b := r1) (by kernel_rfl) (fun hb4 => ?_) (fun hb4 => ?_)
    · refine X.seq ?_
      refine X.rk ⟨[(2, bV true)], [], 128⟩ hτ hmix (by kernel_rfl) (by kernel_rfl) rfl ?_
      refine X.ret ?_
      exact ⟨trivial, _, _, ⟨true, (by first | exact rfl | exact (by rw [(‹blockOk _ = false›)]; rfl) | exact (by exfalso; have hq := putB_no ‹blockOk _ = false›; simp_all) | exact (tf hk1 ‹_›) | exact (tf ((congrArg (fun z => sameB z _) hk2).trans (sameB_self _)) ‹_›) | exact (tf ((congrArg blockOk hk2).trans hok) ‹_›) | exact (absurd (congrArg follows hk2) ‹_›) | exact (by simp only [List.length_map]; exact decide_eq_true (by omega))), rfl, rfl⟩, .inl (Ret.mk' [] (by kernel_rfl) (by kernel_rfl) (by kernel_rfl))⟩
    · refine X.skip ?_
      refine X.seq ?_
      refine X.rs 1 hτ hmix (by kernel_rfl) ?_
      obtain ⟨r5, hr7, hf6⟩ := s_DrawPutBlock code (by first | omega | (simp; done) | (simp; omega))
      have hbs := hr7
      refine CH.call hf6 Try.func22 ⟨rfl, rfl⟩ [] (by kernel_rfl) (by kernel_rfl) (by kernel_rfl) (by kernel_rfl) ?_
      refine CH.go 2 hτ (by kernel_rfl) ?_
      refine CH.endk ⟨[(3, .pt 144 0 0)], [(144, some (.box [.d (.v (.int .i64 r5.f0)), .d (.v (.int .i64 r5.f1)), .d (.v (.int .i64 r5.f2)), .d (.v (.string r5.f3)), .d (.v (.int .i64 r5.f4.f0)), .d (.v (.int .i64 r5.f4.f1)), .f (.sl (r5.f4.f2.map dS)), .d (.v (.int .i64 r5.f5.f0)), .f (.sl (r5.f5.f1.map dS)), .f (.sl (r5.f5.f2.map dI)), .f (.sl (r5.f6.map d26)), .d (.v (.bool r5.f7)), .f (.sl (r5.f8.map d107)), .d (.v (.string r5.f9))]))], 176⟩ (by kernel_rfl) (by kernel_rfl) rfl ?_
      refine X.seq ?_
      refine X.rs 1 hτ hmix (by kernel_rfl) ?_
      obtain ⟨r8, hr10, hf9⟩ := i_PutBlock r5 (by assumption)
      replace hr10 := hr10.symm; subst hr10
      refine CH.call hf9 Try.func23 ⟨rfl, rfl⟩ [] (by kernel_rfl) (by kernel_rfl) (by kernel_rfl) (by kernel_rfl) ?_
      refine CH.go 1 hτ (by kernel_rfl) ?_
      refine CH.endk ⟨[(3, .pt 144 0 0), (4, .e (.c (.f (.sl ((putB r5).map dB)))))], [(144, some (.box [.d (.v (.int .i64 r5.f0)), .d (.v (.int .i64 r5.f1)), .d (.v (.int .i64 r5.f2)), .d (.v (.string r5.f3)), .d (.v (.int .i64 r5.f4.f0)), .d (.v (.int .i64 r5.f4.f1)), .f (.sl (r5.f4.f2.map dS)), .d (.v (.int .i64 r5.f5.f0)), .f (.sl (r5.f5.f1.map dS)), .f (.sl (r5.f5.f2.map dI)), .f (.sl (r5.f6.map d26)), .d (.v (.bool r5.f7)), .f (.sl (r5.f8.map d107)), .d (.v (.string r5.f9))]))], 224⟩ (by kernel_rfl) (by kernel_rfl) rfl ?_
      refine X.seq ?_
      refine X.seq ?_
      refine X.rs 1 hτ hmix (by kernel_rfl) ?_
      obtain ⟨r12, hr14, hf13⟩ := s_BlockOk r5 (by assumption)
      replace hr14 := hr14.symm; subst hr14
      refine CH.call hf13 Try.func24 ⟨rfl, rfl⟩ [] (by kernel_rfl) (by kernel_rfl) (by kernel_rfl) (by kernel_rfl) ?_
      refine CH.go 1 hτ (by kernel_rfl) ?_
      refine CH.endk ⟨[(3, .pt 144 0 0), (4, .e (.c (.f (.sl ((putB r5).map dB))))), (15, bV (!(blockOk r5)))], [(144, some (.box [.d (.v (.int .i64 r5.f0)), .d (.v (.int .i64 r5.f1)), .d (.v (.int .i64 r5.f2)), .d (.v (.string r5.f3)), .d (.v (.int .i64 r5.f4.f0)), .d (.v (.int .i64 r5.f4.f1)), .f (.sl (r5.f4.f2.map dS)), .d (.v (.int .i64 r5.f5.f0)), .f (.sl (r5.f5.f1.map dS)), .f (.sl (r5.f5.f2.map dI)), .f (.sl (r5.f6.map d26)), .d (.v (.bool r5.f7)), .f (.sl (r5.f8.map d107)), .d (.v (.string r5.f9))]))], 272⟩ (by kernel_rfl) (by kernel_rfl) rfl ?_
      refine X.if_ (b := !(blockOk r5)) (by kernel_rfl) (fun hb16 => ?_) (fun hb16 => ?_)
      · replace hb16 := bnot_yes (hb16)
        refine X.seq ?_
        have el17 : ((putB r5).map dB).length = (putB r5).length := List.length_map ..
        refine X.rs 4 hτ hmix (by kernel_rfl) ?_
        rcases Bool.eq_false_or_eq_true (((((putB r5).map dB).length : Int) == 0)) with hb18 | hb18
        · refine CH.alt 18 (sV (.bool (((((putB r5).map dB).length : Int) == 0)))) (sV (.bool true)) (by kernel_rfl) (by rw [hb18]) ?_
          refine CH.alt 19 (sV (.bool (((((putB r5).map dB).length : Int) == 0)))) (sV (.bool true)) (by kernel_rfl) (by rw [hb18]) ?_
          replace hb18 := eq_of_beq (hb18)
          refine CH.go 1 hτ (by kernel_rfl) ?_
          obtain ⟨r19, hr21, hf20⟩ := i_BlockOk r5 (by assumption)
          replace hr21 := hr21.symm; subst hr21
          refine CH.call hf20 Try.func25 ⟨rfl, rfl⟩ [] (by kernel_rfl) (by kernel_rfl) (by kernel_rfl) (by kernel_rfl) ?_
          refine CH.go 3 hτ (by kernel_rfl) ?_
          refine CH.endk ⟨[(2, bV (!(blockOk r5)))], [], 416⟩ (by kernel_rfl) (by kernel_rfl) rfl ?_
          refine X.ret ?_
          exact ⟨trivial, _, _, ⟨!(blockOk r5), (by first | exact rfl | exact (by rw [(‹blockOk _ = false›)]; rfl) | exact (by exfalso; have hq := putB_no ‹blockOk _ = false›; simp_all) | exact (tf hk1 ‹_›) | exact (tf ((congrArg (fun z => sameB z _) hk2).trans (sameB_self _)) ‹_›) | exact (tf ((congrArg blockOk hk2).trans hok) ‹_›) | exact (absurd (congrArg follows hk2) ‹_›) | exact (by simp only [List.length_map]; exact decide_eq_true (by omega))), rfl, rfl⟩, .inl (Ret.mk' [] (by kernel_rfl) (by kernel_rfl) (by kernel_rfl))⟩
        · refine CH.alt 18 (sV (.bool (((((putB r5).map dB).length : Int) == 0)))) (sV (.bool false)) (by kernel_rfl) (by rw [hb18]) ?_
          refine CH.alt 19 (sV (.bool (((((putB r5).map dB).length : Int) == 0)))) (sV (.bool false)) (by kernel_rfl) (by rw [hb18]) ?_
          replace hb18 := beq_eq_false_iff_ne.1 (hb18)
          refine CH.go 5 hτ (by kernel_rfl) ?_
          refine CH.endk ⟨[(2, bV false)], [], 416⟩ (by kernel_rfl) (by kernel_rfl) rfl ?_
          refine X.ret ?_
          exact ⟨trivial, _, _, ⟨false, (by first | exact rfl | exact (by rw [(‹blockOk _ = false›)]; rfl) | exact (by exfalso; have hq := putB_no ‹blockOk _ = false›; simp_all) | exact (tf hk1 ‹_›) | exact (tf ((congrArg (fun z => sameB z _) hk2).trans (sameB_self _)) ‹_›) | exact (tf ((congrArg blockOk hk2).trans hok) ‹_›) | exact (absurd (congrArg follows hk2) ‹_›) | exact (by simp only [List.length_map]; exact decide_eq_true (by omega))), rfl, rfl⟩, .inl (Ret.mk' [] (by kernel_rfl) (by kernel_rfl) (by kernel_rfl))⟩
      · replace hb16 := bnot_no (hb16)
        refine X.skip ?_
        refine X.seq ?_
        have hok := (‹blockOk _ = true›)
        have hE := putB_ok hok
        have hEl := encB_small (bk_of hok)
        refine X.rs 1 hτ hmix (by kernel_rfl) ?_
        obtain ⟨r23, r24, hr26, hf25⟩ := i_GetBlock (putB r5) (by rw [hE]; omega) (by rw [hE]; exact u8_blk _)
        obtain ⟨hgbs, hgb⟩ := hr26
        refine CH.call hf25 Try.func26 ⟨rfl, rfl⟩ [] (by kernel_rfl) (by kernel_rfl) (by kernel_rfl) (by kernel_rfl) ?_
        refine CH.go 6 hτ (by kernel_rfl) ?_
        refine CH.endk ⟨[(3, .pt 144 0 0), (4, .e (.c (.f (.sl ((putB r5).map dB))))), (5, .pt 352 0 0), (6, bV r24)], [(144, some (.box [.d (.v (.int .i64 r5.f0)), .d (.v (.int .i64 r5.f1)), .d (.v (.int .i64 r5.f2)), .d (.v (.string r5.f3)), .d (.v (.int .i64 r5.f4.f0)), .d (.v (.int .i64 r5.f4.f1)), .f (.sl (r5.f4.f2.map dS)), .d (.v (.int .i64 r5.f5.f0)), .f (.sl (r5.f5.f1.map dS)), .f (.sl (r5.f5.f2.map dI)), .f (.sl (r5.f6.map d26)), .d (.v (.bool r5.f7)), .f (.sl (r5.f8.map d107)), .d (.v (.string r5.f9))])), (352, some (.box [.d (.v (.int .i64 r23.f0)), .d (.v (.int .i64 r23.f1)), .d (.v (.int .i64 r23.f2)), .d (.v (.string r23.f3)), .d (.v (.int .i64 r23.f4.f0)), .d (.v (.int .i64 r23.f4.f1)), .f (.sl (r23.f4.f2.map dS)), .d (.v (.int .i64 r23.f5.f0)), .f (.sl (r23.f5.f1.map dS)), .f (.sl (r23.f5.f2.map dI)), .f (.sl (r23.f6.map d26)), .d (.v (.bool r23.f7)), .f (.sl (r23.f8.map d107)), .d (.v (.string r23.f9))]))], 400⟩ (by kernel_rfl) (by kernel_rfl) rfl ?_
        refine X.seq ?_
        obtain ⟨hk1, hk2⟩ := hgb.2 _ hok hE.symm
        have hEl2 := congrArg List.length hE
        refine X.rs 2 hτ hmix (by kernel_rfl) ?_
        rcases Bool.eq_false_or_eq_true (r24) with hb27 | hb27
        · refine CH.alt 6 (sV (.bool (r24))) (sV (.bool true)) (by kernel_rfl) (by rw [hb27]) ?_
          refine CH.alt 29 (sV (.bool (r24))) (sV (.bool true)) (by kernel_rfl) (by rw [hb27]) ?_
          refine CH.alt 30 (sV (.bool (r24))) (sV (.bool true)) (by kernel_rfl) (by rw [hb27]) ?_
          refine CH.go 2 hτ (by kernel_rfl) ?_
          obtain ⟨r28, hr30, hf29⟩ := i_SameBlock r23 r5 (by assumption) (by assumption)
          replace hr30 := hr30.symm; subst hr30
          refine CH.call hf29 Try.func27 ⟨rfl, rfl⟩ [] (by kernel_rfl) (by kernel_rfl) (by kernel_rfl) (by kernel_rfl) ?_
          refine CH.go 2 hτ (by kernel_rfl) ?_
          rcases Bool.eq_false_or_eq_true ((sameB r23 r5)) with hb32 | hb32
          · refine CH.alt 33 (sV (.bool ((sameB r23 r5)))) (sV (.bool true)) (by kernel_rfl) (by rw [hb32]) ?_
            refine CH.alt 34 (sV (.bool ((sameB r23 r5)))) (sV (.bool true)) (by kernel_rfl) (by rw [hb32]) ?_
            refine CH.alt 35 (sV (.bool ((sameB r23 r5)))) (sV (.bool true)) (by kernel_rfl) (by rw [hb32]) ?_
            refine CH.go 1 hτ (by kernel_rfl) ?_
            obtain ⟨r33, hr35, hf34⟩ := i_BlockOk r23 (by assumption)
            replace hr35 := hr35.symm; subst hr35
            refine CH.call hf34 Try.func25 ⟨rfl, rfl⟩ [] (by kernel_rfl) (by kernel_rfl) (by kernel_rfl) (by kernel_rfl) ?_
            refine CH.go 2 hτ (by kernel_rfl) ?_
            rcases Bool.eq_false_or_eq_true ((blockOk r23)) with hb37 | hb37
            · refine CH.alt 37 (sV (.bool ((blockOk r23)))) (sV (.bool true)) (by kernel_rfl) (by rw [hb37]) ?_
              refine CH.alt 38 (sV (.bool ((blockOk r23)))) (sV (.bool true)) (by kernel_rfl) (by rw [hb37]) ?_
              refine CH.alt 39 (sV (.bool ((blockOk r23)))) (sV (.bool true)) (by kernel_rfl) (by rw [hb37]) ?_
              refine CH.go 1 hτ (by kernel_rfl) ?_
              obtain ⟨r38, hr40, hf39⟩ := i_Follows r23 (by assumption)
              replace hr40 := hr40.symm; subst hr40
              refine CH.call hf39 Try.func28 ⟨rfl, rfl⟩ [] (by kernel_rfl) (by kernel_rfl) (by kernel_rfl) (by kernel_rfl) ?_
              refine CH.go 1 hτ (by kernel_rfl) ?_
              obtain ⟨r42, hr44, hf43⟩ := i_Follows r5 (by assumption)
              replace hr44 := hr44.symm; subst hr44
              refine CH.call hf43 Try.func28 ⟨rfl, rfl⟩ [] (by kernel_rfl) (by kernel_rfl) (by kernel_rfl) (by kernel_rfl) ?_
              refine CH.eqB (t := 4) (ng := false) (a := (follows r23)) (b := (follows r5)) (by kernel_rfl) (by kernel_rfl) Try.underlying4 ?_
              refine CH.go 2 hτ (by kernel_rfl) ?_
              rcases Bool.eq_false_or_eq_true (((follows r23) == (follows r5))) with hb46 | hb46
              · refine CH.alt 44 (sV (.bool (((follows r23) == (follows r5))))) (sV (.bool true)) (by kernel_rfl) (by rw [hb46]) ?_
                refine CH.alt 45 (sV (.bool (((follows r23) == (follows r5))))) (sV (.bool true)) (by kernel_rfl) (by rw [hb46]) ?_
                refine CH.alt 46 (sV (.bool (((follows r23) == (follows r5))))) (sV (.bool true)) (by kernel_rfl) (by rw [hb46]) ?_
                replace hb46 := eq_of_beq (hb46)
                refine CH.go 5 hτ (by kernel_rfl) ?_
                have el47 : ((putB r5).map dB).length = (putB r5).length := List.length_map ..
                refine CH.endk ⟨[(2, bV (decide (((((putB r5).map dB).length : Int) : Int) > 0)))], [], 768⟩ (by kernel_rfl) (by kernel_rfl) rfl ?_
                refine X.ret ?_
                exact ⟨trivial, _, _, ⟨decide (((((putB r5).map dB).length : Int) : Int) > 0), (by first | exact rfl | exact (by rw [(‹blockOk _ = false›)]; rfl) | exact (by exfalso; have hq := putB_no ‹blockOk _ = false›; simp_all) | exact (tf hk1 ‹_›) | exact (tf ((congrArg (fun z => sameB z _) hk2).trans (sameB_self _)) ‹_›) | exact (tf ((congrArg blockOk hk2).trans hok) ‹_›) | exact (absurd (congrArg follows hk2) ‹_›) | exact (by simp only [List.length_map]; exact decide_eq_true (by omega))), rfl, rfl⟩, .inl (Ret.mk' [] (by kernel_rfl) (by kernel_rfl) (by kernel_rfl))⟩
              · refine CH.alt 44 (sV (.bool (((follows r23) == (follows r5))))) (sV (.bool false)) (by kernel_rfl) (by rw [hb46]) ?_
                refine CH.alt 45 (sV (.bool (((follows r23) == (follows r5))))) (sV (.bool false)) (by kernel_rfl) (by rw [hb46]) ?_
                refine CH.alt 46 (sV (.bool (((follows r23) == (follows r5))))) (sV (.bool false)) (by kernel_rfl) (by rw [hb46]) ?_
                replace hb46 := beq_eq_false_iff_ne.1 (hb46)
                refine CH.go 5 hτ (by kernel_rfl) ?_
                refine CH.endk ⟨[(2, bV false)], [], 768⟩ (by kernel_rfl) (by kernel_rfl) rfl ?_
                refine X.ret ?_
                exact ⟨trivial, _, _, ⟨false, (by first | exact rfl | exact (by rw [(‹blockOk _ = false›)]; rfl) | exact (by exfalso; have hq := putB_no ‹blockOk _ = false›; simp_all) | exact (tf hk1 ‹_›) | exact (tf ((congrArg (fun z => sameB z _) hk2).trans (sameB_self _)) ‹_›) | exact (tf ((congrArg blockOk hk2).trans hok) ‹_›) | exact (absurd (congrArg follows hk2) ‹_›) | exact (by simp only [List.length_map]; exact decide_eq_true (by omega))), rfl, rfl⟩, .inl (Ret.mk' [] (by kernel_rfl) (by kernel_rfl) (by kernel_rfl))⟩
            · refine CH.alt 37 (sV (.bool ((blockOk r23)))) (sV (.bool false)) (by kernel_rfl) (by rw [hb37]) ?_
              refine CH.alt 38 (sV (.bool ((blockOk r23)))) (sV (.bool false)) (by kernel_rfl) (by rw [hb37]) ?_
              refine CH.alt 39 (sV (.bool ((blockOk r23)))) (sV (.bool false)) (by kernel_rfl) (by rw [hb37]) ?_
              refine CH.go 12 hτ (by kernel_rfl) ?_
              refine CH.endk ⟨[(2, bV false)], [], 768⟩ (by kernel_rfl) (by kernel_rfl) rfl ?_
              refine X.ret ?_
              exact ⟨trivial, _, _, ⟨false, (by first | exact rfl | exact (by rw [(‹blockOk _ = false›)]; rfl) | exact (by exfalso; have hq := putB_no ‹blockOk _ = false›; simp_all) | exact (tf hk1 ‹_›) | exact (tf ((congrArg (fun z => sameB z _) hk2).trans (sameB_self _)) ‹_›) | exact (tf ((congrArg blockOk hk2).trans hok) ‹_›) | exact (absurd (congrArg follows hk2) ‹_›) | exact (by simp only [List.length_map]; exact decide_eq_true (by omega))), rfl, rfl⟩, .inl (Ret.mk' [] (by kernel_rfl) (by kernel_rfl) (by kernel_rfl))⟩
          · refine CH.alt 33 (sV (.bool ((sameB r23 r5)))) (sV (.bool false)) (by kernel_rfl) (by rw [hb32]) ?_
            refine CH.alt 34 (sV (.bool ((sameB r23 r5)))) (sV (.bool false)) (by kernel_rfl) (by rw [hb32]) ?_
            refine CH.alt 35 (sV (.bool ((sameB r23 r5)))) (sV (.bool false)) (by kernel_rfl) (by rw [hb32]) ?_
            refine CH.go 16 hτ (by kernel_rfl) ?_
            refine CH.endk ⟨[(2, bV false)], [], 768⟩ (by kernel_rfl) (by kernel_rfl) rfl ?_
            refine X.ret ?_
            exact ⟨trivial, _, _, ⟨false, (by first | exact rfl | exact (by rw [(‹blockOk _ = false›)]; rfl) | exact (by exfalso; have hq := putB_no ‹blockOk _ = false›; simp_all) | exact (tf hk1 ‹_›) | exact (tf ((congrArg (fun z => sameB z _) hk2).trans (sameB_self _)) ‹_›) | exact (tf ((congrArg blockOk hk2).trans hok) ‹_›) | exact (absurd (congrArg follows hk2) ‹_›) | exact (by simp only [List.length_map]; exact decide_eq_true (by omega))), rfl, rfl⟩, .inl (Ret.mk' [] (by kernel_rfl) (by kernel_rfl) (by kernel_rfl))⟩
        · refine CH.alt 6 (sV (.bool (r24))) (sV (.bool false)) (by kernel_rfl) (by rw [hb27]) ?_
          refine CH.alt 29 (sV (.bool (r24))) (sV (.bool false)) (by kernel_rfl) (by rw [hb27]) ?_
          refine CH.alt 30 (sV (.bool (r24))) (sV (.bool false)) (by kernel_rfl) (by rw [hb27]) ?_
          refine CH.go 21 hτ (by kernel_rfl) ?_
          refine CH.endk ⟨[(2, bV false)], [], 768⟩ (by kernel_rfl) (by kernel_rfl) rfl ?_
          refine X.ret ?_
          exact ⟨trivial, _, _, ⟨false, (by first | exact rfl | exact (by rw [(‹blockOk _ = false›)]; rfl) | exact (by exfalso; have hq := putB_no ‹blockOk _ = false›; simp_all) | exact (tf hk1 ‹_›) | exact (tf ((congrArg (fun z => sameB z _) hk2).trans (sameB_self _)) ‹_›) | exact (tf ((congrArg blockOk hk2).trans hok) ‹_›) | exact (absurd (congrArg follows hk2) ‹_›) | exact (by simp only [List.length_map]; exact decide_eq_true (by omega))), rfl, rfl⟩, .inl (Ret.mk' [] (by kernel_rfl) (by kernel_rfl) (by kernel_rfl))⟩
  obtain ⟨_, _, ⟨r0, q1, rfl, rfl⟩, hf⟩ := key
  exact ⟨r0, q1, hf⟩
end Go.Proofs.Ytnieghbgcjbnhaa.Av
