/-
What functions of the program come to, walked one by one.
Conditions: none beside those that each theorem names.
-/
import Derived.Test.YtnldeeefiidcaaaAvN
import Derived.Test.YtnldeeefiidcaaaAv25
import Derived.Test.YtnldeeefiidcaaaAvI78
set_option linter.unusedVariables false
set_option linter.unusedSimpArgs false
namespace Go.Proofs.Ytnldeeefiidcaaa.Av
open Go.RowKit
set_option maxRecDepth 20000
set_option maxHeartbeats 4000000

noncomputable def allEq {α : Type} (l m : List α) : Bool := @decide (l = m) (Classical.propDecidable _)
theorem allEq_iff {α : Type} {l m : List α} : allEq l m = true ↔ l = m := by simp [allEq]
theorem allEq_self {α : Type} (l : List α) : allEq l l = true := allEq_iff.2 rfl
section
variable {α : Type} {l m : List α} {i : Int} {x y : α}
theorem eq_stp {k : Nat} (hy : m[k]? = some y) (e : x = y) : m[k]? = some x := e ▸ hy
theorem eq_no {k : Nat} (hx : l[k]? = some x) (hy : m[k]? = some y) (h : x ≠ y) : l ≠ m := fun e => by subst e; rw [hx] at hy; cases hy; exact h rfl
theorem eq_all (hA : Upto (fun j x => m[j.toNat]? = some x) (fun n => l[n]?) i) (hi : (l.length : Int) ≤ i) (hl : l.length = m.length) : l = m := by
  apply List.ext_getElem?
  intro k
  rcases Nat.lt_or_ge k l.length with h | h
  · have hx := List.getElem?_eq_getElem h
    have this : m[(k : Int).toNat]? = some l[k] := hA (k : Int) (l[k]) (by omega) (by omega) (by rw [Int.toNat_natCast]; exact hx)
    rw [hx]
    rw [Int.toNat_natCast] at this
    exact this.symm
  · rw [List.getElem?_eq_none h, List.getElem?_eq_none (by omega)]
end
noncomputable def sameQ (q r : S31) : Bool := q.f0 == r.f0 && (q.f1 == r.f1 && allEq q.f2 r.f2)
noncomputable def sameT (q r : S55) : Bool := q.f0 == r.f0 && (allEq q.f1 r.f1 && allEq q.f2 r.f2)
noncomputable def sameB (a b : S59) : Bool := a.f0 == b.f0 && (a.f1 == b.f1 && (a.f2 == b.f2 && (a.f3.toList == b.f3.toList && (a.f7 == b.f7 && (a.f9.toList == b.f9.toList && (sameQ a.f4 b.f4 && (sameT a.f5 b.f5 && (allEq a.f6 b.f6 && allEq a.f8 b.f8))))))))
theorem sameB_self (b : S59) : sameB b b = true := by simp [sameB, sameQ, sameT, allEq_self]
noncomputable def addR (l : List S59) (b : S59) : List S59 := if addOk l b = true then addTo l b else l
theorem addR_no {l : List S59} {b : S59} (h : addOk l b = false) : addR l b = l := by unfold addR; rw [h]; rfl
theorem addR_yes {l : List S59} {b : S59} (h : addOk l b = true) : addR l b = addTo l b := by unfold addR; rw [h]; rfl
theorem addR_len (l : List S59) (b : S59) : (addR l b).length ≤ l.length + 1 := by
  unfold addR addTo
  split
  · rw [ins_len atOf_le]; omega
  · omega
theorem addR_sm {l : List S59} {b : S59} (hl : SmL l) (hb : Sm59 b) (hs : l.length < 2000000) : SmL (addR l b) := by
  refine ⟨by have := addR_len l b; omega, fun x hx => ?_⟩
  unfold addR addTo at hx
  split at hx
  · rcases ins_mem hx with h | h
    · exact hl.2 x h
    · rw [h]; exact hb
  · exact hl.2 x hx
theorem addTo_sm {l : List S59} {b : S59} (hl : SmL l) (hb : Sm59 b) (hs : l.length < 2000000) : SmL (addTo l b) := by
  refine ⟨by unfold addTo; rw [ins_len atOf_le]; omega, fun x hx => ?_⟩
  rcases ins_mem hx with h | h
  · exact hl.2 x h
  · rw [h]; exact hb
theorem add_no {l : List S59} {b : S59} (h : idAt l b.f0 ≥ 0) : l = addR l b ∧ false = addOk l b := by
  have := addOk_id h
  exact ⟨(addR_no this.symm).symm, this⟩
theorem at_is {l : List S59} {b : S59} {i : Int} (h0 : 0 ≤ i) (hi : i ≤ (l.length : Int)) (hA : Upto (fun _ x => x.f0 < b.f0) (fun n => l[n]?) i) (hst : ¬ i < (l.length : Int) ∨ ∃ x, l[i.toNat]? = some x ∧ ¬ x.f0 < b.f0) : insAt l [b] i.toNat = addTo l b := by
  unfold addTo
  rw [atOf_is (k := i.toNat) (by omega) (fun j x hj hx => hA j x (by omega) (by omega) (by simpa using hx)) (fun x hx => by
    rcases hst with q | ⟨y, hy, hn⟩
    · have := (List.getElem?_eq_some_iff.1 hx).1; omega
    · rw [hx] at hy; cases hy; exact hn)]
theorem add_bad {l : List S59} {b : S59} {i : Int} (e : insAt l [b] i.toNat = addTo l b) (h : treeOk (insAt l [b] i.toNat) = false) : l = addR l b ∧ false = addOk l b := by
  rw [e] at h
  have : addOk l b = false := by unfold addOk; rw [h]; simp
  exact ⟨(addR_no this).symm, this.symm⟩
theorem add_good {l : List S59} {b : S59} {i : Int} (e : insAt l [b] i.toNat = addTo l b) (hid : ¬ idAt l b.f0 ≥ 0) (h : treeOk (insAt l [b] i.toNat) = true) : insAt l [b] i.toNat = addR l b ∧ true = addOk l b := by
  rw [e] at h ⊢
  have : addOk l b = true := by unfold addOk; rw [h, decide_eq_true (by omega)]; rfl
  exact ⟨(addR_yes this).symm, this.symm⟩
/-! what is so where it was put in -/
section
variable {l : List S59} {b : S59}
theorem addOk_tree (h : addOk l b = true) : treeOk (addR l b) = true := by
  rw [addR_yes h]
  simp only [addOk, Bool.and_eq_true] at h
  exact h.2
theorem tree_inj {l : List S59} (h : treeP l) {i j : Nat} {x y : S59} (hx : l[i]? = some x) (hy : l[j]? = some y) (e : x.f0 = y.f0) : i = j := by
  rcases Nat.lt_trichotomy i j with q | q | q
  · have := asc_lt h (j - i - 1) i x y hx (by rw [show i + 1 + (j - i - 1) = j by omega]; exact hy); omega
  · exact q
  · have := asc_lt h (i - j - 1) j y x hy (by rw [show j + 1 + (i - j - 1) = i by omega]; exact hx); omega
theorem find_tree {l : List S59} (h : treeP l) {x : S59} (hx : x ∈ l) : findB l x.f0 = some x := by
  obtain ⟨i, hi⟩ := List.mem_iff_getElem?.1 hx
  cases hf : findB l x.f0 with
  | none =>
    unfold findB at hf
    rw [List.find?_eq_none] at hf
    have := hf x hx
    simp at this
  | some y =>
    obtain ⟨k, _, e2, e3⟩ := findB_idAt hf
    have := tree_inj h hi e2 e3.symm
    subst this
    rw [hi] at e2
    exact e2.symm
theorem add_find (h : addOk l b = true) : findB (addR l b) b.f0 = some b := by
  have ht := treeOk_iff.1 (addOk_tree h)
  refine find_tree ht ?_
  rw [addR_yes h]
  exact List.mem_of_getElem? (ins_k atOf_le)
theorem add_mem (h : addOk l b = true) {x : S59} (hx : x ∈ l) : x ∈ addR l b := by
  rw [addR_yes h]
  unfold addTo insAt
  rw [← List.take_append_drop (atOf l b) l] at hx
  simp only [List.mem_append, List.mem_singleton] at hx ⊢
  rcases hx with h | h
  · exact .inl (.inl h)
  · exact .inr h
theorem ch_step (ht : treeP l) {x : S59} (hx : x ∈ l) : chain l x.f0 = x.f0 :: chain l x.f4.f1 := by
  obtain ⟨i, hi⟩ := List.mem_iff_getElem?.1 hx
  have hs := self_at ht (i := i) (by omega) (by simpa using hi)
  have hd := dec_at ht (i := i) (by omega) (by simpa using hi)
  unfold chain
  rw [hs, show ((i : Int) + 1).toNat = i + 1 by omega, chI_at (by omega) (by simpa using hi)]
  congr 1
  exact chI_more ht _ _ _ (by omega) (by omega)
theorem ch_m1 (ht : treeP l) : chain l (-1) = [] := by rw [chain, idAt_m1 ht]; rfl
theorem par_mem (ht : treeP l) {x : S59} (hx : x ∈ l) (hr : rootQ x.f4 = false) : ∃ p, p ∈ l ∧ p.f0 = x.f4.f1 ∧ p.f0 < x.f0 := by
  obtain ⟨i, hi⟩ := List.mem_iff_getElem?.1 hx
  obtain ⟨k, p, h1, _, h2, h3, _⟩ := tree_find ht hi hr
  exact ⟨p, List.mem_of_getElem? h2, h3, asc_lt ht (i - k - 1) k p x h2 (by rw [show k + 1 + (i - k - 1) = i by omega]; exact hi)⟩
theorem ch_same (hl : treeOk l = true) (h : addOk l b = true) : ∀ (n : Nat) (x : S59), x ∈ l → x.f0 < n → chain (addR l b) x.f0 = chain l x.f0
  | 0, x, hx, hn => by
    have hL := treeOk_iff.1 hl
    obtain ⟨i, hi⟩ := List.mem_iff_getElem?.1 hx
    have := blk_rng (tree_at hL hi).1
    omega
  | n + 1, x, hx, hn => by
    have hL := treeOk_iff.1 hl
    have hX := treeOk_iff.1 (addOk_tree h)
    rw [ch_step hL hx, ch_step hX (add_mem h hx)]
    congr 1
    cases hr : rootQ x.f4 with
    | true => rw [root_m1 hr, ch_m1 hL, ch_m1 hX]
    | false =>
      obtain ⟨p, h1, h2, h3⟩ := par_mem hL hx hr
      rw [← h2]
      exact ch_same hl h n p h1 (by omega)
theorem add_same (hl : treeOk l = true) (h : addOk l b = true) {i : Nat} {x : S59} (hx : l[i]? = some x) : chainOf (addR l b) x.f0 = chainOf l x.f0 := by
  rw [chOf_eq hl, chOf_eq (addOk_tree h), ch_same hl h (x.f0 + 1).toNat x (List.mem_of_getElem? hx) (by omega)]
theorem add_len (hl : treeOk l = true) (h : addOk l b = true) : (chainOf (addR l b) b.f0).length = (chainOf l b.f4.f1).length + 1 := by
  have hL := treeOk_iff.1 hl
  have hX := treeOk_iff.1 (addOk_tree h)
  have hb : b ∈ addR l b := (idAt_mem (add_find h)).1
  rw [chOf_eq hl, chOf_eq (addOk_tree h), List.length_reverse, List.length_reverse, ch_step hX hb, List.length_cons]
  congr 2
  cases hr : rootQ b.f4 with
  | true => rw [root_m1 hr, ch_m1 hL, ch_m1 hX]
  | false =>
    obtain ⟨p, h1, h2, h3⟩ := par_mem hX hb hr
    have hp : p ∈ l := by
      rw [addR_yes h] at h1
      rcases ins_mem h1 with q | q
      · exact q
      · subst q; omega
    rw [← h2]
    exact ch_same hl h (p.f0 + 1).toNat p hp (by omega)
end
theorem eq_noS {l m : List ByteArray} {k : Nat} {x y : ByteArray} (hx : l[k]? = some x) (hy : m[k]? = some y) (h : x.toList ≠ y.toList) : l ≠ m := eq_no hx hy fun e => h (by rw [e])
theorem i_eqStr (l : List ByteArray) (m : List ByteArray) (hl : l.length ≤ 2000000) (hm : m.length ≤ 2000000) : ∃ r0 : Bool, (r0 = allEq l m) ∧ Fn Try.prog 156 [lV (l.map dS), lV (m.map dS)] (lookH []) (bV r0) (lookH []) := by
  have key : ∃ x' h', ((fun x' h' => ∃ r0 : Bool, (r0 = allEq l m) ∧ x' = bV r0 ∧ h' = [])) x' h' ∧ Fn Try.prog 156 [lV (l.map dS), lV (m.map dS)] (lookH []) x' (lookH h') := by
    refine Fn.bodyX (N := 26) hτ Try.func156 rfl rfl rfl rfl ?_
    refine X.seq ?_
    refine X.rk ⟨[(0, lV (l.map dS)), (1, lV (m.map dS))], [], 80⟩ hτ hmix (by kernel_rfl) (by kernel_rfl) rfl ?_
    refine X.seq ?_
    refine X.seq ?_
    have el1 : (l.map dS).length = l.length := List.length_map ..
    have el2 : (m.map dS).length = m.length := List.length_map ..
    refine X.rk ⟨[(0, lV (l.map dS)), (1, lV (m.map dS)), (10, bV (((l.map dS).length : Int) != ((m.map dS).length : Int)))], [], 160⟩ hτ hmix (by kernel_rfl) (by kernel_rfl) rfl ?_
    refine X.if_ (b := (((l.map dS).length : Int) != ((m.map dS).length : Int))) (by kernel_rfl) (fun hb3 => ?_) (fun hb3 => ?_)
    · replace hb3 := bne_iff_ne.1 (hb3)
      refine X.seq ?_
      refine X.rk ⟨[(4, bV false)], [], 176⟩ hτ hmix (by kernel_rfl) (by kernel_rfl) rfl ?_
      refine X.ret ?_
      exact ⟨trivial, _, _, ⟨false, (by first | exact fls (fun h => by have := congrArg List.length h; omega) | exact fls (eq_noS ‹_› ‹_› ‹_›) | exact tru (eq_all hA (by omega) (by omega))), rfl, rfl⟩, .inl (Ret.mk' [] (by kernel_rfl) (by kernel_rfl) (by kernel_rfl))⟩
    · replace hb3 := bne_eq_false_iff_eq.1 (hb3)
      refine X.skip ?_
      refine X.seq ?_
      refine X.seq ?_
      refine X.rk ⟨[(0, lV (l.map dS)), (1, lV (m.map dS)), (12, iV ((l.map dS).length : Int)), (13, iV 0)], [], 208⟩ hτ hmix (by kernel_rfl) (by kernel_rfl) rfl ?_
      refine X.block ?_
      -- 4: v13 : Int
      refine X.loop (σ := { g : Int // (fun (v13 : Int) => 0 ≤ v13 ∧ v13 ≤ l.length ∧ Upto (fun j x => m[j.toNat]? = some x) (fun n => l[n]?) v13) g }) (fun g => (fun (v13 : Int) => ⟨[(0, lV (l.map dS)), (1, lV (m.map dS)), (12, iV ((l.map dS).length : Int)), (13, iV v13)], [], 208⟩) g.1) (fun g => (fun (v13 : Int) => (l.length - v13).toNat) g.1) ⟨0, ⟨by first | omega | (dsimp only; omega), by first | omega | (dsimp only; omega), upto_zero⟩⟩ (Wk.less (by kernel_rfl)) (fun g => ?_)
      obtain ⟨v13, hg5⟩ := g
      have hg5 : 0 ≤ v13 ∧ v13 ≤ l.length ∧ Upto (fun j x => m[j.toNat]? = some x) (fun n => l[n]?) v13 := hg5
      obtain ⟨_, _, hA⟩ := hg5
      refine X.seq ?_
      refine X.rk ⟨[(0, lV (l.map dS)), (1, lV (m.map dS)), (12, iV ((l.map dS).length : Int)), (13, iV v13), (14, bV (decide ((v13 : Int) < ((l.map dS).length : Int))))], [], 224⟩ hτ hmix (by kernel_rfl) (by kernel_rfl) rfl ?_
      refine X.seq ?_
      refine X.if_ (b := decide ((v13 : Int) < ((l.map dS).length : Int))) (by kernel_rfl) (fun hb6 => ?_) (fun hb6 => ?_)
      · replace hb6 := of_decide_eq_true (hb6)
        refine X.skip ?_
        refine X.seq ?_
        refine X.block ?_
        refine X.seq ?_
        refine X.rk ⟨[(0, lV (l.map dS)), (1, lV (m.map dS)), (5, iV v13), (12, iV ((l.map dS).length : Int)), (13, iV v13)], [], 256⟩ hτ hmix (by kernel_rfl) (by kernel_rfl) rfl ?_
        refine X.seq ?_
        refine X.rs 2 hτ hmix (by kernel_rfl) ?_
        obtain ⟨x7, hx7⟩ : ∃ x, l[Int.toNat v13]? = some x := ⟨_, List.getElem?_eq_getElem (by first | omega | (simp; done) | (simp; omega))⟩
        refine CH.idx hτ (dS x7) (rows := (l.map dS)) (n := v13) (sz := 1) (by kernel_rfl) (by kernel_rfl) (by first | omega | (simp; done) | (simp; omega)) (by rw [List.getElem?_map, hx7]; rfl) (by kernel_rfl) ?_
        refine CH.go 3 hτ (by kernel_rfl) ?_
        obtain ⟨x8, hx8⟩ : ∃ x, m[Int.toNat v13]? = some x := ⟨_, List.getElem?_eq_getElem (by first | omega | (simp; done) | (simp; omega))⟩
        refine CH.idx hτ (dS x8) (rows := (m.map dS)) (n := v13) (sz := 1) (by kernel_rfl) (by kernel_rfl) (by first | omega | (simp; done) | (simp; omega)) (by rw [List.getElem?_map, hx8]; rfl) (by kernel_rfl) ?_
        refine CH.go 2 hτ (by kernel_rfl) ?_
        refine CH.endk ⟨[(0, lV (l.map dS)), (1, lV (m.map dS)), (12, iV ((l.map dS).length : Int)), (13, iV v13), (24, bV (!(x7.toList == x8.toList)))], [], 400⟩ (by kernel_rfl) (by kernel_rfl) rfl ?_
        refine X.if_ (b := !(x7.toList == x8.toList)) (by kernel_rfl) (fun hb9 => ?_) (fun hb9 => ?_)
        · replace hb9 := beq_no (bnot_yes (hb9))
          refine X.seq ?_
          refine X.rk ⟨[(4, bV false)], [], 416⟩ hτ hmix (by kernel_rfl) (by kernel_rfl) rfl ?_
          refine X.ret ?_
          exact ⟨trivial, _, _, ⟨false, (by first | exact fls (fun h => by have := congrArg List.length h; omega) | exact fls (eq_noS ‹_› ‹_› ‹_›) | exact tru (eq_all hA (by omega) (by omega))), rfl, rfl⟩, .inl (Ret.mk' [] (by kernel_rfl) (by kernel_rfl) (by kernel_rfl))⟩
        · replace hb9 := beq_yes (bnot_no (hb9))
          refine X.skip ?_
          refine X.rk ⟨[(0, lV (l.map dS)), (1, lV (m.map dS)), (12, iV ((l.map dS).length : Int)), (13, iV (wrap64 (v13 + 1)))], [], 432⟩ hτ hmix (by kernel_rfl) (by kernel_rfl) (s2 := ⟨[(0, lV (l.map dS)), (1, lV (m.map dS)), (12, iV ((l.map dS).length : Int)), (13, iV (v13 + 1))], [], 432⟩) (congrArg (fun z : Int => (⟨[(0, lV (l.map dS)), (1, lV (m.map dS)), (12, iV ((l.map dS).length : Int)), (13, iV z)], [], 432⟩ : St)) (show wrap64 (v13 + 1) = (v13 + 1) by rw [w64 (n := (v13 + 1)) (by omega) (by omega)])) ?_
          refine ⟨⟨(v13 + 1), ⟨by first | omega | (dsimp only; omega), by first | omega | (dsimp only; omega), upto_nx (by first | omega | (dsimp only; omega)) hA ‹_› (eq_stp ‹_› (tl_inj.1 ‹_›))⟩⟩, by first | exact rfl | omega | (dsimp only; omega) | (simp only [List.length_append, List.length_cons, List.length_nil, List.length_set]; omega) | (simp; done) | (simp; omega), Wk.mk' [] (by kernel_rfl) (by kernel_rfl) (by kernel_rfl)⟩
      · replace hb6 := of_decide_eq_false (hb6)
        refine X.exit ?_
        refine X.seq ?_
        refine X.rk ⟨[(4, bV true)], [], 240⟩ hτ hmix (by kernel_rfl) (by kernel_rfl) rfl ?_
        refine X.ret ?_
        exact ⟨trivial, _, _, ⟨true, (by first | exact fls (fun h => by have := congrArg List.length h; omega) | exact fls (eq_noS ‹_› ‹_› ‹_›) | exact tru (eq_all hA (by omega) (by omega))), rfl, rfl⟩, .inl (Ret.mk' [] (by kernel_rfl) (by kernel_rfl) (by kernel_rfl))⟩
  obtain ⟨_, _, ⟨r0, q1, rfl, rfl⟩, hf⟩ := key
  exact ⟨r0, q1, hf⟩

theorem i_eqInt (l : List Int) (m : List Int) (hl : l.length ≤ 2000000) (hm : m.length ≤ 2000000) : ∃ r0 : Bool, (r0 = allEq l m) ∧ Fn Try.prog 157 [lV (l.map dI), lV (m.map dI)] (lookH []) (bV r0) (lookH []) := by
  have key : ∃ x' h', ((fun x' h' => ∃ r0 : Bool, (r0 = allEq l m) ∧ x' = bV r0 ∧ h' = [])) x' h' ∧ Fn Try.prog 157 [lV (l.map dI), lV (m.map dI)] (lookH []) x' (lookH h') := by
    refine Fn.bodyX (N := 26) hτ Try.func157 rfl rfl rfl rfl ?_
    refine X.seq ?_
    refine X.rk ⟨[(0, lV (l.map dI)), (1, lV (m.map dI))], [], 80⟩ hτ hmix (by kernel_rfl) (by kernel_rfl) rfl ?_
    refine X.seq ?_
    refine X.seq ?_
    have el1 : (l.map dI).length = l.length := List.length_map ..
    have el2 : (m.map dI).length = m.length := List.length_map ..
    refine X.rk ⟨[(0, lV (l.map dI)), (1, lV (m.map dI)), (10, bV (((l.map dI).length : Int) != ((m.map dI).length : Int)))], [], 160⟩ hτ hmix (by kernel_rfl) (by kernel_rfl) rfl ?_
    refine X.if_ (b := (((l.map dI).length : Int) != ((m.map dI).length : Int))) (by kernel_rfl) (fun hb3 => ?_) (fun hb3 => ?_)
    · replace hb3 := bne_iff_ne.1 (hb3)
      refine X.seq ?_
      refine X.rk ⟨[(4, bV false)], [], 176⟩ hτ hmix (by kernel_rfl) (by kernel_rfl) rfl ?_
      refine X.ret ?_
      exact ⟨trivial, _, _, ⟨false, (by first | exact fls (fun h => by have := congrArg List.length h; omega) | exact fls (eq_no ‹_› ‹_› ‹_›) | exact tru (eq_all hA (by omega) (by omega))), rfl, rfl⟩, .inl (Ret.mk' [] (by kernel_rfl) (by kernel_rfl) (by kernel_rfl))⟩
    · replace hb3 := bne_eq_false_iff_eq.1 (hb3)
      refine X.skip ?_
      refine X.seq ?_
      refine X.seq ?_
      refine X.rk ⟨[(0, lV (l.map dI)), (1, lV (m.map dI)), (12, iV ((l.map dI).length : Int)), (13, iV 0)], [], 208⟩ hτ hmix (by kernel_rfl) (by kernel_rfl) rfl ?_
      refine X.block ?_
      -- 4: v13 : Int
      refine X.loop (σ := { g : Int // (fun (v13 : Int) => 0 ≤ v13 ∧ v13 ≤ l.length ∧ Upto (fun j x => m[j.toNat]? = some x) (fun n => l[n]?) v13) g }) (fun g => (fun (v13 : Int) => ⟨[(0, lV (l.map dI)), (1, lV (m.map dI)), (12, iV ((l.map dI).length : Int)), (13, iV v13)], [], 208⟩) g.1) (fun g => (fun (v13 : Int) => (l.length - v13).toNat) g.1) ⟨0, ⟨by first | omega | (dsimp only; omega), by first | omega | (dsimp only; omega), upto_zero⟩⟩ (Wk.less (by kernel_rfl)) (fun g => ?_)
      obtain ⟨v13, hg5⟩ := g
      have hg5 : 0 ≤ v13 ∧ v13 ≤ l.length ∧ Upto (fun j x => m[j.toNat]? = some x) (fun n => l[n]?) v13 := hg5
      obtain ⟨_, _, hA⟩ := hg5
      refine X.seq ?_
      refine X.rk ⟨[(0, lV (l.map dI)), (1, lV (m.map dI)), (12, iV ((l.map dI).length : Int)), (13, iV v13), (14, bV (decide ((v13 : Int) < ((l.map dI).length : Int))))], [], 224⟩ hτ hmix (by kernel_rfl) (by kernel_rfl) rfl ?_
      refine X.seq ?_
      refine X.if_ (b := decide ((v13 : Int) < ((l.map dI).length : Int))) (by kernel_rfl) (fun hb6 => ?_) (fun hb6 => ?_)
      · replace hb6 := of_decide_eq_true (hb6)
        refine X.skip ?_
        refine X.seq ?_
        refine X.block ?_
        refine X.seq ?_
        refine X.rk ⟨[(0, lV (l.map dI)), (1, lV (m.map dI)), (5, iV v13), (12, iV ((l.map dI).length : Int)), (13, iV v13)], [], 256⟩ hτ hmix (by kernel_rfl) (by kernel_rfl) rfl ?_
        refine X.seq ?_
        refine X.rs 2 hτ hmix (by kernel_rfl) ?_
        obtain ⟨x7, hx7⟩ : ∃ x, l[Int.toNat v13]? = some x := ⟨_, List.getElem?_eq_getElem (by first | omega | (simp; done) | (simp; omega))⟩
        refine CH.idx hτ (dI x7) (rows := (l.map dI)) (n := v13) (sz := 1) (by kernel_rfl) (by kernel_rfl) (by first | omega | (simp; done) | (simp; omega)) (by rw [List.getElem?_map, hx7]; rfl) (by kernel_rfl) ?_
        refine CH.go 3 hτ (by kernel_rfl) ?_
        obtain ⟨x8, hx8⟩ : ∃ x, m[Int.toNat v13]? = some x := ⟨_, List.getElem?_eq_getElem (by first | omega | (simp; done) | (simp; omega))⟩
        refine CH.idx hτ (dI x8) (rows := (m.map dI)) (n := v13) (sz := 1) (by kernel_rfl) (by kernel_rfl) (by first | omega | (simp; done) | (simp; omega)) (by rw [List.getElem?_map, hx8]; rfl) (by kernel_rfl) ?_
        refine CH.go 2 hτ (by kernel_rfl) ?_
        refine CH.endk ⟨[(0, lV (l.map dI)), (1, lV (m.map dI)), (12, iV ((l.map dI).length : Int)), (13, iV v13), (24, bV (x7 != x8))], [], 400⟩ (by kernel_rfl) (by kernel_rfl) rfl ?_
        refine X.if_ (b := (x7 != x8)) (by kernel_rfl) (fun hb9 => ?_) (fun hb9 => ?_)
        · replace hb9 := bne_iff_ne.1 (hb9)
          refine X.seq ?_
          refine X.rk ⟨[(4, bV false)], [], 416⟩ hτ hmix (by kernel_rfl) (by kernel_rfl) rfl ?_
          refine X.ret ?_
          exact ⟨trivial, _, _, ⟨false, (by first | exact fls (fun h => by have := congrArg List.length h; omega) | exact fls (eq_no ‹_› ‹_› ‹_›) | exact tru (eq_all hA (by omega) (by omega))), rfl, rfl⟩, .inl (Ret.mk' [] (by kernel_rfl) (by kernel_rfl) (by kernel_rfl))⟩
        · replace hb9 := bne_eq_false_iff_eq.1 (hb9)
          refine X.skip ?_
          refine X.rk ⟨[(0, lV (l.map dI)), (1, lV (m.map dI)), (12, iV ((l.map dI).length : Int)), (13, iV (wrap64 (v13 + 1)))], [], 432⟩ hτ hmix (by kernel_rfl) (by kernel_rfl) (s2 := ⟨[(0, lV (l.map dI)), (1, lV (m.map dI)), (12, iV ((l.map dI).length : Int)), (13, iV (v13 + 1))], [], 432⟩) (congrArg (fun z : Int => (⟨[(0, lV (l.map dI)), (1, lV (m.map dI)), (12, iV ((l.map dI).length : Int)), (13, iV z)], [], 432⟩ : St)) (show wrap64 (v13 + 1) = (v13 + 1) by rw [w64 (n := (v13 + 1)) (by omega) (by omega)])) ?_
          refine ⟨⟨(v13 + 1), ⟨by first | omega | (dsimp only; omega), by first | omega | (dsimp only; omega), upto_nx (by first | omega | (dsimp only; omega)) hA ‹_› (eq_stp ‹_› ‹_›)⟩⟩, by first | exact rfl | omega | (dsimp only; omega) | (simp only [List.length_append, List.length_cons, List.length_nil, List.length_set]; omega) | (simp; done) | (simp; omega), Wk.mk' [] (by kernel_rfl) (by kernel_rfl) (by kernel_rfl)⟩
      · replace hb6 := of_decide_eq_false (hb6)
        refine X.exit ?_
        refine X.seq ?_
        refine X.rk ⟨[(4, bV true)], [], 240⟩ hτ hmix (by kernel_rfl) (by kernel_rfl) rfl ?_
        refine X.ret ?_
        exact ⟨trivial, _, _, ⟨true, (by first | exact fls (fun h => by have := congrArg List.length h; omega) | exact fls (eq_no ‹_› ‹_› ‹_›) | exact tru (eq_all hA (by omega) (by omega))), rfl, rfl⟩, .inl (Ret.mk' [] (by kernel_rfl) (by kernel_rfl) (by kernel_rfl))⟩
  obtain ⟨_, _, ⟨r0, q1, rfl, rfl⟩, hf⟩ := key
  exact ⟨r0, q1, hf⟩

theorem i_eqTx (l : List S120) (m : List S120) (hl : l.length ≤ 2000000) (hm : m.length ≤ 2000000) : ∃ r0 : Bool, (r0 = allEq l m) ∧ Fn Try.prog 100 [lV (l.map d120), lV (m.map d120)] (lookH []) (bV r0) (lookH []) := by
  have key : ∃ x' h', ((fun x' h' => ∃ r0 : Bool, (r0 = allEq l m) ∧ x' = bV r0 ∧ h' = [])) x' h' ∧ Fn Try.prog 100 [lV (l.map d120), lV (m.map d120)] (lookH []) x' (lookH h') := by
    refine Fn.bodyX (N := 26) hτ Try.func100 rfl rfl rfl rfl ?_
    refine X.seq ?_
    refine X.rk ⟨[(0, lV (l.map d120)), (1, lV (m.map d120))], [], 80⟩ hτ hmix (by kernel_rfl) (by kernel_rfl) rfl ?_
    refine X.seq ?_
    refine X.seq ?_
    have el1 : (l.map d120).length = l.length := List.length_map ..
    have el2 : (m.map d120).length = m.length := List.length_map ..
    refine X.rk ⟨[(0, lV (l.map d120)), (1, lV (m.map d120)), (10, bV (((l.map d120).length : Int) != ((m.map d120).length : Int)))], [], 160⟩ hτ hmix (by kernel_rfl) (by kernel_rfl) rfl ?_
    refine X.if_ (b := (((l.map d120).length : Int) != ((m.map d120).length : Int))) (by kernel_rfl) (fun hb3 => ?_) (fun hb3 => ?_)
    · replace hb3 := bne_iff_ne.1 (hb3)
      refine X.seq ?_
      refine X.rk ⟨[(4, bV false)], [], 176⟩ hτ hmix (by kernel_rfl) (by kernel_rfl) rfl ?_
      refine X.ret ?_
      exact ⟨trivial, _, _, ⟨false, (by first | exact fls (fun h => by have := congrArg List.length h; omega) | exact fls (eq_no ‹_› ‹_› ‹_›) | exact tru (eq_all hA (by omega) (by omega))), rfl, rfl⟩, .inl (Ret.mk' [] (by kernel_rfl) (by kernel_rfl) (by kernel_rfl))⟩
    · replace hb3 := bne_eq_false_iff_eq.1 (hb3)
      refine X.skip ?_
      refine X.seq ?_
      refine X.seq ?_
      refine X.rk ⟨[(0, lV (l.map d120)), (1, lV (m.map d120)), (12, iV ((l.map d120).length : Int)), (13, iV 0)], [], 208⟩ hτ hmix (by kernel_rfl) (by kernel_rfl) rfl ?_
      refine X.block ?_
      -- 4: v13 : Int
      refine X.loop (σ := { g : Int // (fun (v13 : Int) => 0 ≤ v13 ∧ v13 ≤ l.length ∧ Upto (fun j x => m[j.toNat]? = some x) (fun n => l[n]?) v13) g }) (fun g => (fun (v13 : Int) => ⟨[(0, lV (l.map d120)), (1, lV (m.map d120)), (12, iV ((l.map d120).length : Int)), (13, iV v13)], [], 208⟩) g.1) (fun g => (fun (v13 : Int) => (l.length - v13).toNat) g.1) ⟨0, ⟨by first | omega | (dsimp only; omega), by first | omega | (dsimp only; omega), upto_zero⟩⟩ (Wk.less (by kernel_rfl)) (fun g => ?_)
      obtain ⟨v13, hg5⟩ := g
      have hg5 : 0 ≤ v13 ∧ v13 ≤ l.length ∧ Upto (fun j x => m[j.toNat]? = some x) (fun n => l[n]?) v13 := hg5
      obtain ⟨_, _, hA⟩ := hg5
      refine X.seq ?_
      refine X.rk ⟨[(0, lV (l.map d120)), (1, lV (m.map d120)), (12, iV ((l.map d120).length : Int)), (13, iV v13), (14, bV (decide ((v13 : Int) < ((l.map d120).length : Int))))], [], 224⟩ hτ hmix (by kernel_rfl) (by kernel_rfl) rfl ?_
      refine X.seq ?_
      refine X.if_ (b := decide ((v13 : Int) < ((l.map d120).length : Int))) (by kernel_rfl) (fun hb6 => ?_) (fun hb6 => ?_)
      · replace hb6 := of_decide_eq_true (hb6)
        refine X.skip ?_
        refine X.seq ?_
        refine X.block ?_
        refine X.seq ?_
        refine X.rk ⟨[(0, lV (l.map d120)), (1, lV (m.map d120)), (5, iV v13), (12, iV ((l.map d120).length : Int)), (13, iV v13)], [], 256⟩ hτ hmix (by kernel_rfl) (by kernel_rfl) rfl ?_
        refine X.seq ?_
        refine X.rs 2 hτ hmix (by kernel_rfl) ?_
        obtain ⟨x7, hx7⟩ : ∃ x, l[Int.toNat v13]? = some x := ⟨_, List.getElem?_eq_getElem (by first | omega | (simp; done) | (simp; omega))⟩
        refine CH.idx hτ (d120 x7) (rows := (l.map d120)) (n := v13) (sz := 5) (by kernel_rfl) (by kernel_rfl) (by first | omega | (simp; done) | (simp; omega)) (by rw [List.getElem?_map, hx7]; rfl) (by kernel_rfl) ?_
        refine CH.go 3 hτ (by kernel_rfl) ?_
        obtain ⟨x8, hx8⟩ : ∃ x, m[Int.toNat v13]? = some x := ⟨_, List.getElem?_eq_getElem (by first | omega | (simp; done) | (simp; omega))⟩
        refine CH.idx hτ (d120 x8) (rows := (m.map d120)) (n := v13) (sz := 5) (by kernel_rfl) (by kernel_rfl) (by first | omega | (simp; done) | (simp; omega)) (by rw [List.getElem?_map, hx8]; rfl) (by kernel_rfl) ?_
        refine CH.go 1 hτ (by kernel_rfl) ?_
        refine CH.eqS (t := 120) (ng := true) (sm120 x7 x8) (by kernel_rfl) (by kernel_rfl) (flatS120 x7) ?_
        refine CH.endk ⟨[(0, lV (l.map d120)), (1, lV (m.map d120)), (12, iV ((l.map d120).length : Int)), (13, iV v13), (24, bV (!(sm120 x7 x8)))], [], 400⟩ (by kernel_rfl) (by kernel_rfl) rfl ?_
        refine X.if_ (b := !(sm120 x7 x8)) (by kernel_rfl) (fun hb9 => ?_) (fun hb9 => ?_)
        · replace hb9 := sm_no sm120_iff (bnot_yes (hb9))
          refine X.seq ?_
          refine X.rk ⟨[(4, bV false)], [], 416⟩ hτ hmix (by kernel_rfl) (by kernel_rfl) rfl ?_
          refine X.ret ?_
          exact ⟨trivial, _, _, ⟨false, (by first | exact fls (fun h => by have := congrArg List.length h; omega) | exact fls (eq_no ‹_› ‹_› ‹_›) | exact tru (eq_all hA (by omega) (by omega))), rfl, rfl⟩, .inl (Ret.mk' [] (by kernel_rfl) (by kernel_rfl) (by kernel_rfl))⟩
        · replace hb9 := (sm120_iff _ _).1 (bnot_no (hb9))
          refine X.skip ?_
          refine X.rk ⟨[(0, lV (l.map d120)), (1, lV (m.map d120)), (12, iV ((l.map d120).length : Int)), (13, iV (wrap64 (v13 + 1)))], [], 432⟩ hτ hmix (by kernel_rfl) (by kernel_rfl) (s2 := ⟨[(0, lV (l.map d120)), (1, lV (m.map d120)), (12, iV ((l.map d120).length : Int)), (13, iV (v13 + 1))], [], 432⟩) (congrArg (fun z : Int => (⟨[(0, lV (l.map d120)), (1, lV (m.map d120)), (12, iV ((l.map d120).length : Int)), (13, iV z)], [], 432⟩ : St)) (show wrap64 (v13 + 1) = (v13 + 1) by rw [w64 (n := (v13 + 1)) (by omega) (by omega)])) ?_
          refine ⟨⟨(v13 + 1), ⟨by first | omega | (dsimp only; omega), by first | omega | (dsimp only; omega), upto_nx (by first | omega | (dsimp only; omega)) hA ‹_› (eq_stp ‹_› ‹_›)⟩⟩, by first | exact rfl | omega | (dsimp only; omega) | (simp only [List.length_append, List.length_cons, List.length_nil, List.length_set]; omega) | (simp; done) | (simp; omega), Wk.mk' [] (by kernel_rfl) (by kernel_rfl) (by kernel_rfl)⟩
      · replace hb6 := of_decide_eq_false (hb6)
        refine X.exit ?_
        refine X.seq ?_
        refine X.rk ⟨[(4, bV true)], [], 240⟩ hτ hmix (by kernel_rfl) (by kernel_rfl) rfl ?_
        refine X.ret ?_
        exact ⟨trivial, _, _, ⟨true, (by first | exact fls (fun h => by have := congrArg List.length h; omega) | exact fls (eq_no ‹_› ‹_› ‹_›) | exact tru (eq_all hA (by omega) (by omega))), rfl, rfl⟩, .inl (Ret.mk' [] (by kernel_rfl) (by kernel_rfl) (by kernel_rfl))⟩
  obtain ⟨_, _, ⟨r0, q1, rfl, rfl⟩, hf⟩ := key
  exact ⟨r0, q1, hf⟩

theorem i_eqVal (l : List S122) (m : List S122) (hl : l.length ≤ 2000000) (hm : m.length ≤ 2000000) : ∃ r0 : Bool, (r0 = allEq l m) ∧ Fn Try.prog 101 [lV (l.map d122), lV (m.map d122)] (lookH []) (bV r0) (lookH []) := by
  have key : ∃ x' h', ((fun x' h' => ∃ r0 : Bool, (r0 = allEq l m) ∧ x' = bV r0 ∧ h' = [])) x' h' ∧ Fn Try.prog 101 [lV (l.map d122), lV (m.map d122)] (lookH []) x' (lookH h') := by
    refine Fn.bodyX (N := 26) hτ Try.func101 rfl rfl rfl rfl ?_
    refine X.seq ?_
    refine X.rk ⟨[(0, lV (l.map d122)), (1, lV (m.map d122))], [], 80⟩ hτ hmix (by kernel_rfl) (by kernel_rfl) rfl ?_
    refine X.seq ?_
    refine X.seq ?_
    have el1 : (l.map d122).length = l.length := List.length_map ..
    have el2 : (m.map d122).length = m.length := List.length_map ..
    refine X.rk ⟨[(0, lV (l.map d122)), (1, lV (m.map d122)), (10, bV (((l.map d122).length : Int) != ((m.map d122).length : Int)))], [], 160⟩ hτ hmix (by kernel_rfl) (by kernel_rfl) rfl ?_
    refine X.if_ (b := (((l.map d122).length : Int) != ((m.map d122).length : Int))) (by kernel_rfl) (fun hb3 => ?_) (fun hb3 => ?_)
    · replace hb3 := bne_iff_ne.1 (hb3)
      refine X.seq ?_
      refine X.rk ⟨[(4, bV false)], [], 176⟩ hτ hmix (by kernel_rfl) (by kernel_rfl) rfl ?_
      refine X.ret ?_
      exact ⟨trivial, _, _, ⟨false, (by first | exact fls (fun h => by have := congrArg List.length h; omega) | exact fls (eq_no ‹_› ‹_› ‹_›) | exact tru (eq_all hA (by omega) (by omega))), rfl, rfl⟩, .inl (Ret.mk' [] (by kernel_rfl) (by kernel_rfl) (by kernel_rfl))⟩
    · replace hb3 := bne_eq_false_iff_eq.1 (hb3)
      refine X.skip ?_
      refine X.seq ?_
      refine X.seq ?_
      refine X.rk ⟨[(0, lV (l.map d122)), (1, lV (m.map d122)), (12, iV ((l.map d122).length : Int)), (13, iV 0)], [], 208⟩ hτ hmix (by kernel_rfl) (by kernel_rfl) rfl ?_
      refine X.block ?_
      -- 4: v13 : Int
      refine X.loop (σ := { g : Int // (fun (v13 : Int) => 0 ≤ v13 ∧ v13 ≤ l.length ∧ Upto (fun j x => m[j.toNat]? = some x) (fun n => l[n]?) v13) g }) (fun g => (fun (v13 : Int) => ⟨[(0, lV (l.map d122)), (1, lV (m.map d122)), (12, iV ((l.map d122).length : Int)), (13, iV v13)], [], 208⟩) g.1) (fun g => (fun (v13 : Int) => (l.length - v13).toNat) g.1) ⟨0, ⟨by first | omega | (dsimp only; omega), by first | omega | (dsimp only; omega), upto_zero⟩⟩ (Wk.less (by kernel_rfl)) (fun g => ?_)
      obtain ⟨v13, hg5⟩ := g
      have hg5 : 0 ≤ v13 ∧ v13 ≤ l.length ∧ Upto (fun j x => m[j.toNat]? = some x) (fun n => l[n]?) v13 := hg5
      obtain ⟨_, _, hA⟩ := hg5
      refine X.seq ?_
      refine X.rk ⟨[(0, lV (l.map d122)), (1, lV (m.map d122)), (12, iV ((l.map d122).length : Int)), (13, iV v13), (14, bV (decide ((v13 : Int) < ((l.map d122).length : Int))))], [], 224⟩ hτ hmix (by kernel_rfl) (by kernel_rfl) rfl ?_
      refine X.seq ?_
      refine X.if_ (b := decide ((v13 : Int) < ((l.map d122).length : Int))) (by kernel_rfl) (fun hb6 => ?_) (fun hb6 => ?_)
      · replace hb6 := of_decide_eq_true (hb6)
        refine X.skip ?_
        refine X.seq ?_
        refine X.block ?_
        refine X.seq ?_
        refine X.rk ⟨[(0, lV (l.map d122)), (1, lV (m.map d122)), (5, iV v13), (12, iV ((l.map d122).length : Int)), (13, iV v13)], [], 256⟩ hτ hmix (by kernel_rfl) (by kernel_rfl) rfl ?_
        refine X.seq ?_
        refine X.rs 2 hτ hmix (by kernel_rfl) ?_
        obtain ⟨x7, hx7⟩ : ∃ x, l[Int.toNat v13]? = some x := ⟨_, List.getElem?_eq_getElem (by first | omega | (simp; done) | (simp; omega))⟩
        refine CH.idx hτ (d122 x7) (rows := (l.map d122)) (n := v13) (sz := 2) (by kernel_rfl) (by kernel_rfl) (by first | omega | (simp; done) | (simp; omega)) (by rw [List.getElem?_map, hx7]; rfl) (by kernel_rfl) ?_
        refine CH.go 3 hτ (by kernel_rfl) ?_
        obtain ⟨x8, hx8⟩ : ∃ x, m[Int.toNat v13]? = some x := ⟨_, List.getElem?_eq_getElem (by first | omega | (simp; done) | (simp; omega))⟩
        refine CH.idx hτ (d122 x8) (rows := (m.map d122)) (n := v13) (sz := 2) (by kernel_rfl) (by kernel_rfl) (by first | omega | (simp; done) | (simp; omega)) (by rw [List.getElem?_map, hx8]; rfl) (by kernel_rfl) ?_
        refine CH.go 1 hτ (by kernel_rfl) ?_
        refine CH.eqS (t := 122) (ng := true) (sm122 x7 x8) (by kernel_rfl) (by kernel_rfl) (flatS122 x7) ?_
        refine CH.endk ⟨[(0, lV (l.map d122)), (1, lV (m.map d122)), (12, iV ((l.map d122).length : Int)), (13, iV v13), (24, bV (!(sm122 x7 x8)))], [], 400⟩ (by kernel_rfl) (by kernel_rfl) rfl ?_
        refine X.if_ (b := !(sm122 x7 x8)) (by kernel_rfl) (fun hb9 => ?_) (fun hb9 => ?_)
        · replace hb9 := sm_no sm122_iff (bnot_yes (hb9))
          refine X.seq ?_
          refine X.rk ⟨[(4, bV false)], [], 416⟩ hτ hmix (by kernel_rfl) (by kernel_rfl) rfl ?_
          refine X.ret ?_
          exact ⟨trivial, _, _, ⟨false, (by first | exact fls (fun h => by have := congrArg List.length h; omega) | exact fls (eq_no ‹_› ‹_› ‹_›) | exact tru (eq_all hA (by omega) (by omega))), rfl, rfl⟩, .inl (Ret.mk' [] (by kernel_rfl) (by kernel_rfl) (by kernel_rfl))⟩
        · replace hb9 := (sm122_iff _ _).1 (bnot_no (hb9))
          refine X.skip ?_
          refine X.rk ⟨[(0, lV (l.map d122)), (1, lV (m.map d122)), (12, iV ((l.map d122).length : Int)), (13, iV (wrap64 (v13 + 1)))], [], 432⟩ hτ hmix (by kernel_rfl) (by kernel_rfl) (s2 := ⟨[(0, lV (l.map d122)), (1, lV (m.map d122)), (12, iV ((l.map d122).length : Int)), (13, iV (v13 + 1))], [], 432⟩) (congrArg (fun z : Int => (⟨[(0, lV (l.map d122)), (1, lV (m.map d122)), (12, iV ((l.map d122).length : Int)), (13, iV z)], [], 432⟩ : St)) (show wrap64 (v13 + 1) = (v13 + 1) by rw [w64 (n := (v13 + 1)) (by omega) (by omega)])) ?_
          refine ⟨⟨(v13 + 1), ⟨by first | omega | (dsimp only; omega), by first | omega | (dsimp only; omega), upto_nx (by first | omega | (dsimp only; omega)) hA ‹_› (eq_stp ‹_› ‹_›)⟩⟩, by first | exact rfl | omega | (dsimp only; omega) | (simp only [List.length_append, List.length_cons, List.length_nil, List.length_set]; omega) | (simp; done) | (simp; omega), Wk.mk' [] (by kernel_rfl) (by kernel_rfl) (by kernel_rfl)⟩
      · replace hb6 := of_decide_eq_false (hb6)
        refine X.exit ?_
        refine X.seq ?_
        refine X.rk ⟨[(4, bV true)], [], 240⟩ hτ hmix (by kernel_rfl) (by kernel_rfl) rfl ?_
        refine X.ret ?_
        exact ⟨trivial, _, _, ⟨true, (by first | exact fls (fun h => by have := congrArg List.length h; omega) | exact fls (eq_no ‹_› ‹_› ‹_›) | exact tru (eq_all hA (by omega) (by omega))), rfl, rfl⟩, .inl (Ret.mk' [] (by kernel_rfl) (by kernel_rfl) (by kernel_rfl))⟩
  obtain ⟨_, _, ⟨r0, q1, rfl, rfl⟩, hf⟩ := key
  exact ⟨r0, q1, hf⟩

theorem l_sameInts (l : List Int) (m : List Int) (hl : l.length ≤ 2000000) (hm : m.length ≤ 2000000) : ∃ r0 : Bool, (r0 = allEq l m) ∧ Fn Try.prog 45 [lV (l.map dI), lV (m.map dI)] (lookH []) (bV r0) (lookH []) := by
  have key : ∃ x' h', ((fun x' h' => ∃ r0 : Bool, (r0 = allEq l m) ∧ x' = bV r0 ∧ h' = [])) x' h' ∧ Fn Try.prog 45 [lV (l.map dI), lV (m.map dI)] (lookH []) x' (lookH h') := by
    refine Fn.bodyX (N := 26) hτ Try.func45 rfl rfl rfl rfl ?_
    refine X.seq ?_
    refine X.rk ⟨[(0, lV (l.map dI)), (1, lV (m.map dI))], [], 80⟩ hτ hmix (by kernel_rfl) (by kernel_rfl) rfl ?_
    refine X.seq ?_
    refine X.seq ?_
    have el1 : (l.map dI).length = l.length := List.length_map ..
    have el2 : (m.map dI).length = m.length := List.length_map ..
    refine X.rk ⟨[(0, lV (l.map dI)), (1, lV (m.map dI)), (10, bV (((l.map dI).length : Int) != ((m.map dI).length : Int)))], [], 160⟩ hτ hmix (by kernel_rfl) (by kernel_rfl) rfl ?_
    refine X.if_ (b := (((l.map dI).length : Int) != ((m.map dI).length : Int))) (by kernel_rfl) (fun hb3 => ?_) (fun hb3 => ?_)
    · replace hb3 := bne_iff_ne.1 (hb3)
      refine X.seq ?_
      refine X.rk ⟨[(4, bV false)], [], 176⟩ hτ hmix (by kernel_rfl) (by kernel_rfl) rfl ?_
      refine X.ret ?_
      exact ⟨trivial, _, _, ⟨false, (by first | exact fls (fun h => by have := congrArg List.length h; omega) | exact fls (eq_no ‹_› ‹_› ‹_›) | exact tru (eq_all hA (by omega) (by omega))), rfl, rfl⟩, .inl (Ret.mk' [] (by kernel_rfl) (by kernel_rfl) (by kernel_rfl))⟩
    · replace hb3 := bne_eq_false_iff_eq.1 (hb3)
      refine X.skip ?_
      refine X.seq ?_
      refine X.seq ?_
      refine X.rk ⟨[(0, lV (l.map dI)), (1, lV (m.map dI)), (5, iV 0)], [], 176⟩ hτ hmix (by kernel_rfl) (by kernel_rfl) rfl ?_
      refine X.block ?_
      -- 4: v5 : Int
      refine X.loop (σ := { g : Int // (fun (v5 : Int) => 0 ≤ v5 ∧ v5 ≤ l.length ∧ Upto (fun j x => m[j.toNat]? = some x) (fun n => l[n]?) v5) g }) (fun g => (fun (v5 : Int) => ⟨[(0, lV (l.map dI)), (1, lV (m.map dI)), (5, iV v5)], [], 176⟩) g.1) (fun g => (fun (v5 : Int) => (l.length - v5).toNat) g.1) ⟨0, ⟨by first | omega | (dsimp only; omega), by first | omega | (dsimp only; omega), upto_zero⟩⟩ (Wk.less (by kernel_rfl)) (fun g => ?_)
      obtain ⟨v5, hg5⟩ := g
      have hg5 : 0 ≤ v5 ∧ v5 ≤ l.length ∧ Upto (fun j x => m[j.toNat]? = some x) (fun n => l[n]?) v5 := hg5
      obtain ⟨_, _, hA⟩ := hg5
      refine X.seq ?_
      refine X.seq ?_
      refine X.rk ⟨[(0, lV (l.map dI)), (1, lV (m.map dI)), (5, iV v5), (14, bV (decide ((v5 : Int) < ((l.map dI).length : Int))))], [], 240⟩ hτ hmix (by kernel_rfl) (by kernel_rfl) rfl ?_
      refine X.if_ (b := decide ((v5 : Int) < ((l.map dI).length : Int))) (by kernel_rfl) (fun hb6 => ?_) (fun hb6 => ?_)
      · replace hb6 := of_decide_eq_true (hb6)
        refine X.skip ?_
        refine X.seq ?_
        refine X.block ?_
        refine X.seq ?_
        refine X.rs 2 hτ hmix (by kernel_rfl) ?_
        obtain ⟨x7, hx7⟩ : ∃ x, l[Int.toNat v5]? = some x := ⟨_, List.getElem?_eq_getElem (by first | omega | (simp; done) | (simp; omega))⟩
        refine CH.idx hτ (dI x7) (rows := (l.map dI)) (n := v5) (sz := 1) (by kernel_rfl) (by kernel_rfl) (by first | omega | (simp; done) | (simp; omega)) (by rw [List.getElem?_map, hx7]; rfl) (by kernel_rfl) ?_
        refine CH.go 3 hτ (by kernel_rfl) ?_
        obtain ⟨x8, hx8⟩ : ∃ x, m[Int.toNat v5]? = some x := ⟨_, List.getElem?_eq_getElem (by first | omega | (simp; done) | (simp; omega))⟩
        refine CH.idx hτ (dI x8) (rows := (m.map dI)) (n := v5) (sz := 1) (by kernel_rfl) (by kernel_rfl) (by first | omega | (simp; done) | (simp; omega)) (by rw [List.getElem?_map, hx8]; rfl) (by kernel_rfl) ?_
        refine CH.go 2 hτ (by kernel_rfl) ?_
        refine CH.endk ⟨[(0, lV (l.map dI)), (1, lV (m.map dI)), (5, iV v5), (25, bV (x7 != x8))], [], 384⟩ (by kernel_rfl) (by kernel_rfl) rfl ?_
        refine X.if_ (b := (x7 != x8)) (by kernel_rfl) (fun hb9 => ?_) (fun hb9 => ?_)
        · replace hb9 := bne_iff_ne.1 (hb9)
          refine X.seq ?_
          refine X.rk ⟨[(4, bV false)], [], 400⟩ hτ hmix (by kernel_rfl) (by kernel_rfl) rfl ?_
          refine X.ret ?_
          exact ⟨trivial, _, _, ⟨false, (by first | exact fls (fun h => by have := congrArg List.length h; omega) | exact fls (eq_no ‹_› ‹_› ‹_›) | exact tru (eq_all hA (by omega) (by omega))), rfl, rfl⟩, .inl (Ret.mk' [] (by kernel_rfl) (by kernel_rfl) (by kernel_rfl))⟩
        · replace hb9 := bne_eq_false_iff_eq.1 (hb9)
          refine X.skip ?_
          refine X.rk ⟨[(0, lV (l.map dI)), (1, lV (m.map dI)), (5, iV (wrap64 (v5 + 1)))], [], 432⟩ hτ hmix (by kernel_rfl) (by kernel_rfl) (s2 := ⟨[(0, lV (l.map dI)), (1, lV (m.map dI)), (5, iV (v5 + 1))], [], 432⟩) (congrArg (fun z : Int => (⟨[(0, lV (l.map dI)), (1, lV (m.map dI)), (5, iV z)], [], 432⟩ : St)) (show wrap64 (v5 + 1) = (v5 + 1) by rw [w64 (n := (v5 + 1)) (by omega) (by omega)])) ?_
          refine ⟨⟨(v5 + 1), ⟨by first | omega | (dsimp only; omega), by first | omega | (dsimp only; omega), upto_nx (by first | omega | (dsimp only; omega)) hA ‹_› (eq_stp ‹_› ‹_›)⟩⟩, by first | exact rfl | omega | (dsimp only; omega) | (simp only [List.length_append, List.length_cons, List.length_nil, List.length_set]; omega) | (simp; done) | (simp; omega), Wk.mk' [] (by kernel_rfl) (by kernel_rfl) (by kernel_rfl)⟩
      · replace hb6 := of_decide_eq_false (hb6)
        refine X.exit ?_
        refine X.seq ?_
        refine X.rk ⟨[(4, bV true)], [], 256⟩ hτ hmix (by kernel_rfl) (by kernel_rfl) rfl ?_
        refine X.ret ?_
        exact ⟨trivial, _, _, ⟨true, (by first | exact fls (fun h => by have := congrArg List.length h; omega) | exact fls (eq_no ‹_› ‹_› ‹_›) | exact tru (eq_all hA (by omega) (by omega))), rfl, rfl⟩, .inl (Ret.mk' [] (by kernel_rfl) (by kernel_rfl) (by kernel_rfl))⟩
  obtain ⟨_, _, ⟨r0, q1, rfl, rfl⟩, hf⟩ := key
  exact ⟨r0, q1, hf⟩

theorem i_sameQc (q : S31) (r : S31) (hq : q.f2.length ≤ 2000000) (hr : r.f2.length ≤ 2000000) : ∃ r0 : Bool, (r0 = sameQ q r) ∧ Fn Try.prog 98 [.e (.agg (cD (d31 q))), .e (.agg (cD (d31 r)))] (lookH []) (bV r0) (lookH []) := by
  have key : ∃ x' h', ((fun x' h' => ∃ r0 : Bool, (r0 = sameQ q r) ∧ x' = bV r0 ∧ h' = [])) x' h' ∧ Fn Try.prog 98 [.e (.agg (cD (d31 q))), .e (.agg (cD (d31 r)))] (lookH []) x' (lookH h') := by
    refine Fn.bodyX (N := 24) hτ Try.func98 rfl rfl rfl rfl ?_
    refine X.seq ?_
    refine X.rk ⟨[(2, .pt 64 0 0), (3, .pt 80 0 0)], [(64, some (.box (cD (d31 q)))), (80, some (.box (cD (d31 r))))], 112⟩ hτ hmix (by kernel_rfl) (by kernel_rfl) rfl ?_
    refine X.seq ?_
    refine X.rs 6 hτ hmix (by kernel_rfl) ?_
    rcases Bool.eq_false_or_eq_true ((q.f0 == r.f0)) with hb1 | hb1
    · refine CH.alt 9 (sV (.bool ((q.f0 == r.f0)))) (sV (.bool true)) (by kernel_rfl) (by rw [hb1]) ?_
      refine CH.alt 10 (sV (.bool ((q.f0 == r.f0)))) (sV (.bool true)) (by kernel_rfl) (by rw [hb1]) ?_
      replace hb1 := eq_of_beq (hb1)
      refine CH.go 7 hτ (by kernel_rfl) ?_
      rcases Bool.eq_false_or_eq_true ((q.f1 == r.f1)) with hb2 | hb2
      · refine CH.alt 15 (sV (.bool ((q.f1 == r.f1)))) (sV (.bool true)) (by kernel_rfl) (by rw [hb2]) ?_
        refine CH.alt 16 (sV (.bool ((q.f1 == r.f1)))) (sV (.bool true)) (by kernel_rfl) (by rw [hb2]) ?_
        refine CH.alt 17 (sV (.bool ((q.f1 == r.f1)))) (sV (.bool true)) (by kernel_rfl) (by rw [hb2]) ?_
        replace hb2 := eq_of_beq (hb2)
        refine CH.go 4 hτ (by kernel_rfl) ?_
        obtain ⟨r3, hr5, hf4⟩ := i_eqStr q.f2 r.f2 (by assumption) (by assumption)
        replace hr5 := hr5.symm; subst hr5
        refine CH.call hf4 Try.func156 ⟨rfl, rfl⟩ [] (by kernel_rfl) (by kernel_rfl) (by kernel_rfl) (by kernel_rfl) ?_
        refine CH.go 2 hτ (by kernel_rfl) ?_
        refine CH.endk ⟨[(4, bV (allEq q.f2 r.f2))], [], 432⟩ (by kernel_rfl) (by kernel_rfl) rfl ?_
        refine X.ret ?_
        exact ⟨trivial, _, _, ⟨(allEq q.f2 r.f2), (by simp_all [sameQ]), rfl, rfl⟩, .inl (Ret.mk' [] (by kernel_rfl) (by kernel_rfl) (by kernel_rfl))⟩
      · refine CH.alt 15 (sV (.bool ((q.f1 == r.f1)))) (sV (.bool false)) (by kernel_rfl) (by rw [hb2]) ?_
        refine CH.alt 16 (sV (.bool ((q.f1 == r.f1)))) (sV (.bool false)) (by kernel_rfl) (by rw [hb2]) ?_
        refine CH.alt 17 (sV (.bool ((q.f1 == r.f1)))) (sV (.bool false)) (by kernel_rfl) (by rw [hb2]) ?_
        replace hb2 := beq_eq_false_iff_ne.1 (hb2)
        refine CH.go 7 hτ (by kernel_rfl) ?_
        refine CH.endk ⟨[(4, bV false)], [], 432⟩ (by kernel_rfl) (by kernel_rfl) rfl ?_
        refine X.ret ?_
        exact ⟨trivial, _, _, ⟨false, (by simp_all [sameQ]), rfl, rfl⟩, .inl (Ret.mk' [] (by kernel_rfl) (by kernel_rfl) (by kernel_rfl))⟩
    · refine CH.alt 9 (sV (.bool ((q.f0 == r.f0)))) (sV (.bool false)) (by kernel_rfl) (by rw [hb1]) ?_
      refine CH.alt 10 (sV (.bool ((q.f0 == r.f0)))) (sV (.bool false)) (by kernel_rfl) (by rw [hb1]) ?_
      replace hb1 := beq_eq_false_iff_ne.1 (hb1)
      refine CH.go 14 hτ (by kernel_rfl) ?_
      refine CH.endk ⟨[(4, bV false)], [], 432⟩ (by kernel_rfl) (by kernel_rfl) rfl ?_
      refine X.ret ?_
      exact ⟨trivial, _, _, ⟨false, (by simp_all [sameQ]), rfl, rfl⟩, .inl (Ret.mk' [] (by kernel_rfl) (by kernel_rfl) (by kernel_rfl))⟩
  obtain ⟨_, _, ⟨r0, q1, rfl, rfl⟩, hf⟩ := key
  exact ⟨r0, q1, hf⟩

theorem i_sameTc (q : S55) (r : S55) (hq : q.f1.length ≤ 2000000) (hq2 : q.f2.length ≤ 2000000) (hr : r.f1.length ≤ 2000000) (hr2 : r.f2.length ≤ 2000000) : ∃ r0 : Bool, (r0 = sameT q r) ∧ Fn Try.prog 99 [.e (.agg (cD (d55 q))), .e (.agg (cD (d55 r)))] (lookH []) (bV r0) (lookH []) := by
  have key : ∃ x' h', ((fun x' h' => ∃ r0 : Bool, (r0 = sameT q r) ∧ x' = bV r0 ∧ h' = [])) x' h' ∧ Fn Try.prog 99 [.e (.agg (cD (d55 q))), .e (.agg (cD (d55 r)))] (lookH []) x' (lookH h') := by
    refine Fn.bodyX (N := 24) hτ Try.func99 rfl rfl rfl rfl ?_
    refine X.seq ?_
    refine X.rk ⟨[(2, .pt 64 0 0), (3, .pt 80 0 0)], [(64, some (.box (cD (d55 q)))), (80, some (.box (cD (d55 r))))], 112⟩ hτ hmix (by kernel_rfl) (by kernel_rfl) rfl ?_
    refine X.seq ?_
    refine X.rs 6 hτ hmix (by kernel_rfl) ?_
    rcases Bool.eq_false_or_eq_true ((q.f0 == r.f0)) with hb1 | hb1
    · refine CH.alt 9 (sV (.bool ((q.f0 == r.f0)))) (sV (.bool true)) (by kernel_rfl) (by rw [hb1]) ?_
      refine CH.alt 10 (sV (.bool ((q.f0 == r.f0)))) (sV (.bool true)) (by kernel_rfl) (by rw [hb1]) ?_
      replace hb1 := eq_of_beq (hb1)
      refine CH.go 4 hτ (by kernel_rfl) ?_
      obtain ⟨r2, hr4, hf3⟩ := i_eqStr q.f1 r.f1 (by assumption) (by assumption)
      replace hr4 := hr4.symm; subst hr4
      refine CH.call hf3 Try.func156 ⟨rfl, rfl⟩ [] (by kernel_rfl) (by kernel_rfl) (by kernel_rfl) (by kernel_rfl) ?_
      refine CH.go 2 hτ (by kernel_rfl) ?_
      rcases Bool.eq_false_or_eq_true ((allEq q.f1 r.f1)) with hb6 | hb6
      · refine CH.alt 15 (sV (.bool ((allEq q.f1 r.f1)))) (sV (.bool true)) (by kernel_rfl) (by rw [hb6]) ?_
        refine CH.alt 16 (sV (.bool ((allEq q.f1 r.f1)))) (sV (.bool true)) (by kernel_rfl) (by rw [hb6]) ?_
        refine CH.alt 17 (sV (.bool ((allEq q.f1 r.f1)))) (sV (.bool true)) (by kernel_rfl) (by rw [hb6]) ?_
        refine CH.go 4 hτ (by kernel_rfl) ?_
        obtain ⟨r7, hr9, hf8⟩ := i_eqInt q.f2 r.f2 (by assumption) (by assumption)
        replace hr9 := hr9.symm; subst hr9
        refine CH.call hf8 Try.func157 ⟨rfl, rfl⟩ [] (by kernel_rfl) (by kernel_rfl) (by kernel_rfl) (by kernel_rfl) ?_
        refine CH.go 2 hτ (by kernel_rfl) ?_
        refine CH.endk ⟨[(4, bV (allEq q.f2 r.f2))], [], 432⟩ (by kernel_rfl) (by kernel_rfl) rfl ?_
        refine X.ret ?_
        exact ⟨trivial, _, _, ⟨(allEq q.f2 r.f2), (by simp_all [sameT]), rfl, rfl⟩, .inl (Ret.mk' [] (by kernel_rfl) (by kernel_rfl) (by kernel_rfl))⟩
      · refine CH.alt 15 (sV (.bool ((allEq q.f1 r.f1)))) (sV (.bool false)) (by kernel_rfl) (by rw [hb6]) ?_
        refine CH.alt 16 (sV (.bool ((allEq q.f1 r.f1)))) (sV (.bool false)) (by kernel_rfl) (by rw [hb6]) ?_
        refine CH.alt 17 (sV (.bool ((allEq q.f1 r.f1)))) (sV (.bool false)) (by kernel_rfl) (by rw [hb6]) ?_
        refine CH.go 7 hτ (by kernel_rfl) ?_
        refine CH.endk ⟨[(4, bV false)], [], 432⟩ (by kernel_rfl) (by kernel_rfl) rfl ?_
        refine X.ret ?_
        exact ⟨trivial, _, _, ⟨false, (by simp_all [sameT]), rfl, rfl⟩, .inl (Ret.mk' [] (by kernel_rfl) (by kernel_rfl) (by kernel_rfl))⟩
    · refine CH.alt 9 (sV (.bool ((q.f0 == r.f0)))) (sV (.bool false)) (by kernel_rfl) (by rw [hb1]) ?_
      refine CH.alt 10 (sV (.bool ((q.f0 == r.f0)))) (sV (.bool false)) (by kernel_rfl) (by rw [hb1]) ?_
      replace hb1 := beq_eq_false_iff_ne.1 (hb1)
      refine CH.go 14 hτ (by kernel_rfl) ?_
      refine CH.endk ⟨[(4, bV false)], [], 432⟩ (by kernel_rfl) (by kernel_rfl) rfl ?_
      refine X.ret ?_
      exact ⟨trivial, _, _, ⟨false, (by simp_all [sameT]), rfl, rfl⟩, .inl (Ret.mk' [] (by kernel_rfl) (by kernel_rfl) (by kernel_rfl))⟩
  obtain ⟨_, _, ⟨r0, q1, rfl, rfl⟩, hf⟩ := key
  exact ⟨r0, q1, hf⟩

theorem i_SameBlock (a : S59) (b : S59) (ha : Sm59 a) (hb : Sm59 b) : ∃ r0 : Bool, (r0 = sameB a b) ∧ Fn Try.prog 44 [.e (.agg (cD (d59 a))), .e (.agg (cD (d59 b)))] (lookH []) (bV r0) (lookH []) := by
  have key : ∃ x' h', ((fun x' h' => ∃ r0 : Bool, (r0 = sameB a b) ∧ x' = bV r0 ∧ h' = [])) x' h' ∧ Fn Try.prog 44 [.e (.agg (cD (d59 a))), .e (.agg (cD (d59 b)))] (lookH []) x' (lookH h') := by
    refine Fn.bodyX (N := 71) hτ Try.func44 rfl rfl rfl rfl ?_
    refine X.seq ?_
    refine X.rk ⟨[(2, .pt 64 0 0), (3, .pt 80 0 0)], [(64, some (.box (cD (d59 a)))), (80, some (.box (cD (d59 b))))], 112⟩ hτ hmix (by kernel_rfl) (by kernel_rfl) rfl ?_
    refine X.seq ?_
    refine X.seq ?_
    refine X.rs 6 hτ hmix (by kernel_rfl) ?_
    rcases Bool.eq_false_or_eq_true ((a.f0 != b.f0)) with hb1 | hb1
    · refine CH.alt 9 (sV (.bool ((a.f0 != b.f0)))) (sV (.bool true)) (by kernel_rfl) (by rw [hb1]) ?_
      refine CH.alt 10 (sV (.bool ((a.f0 != b.f0)))) (sV (.bool true)) (by kernel_rfl) (by rw [hb1]) ?_
      replace hb1 := bne_iff_ne.1 (hb1)
      refine CH.go 34 hτ (by kernel_rfl) ?_
      refine CH.endk ⟨[(2, .pt 64 0 0), (3, .pt 80 0 0), (44, bV true)], [(64, some (.box (cD (d59 a)))), (80, some (.box (cD (d59 b))))], 752⟩ (by kernel_rfl) (by kernel_rfl) rfl ?_
      refine X.ifT (by kernel_rfl) ?_
      refine X.seq ?_
      refine X.rk ⟨[(4, bV false)], [], 768⟩ hτ hmix (by kernel_rfl) (by kernel_rfl) rfl ?_
      refine X.ret ?_
      exact ⟨trivial, _, _, ⟨false, (by simp_all [sameB]), rfl, rfl⟩, .inl (Ret.mk' [] (by kernel_rfl) (by kernel_rfl) (by kernel_rfl))⟩
    · refine CH.alt 9 (sV (.bool ((a.f0 != b.f0)))) (sV (.bool false)) (by kernel_rfl) (by rw [hb1]) ?_
      refine CH.alt 10 (sV (.bool ((a.f0 != b.f0)))) (sV (.bool false)) (by kernel_rfl) (by rw [hb1]) ?_
      replace hb1 := bne_eq_false_iff_eq.1 (hb1)
      refine CH.go 7 hτ (by kernel_rfl) ?_
      rcases Bool.eq_false_or_eq_true ((a.f1 != b.f1)) with hb2 | hb2
      · refine CH.alt 15 (sV (.bool ((a.f1 != b.f1)))) (sV (.bool true)) (by kernel_rfl) (by rw [hb2]) ?_
        refine CH.alt 16 (sV (.bool ((a.f1 != b.f1)))) (sV (.bool true)) (by kernel_rfl) (by rw [hb2]) ?_
        refine CH.alt 17 (sV (.bool ((a.f1 != b.f1)))) (sV (.bool true)) (by kernel_rfl) (by rw [hb2]) ?_
        replace hb2 := bne_iff_ne.1 (hb2)
        refine CH.go 27 hτ (by kernel_rfl) ?_
        refine CH.endk ⟨[(2, .pt 64 0 0), (3, .pt 80 0 0), (44, bV true)], [(64, some (.box (cD (d59 a)))), (80, some (.box (cD (d59 b))))], 752⟩ (by kernel_rfl) (by kernel_rfl) rfl ?_
        refine X.ifT (by kernel_rfl) ?_
        refine X.seq ?_
        refine X.rk ⟨[(4, bV false)], [], 768⟩ hτ hmix (by kernel_rfl) (by kernel_rfl) rfl ?_
        refine X.ret ?_
        exact ⟨trivial, _, _, ⟨false, (by simp_all [sameB]), rfl, rfl⟩, .inl (Ret.mk' [] (by kernel_rfl) (by kernel_rfl) (by kernel_rfl))⟩
      · refine CH.alt 15 (sV (.bool ((a.f1 != b.f1)))) (sV (.bool false)) (by kernel_rfl) (by rw [hb2]) ?_
        refine CH.alt 16 (sV (.bool ((a.f1 != b.f1)))) (sV (.bool false)) (by kernel_rfl) (by rw [hb2]) ?_
        refine CH.alt 17 (sV (.bool ((a.f1 != b.f1)))) (sV (.bool false)) (by kernel_rfl) (by rw [hb2]) ?_
        replace hb2 := bne_eq_false_iff_eq.1 (hb2)
        refine CH.go 7 hτ (by kernel_rfl) ?_
        rcases Bool.eq_false_or_eq_true ((a.f2 != b.f2)) with hb3 | hb3
        · refine CH.alt 22 (sV (.bool ((a.f2 != b.f2)))) (sV (.bool true)) (by kernel_rfl) (by rw [hb3]) ?_
          refine CH.alt 23 (sV (.bool ((a.f2 != b.f2)))) (sV (.bool true)) (by kernel_rfl) (by rw [hb3]) ?_
          refine CH.alt 24 (sV (.bool ((a.f2 != b.f2)))) (sV (.bool true)) (by kernel_rfl) (by rw [hb3]) ?_
          replace hb3 := bne_iff_ne.1 (hb3)
          refine CH.go 20 hτ (by kernel_rfl) ?_
          refine CH.endk ⟨[(2, .pt 64 0 0), (3, .pt 80 0 0), (44, bV true)], [(64, some (.box (cD (d59 a)))), (80, some (.box (cD (d59 b))))], 752⟩ (by kernel_rfl) (by kernel_rfl) rfl ?_
          refine X.ifT (by kernel_rfl) ?_
          refine X.seq ?_
          refine X.rk ⟨[(4, bV false)], [], 768⟩ hτ hmix (by kernel_rfl) (by kernel_rfl) rfl ?_
          refine X.ret ?_
          exact ⟨trivial, _, _, ⟨false, (by simp_all [sameB]), rfl, rfl⟩, .inl (Ret.mk' [] (by kernel_rfl) (by kernel_rfl) (by kernel_rfl))⟩
        · refine CH.alt 22 (sV (.bool ((a.f2 != b.f2)))) (sV (.bool false)) (by kernel_rfl) (by rw [hb3]) ?_
          refine CH.alt 23 (sV (.bool ((a.f2 != b.f2)))) (sV (.bool false)) (by kernel_rfl) (by rw [hb3]) ?_
          refine CH.alt 24 (sV (.bool ((a.f2 != b.f2)))) (sV (.bool false)) (by kernel_rfl) (by rw [hb3]) ?_
          replace hb3 := bne_eq_false_iff_eq.1 (hb3)
          refine CH.go 7 hτ (by kernel_rfl) ?_
          rcases Bool.eq_false_or_eq_true (!(a.f3.toList == b.f3.toList)) with hb4 | hb4
          · refine CH.alt 29 (sV (.bool (!(a.f3.toList == b.f3.toList)))) (sV (.bool true)) (by kernel_rfl) (by rw [hb4]) ?_
            refine CH.alt 30 (sV (.bool (!(a.f3.toList == b.f3.toList)))) (sV (.bool true)) (by kernel_rfl) (by rw [hb4]) ?_
            refine CH.alt 31 (sV (.bool (!(a.f3.toList == b.f3.toList)))) (sV (.bool true)) (by kernel_rfl) (by rw [hb4]) ?_
            replace hb4 := beq_no (bnot_yes (hb4))
            refine CH.go 13 hτ (by kernel_rfl) ?_
            refine CH.endk ⟨[(2, .pt 64 0 0), (3, .pt 80 0 0), (44, bV true)], [(64, some (.box (cD (d59 a)))), (80, some (.box (cD (d59 b))))], 752⟩ (by kernel_rfl) (by kernel_rfl) rfl ?_
            refine X.ifT (by kernel_rfl) ?_
            refine X.seq ?_
            refine X.rk ⟨[(4, bV false)], [], 768⟩ hτ hmix (by kernel_rfl) (by kernel_rfl) rfl ?_
            refine X.ret ?_
            exact ⟨trivial, _, _, ⟨false, (by simp_all [sameB]), rfl, rfl⟩, .inl (Ret.mk' [] (by kernel_rfl) (by kernel_rfl) (by kernel_rfl))⟩
          · refine CH.alt 29 (sV (.bool (!(a.f3.toList == b.f3.toList)))) (sV (.bool false)) (by kernel_rfl) (by rw [hb4]) ?_
            refine CH.alt 30 (sV (.bool (!(a.f3.toList == b.f3.toList)))) (sV (.bool false)) (by kernel_rfl) (by rw [hb4]) ?_
            refine CH.alt 31 (sV (.bool (!(a.f3.toList == b.f3.toList)))) (sV (.bool false)) (by kernel_rfl) (by rw [hb4]) ?_
            replace hb4 := beq_yes (bnot_no (hb4))
            refine CH.go 4 hτ (by kernel_rfl) ?_
            refine CH.eqB (t := 4) (ng := true) (a := a.f7) (b := b.f7) (by kernel_rfl) (by kernel_rfl) Try.underlying4 ?_
            refine CH.go 2 hτ (by kernel_rfl) ?_
            rcases Bool.eq_false_or_eq_true (!(a.f7 == b.f7)) with hb5 | hb5
            · refine CH.alt 36 (sV (.bool (!(a.f7 == b.f7)))) (sV (.bool true)) (by kernel_rfl) (by rw [hb5]) ?_
              refine CH.alt 37 (sV (.bool (!(a.f7 == b.f7)))) (sV (.bool true)) (by kernel_rfl) (by rw [hb5]) ?_
              refine CH.alt 38 (sV (.bool (!(a.f7 == b.f7)))) (sV (.bool true)) (by kernel_rfl) (by rw [hb5]) ?_
              replace hb5 := beq_eq_false_iff_ne.1 (bnot_yes (hb5))
              refine CH.go 6 hτ (by kernel_rfl) ?_
              refine CH.endk ⟨[(2, .pt 64 0 0), (3, .pt 80 0 0), (44, bV true)], [(64, some (.box (cD (d59 a)))), (80, some (.box (cD (d59 b))))], 752⟩ (by kernel_rfl) (by kernel_rfl) rfl ?_
              refine X.ifT (by kernel_rfl) ?_
              refine X.seq ?_
              refine X.rk ⟨[(4, bV false)], [], 768⟩ hτ hmix (by kernel_rfl) (by kernel_rfl) rfl ?_
              refine X.ret ?_
              exact ⟨trivial, _, _, ⟨false, (by simp_all [sameB]), rfl, rfl⟩, .inl (Ret.mk' [] (by kernel_rfl) (by kernel_rfl) (by kernel_rfl))⟩
            · refine CH.alt 36 (sV (.bool (!(a.f7 == b.f7)))) (sV (.bool false)) (by kernel_rfl) (by rw [hb5]) ?_
              refine CH.alt 37 (sV (.bool (!(a.f7 == b.f7)))) (sV (.bool false)) (by kernel_rfl) (by rw [hb5]) ?_
              refine CH.alt 38 (sV (.bool (!(a.f7 == b.f7)))) (sV (.bool false)) (by kernel_rfl) (by rw [hb5]) ?_
              replace hb5 := eq_of_beq (bnot_no (hb5))
              refine CH.go 6 hτ (by kernel_rfl) ?_
              refine CH.endk ⟨[(2, .pt 64 0 0), (3, .pt 80 0 0), (44, bV (!(a.f9.toList == b.f9.toList)))], [(64, some (.box (cD (d59 a)))), (80, some (.box (cD (d59 b))))], 752⟩ (by kernel_rfl) (by kernel_rfl) rfl ?_
              refine X.if_ (b := !(a.f9.toList == b.f9.toList)) (by kernel_rfl) (fun hb6 => ?_) (fun hb6 => ?_)
              · replace hb6 := beq_no (bnot_yes (hb6))
                refine X.seq ?_
                refine X.rk ⟨[(4, bV false)], [], 768⟩ hτ hmix (by kernel_rfl) (by kernel_rfl) rfl ?_
                refine X.ret ?_
                exact ⟨trivial, _, _, ⟨false, (by simp_all [sameB]), rfl, rfl⟩, .inl (Ret.mk' [] (by kernel_rfl) (by kernel_rfl) (by kernel_rfl))⟩
              · replace hb6 := beq_yes (bnot_no (hb6))
                refine X.skip ?_
                refine X.seq ?_
                refine X.rs 4 hτ hmix (by kernel_rfl) ?_
                obtain ⟨r7, hr9, hf8⟩ := i_sameQc a.f4 b.f4 (by exact ha.2.1.1) (by exact hb.2.1.1)
                replace hr9 := hr9.symm; subst hr9
                refine CH.call hf8 Try.func98 ⟨rfl, rfl⟩ [] (by kernel_rfl) (by kernel_rfl) (by kernel_rfl) (by kernel_rfl) ?_
                refine CH.go 1 hτ (by kernel_rfl) ?_
                rcases Bool.eq_false_or_eq_true ((sameQ a.f4 b.f4)) with hb11 | hb11
                · refine CH.alt 49 (sV (.bool ((sameQ a.f4 b.f4)))) (sV (.bool true)) (by kernel_rfl) (by rw [hb11]) ?_
                  refine CH.alt 50 (sV (.bool ((sameQ a.f4 b.f4)))) (sV (.bool true)) (by kernel_rfl) (by rw [hb11]) ?_
                  refine CH.go 4 hτ (by kernel_rfl) ?_
                  obtain ⟨r12, hr14, hf13⟩ := i_sameTc a.f5 b.f5 (by exact ha.2.2.1.1.1) (by exact ha.2.2.1.2) (by exact hb.2.2.1.1.1) (by exact hb.2.2.1.2)
                  replace hr14 := hr14.symm; subst hr14
                  refine CH.call hf13 Try.func99 ⟨rfl, rfl⟩ [] (by kernel_rfl) (by kernel_rfl) (by kernel_rfl) (by kernel_rfl) ?_
                  refine CH.go 2 hτ (by kernel_rfl) ?_
                  rcases Bool.eq_false_or_eq_true ((sameT a.f5 b.f5)) with hb16 | hb16
                  · refine CH.alt 55 (sV (.bool ((sameT a.f5 b.f5)))) (sV (.bool true)) (by kernel_rfl) (by rw [hb16]) ?_
                    refine CH.alt 56 (sV (.bool ((sameT a.f5 b.f5)))) (sV (.bool true)) (by kernel_rfl) (by rw [hb16]) ?_
                    refine CH.alt 57 (sV (.bool ((sameT a.f5 b.f5)))) (sV (.bool true)) (by kernel_rfl) (by rw [hb16]) ?_
                    refine CH.go 4 hτ (by kernel_rfl) ?_
                    obtain ⟨r17, hr19, hf18⟩ := i_eqTx a.f6 b.f6 (by exact ha.2.2.2.1.1) (by exact hb.2.2.2.1.1)
                    replace hr19 := hr19.symm; subst hr19
                    refine CH.call hf18 Try.func100 ⟨rfl, rfl⟩ [] (by kernel_rfl) (by kernel_rfl) (by kernel_rfl) (by kernel_rfl) ?_
                    refine CH.go 2 hτ (by kernel_rfl) ?_
                    rcases Bool.eq_false_or_eq_true ((allEq a.f6 b.f6)) with hb21 | hb21
                    · refine CH.alt 62 (sV (.bool ((allEq a.f6 b.f6)))) (sV (.bool true)) (by kernel_rfl) (by rw [hb21]) ?_
                      refine CH.alt 63 (sV (.bool ((allEq a.f6 b.f6)))) (sV (.bool true)) (by kernel_rfl) (by rw [hb21]) ?_
                      refine CH.alt 64 (sV (.bool ((allEq a.f6 b.f6)))) (sV (.bool true)) (by kernel_rfl) (by rw [hb21]) ?_
                      refine CH.go 4 hτ (by kernel_rfl) ?_
                      obtain ⟨r22, hr24, hf23⟩ := i_eqVal a.f8 b.f8 (by exact ha.2.2.2.2.1.1) (by exact hb.2.2.2.2.1.1)
                      replace hr24 := hr24.symm; subst hr24
                      refine CH.call hf23 Try.func101 ⟨rfl, rfl⟩ [] (by kernel_rfl) (by kernel_rfl) (by kernel_rfl) (by kernel_rfl) ?_
                      refine CH.go 2 hτ (by kernel_rfl) ?_
                      refine CH.endk ⟨[(4, bV (allEq a.f8 b.f8))], [], 1184⟩ (by kernel_rfl) (by kernel_rfl) rfl ?_
                      refine X.ret ?_
                      exact ⟨trivial, _, _, ⟨(allEq a.f8 b.f8), (by simp_all [sameB]), rfl, rfl⟩, .inl (Ret.mk' [] (by kernel_rfl) (by kernel_rfl) (by kernel_rfl))⟩
                    · refine CH.alt 62 (sV (.bool ((allEq a.f6 b.f6)))) (sV (.bool false)) (by kernel_rfl) (by rw [hb21]) ?_
                      refine CH.alt 63 (sV (.bool ((allEq a.f6 b.f6)))) (sV (.bool false)) (by kernel_rfl) (by rw [hb21]) ?_
                      refine CH.alt 64 (sV (.bool ((allEq a.f6 b.f6)))) (sV (.bool false)) (by kernel_rfl) (by rw [hb21]) ?_
                      refine CH.go 7 hτ (by kernel_rfl) ?_
                      refine CH.endk ⟨[(4, bV false)], [], 1184⟩ (by kernel_rfl) (by kernel_rfl) rfl ?_
                      refine X.ret ?_
                      exact ⟨trivial, _, _, ⟨false, (by simp_all [sameB]), rfl, rfl⟩, .inl (Ret.mk' [] (by kernel_rfl) (by kernel_rfl) (by kernel_rfl))⟩
                  · refine CH.alt 55 (sV (.bool ((sameT a.f5 b.f5)))) (sV (.bool false)) (by kernel_rfl) (by rw [hb16]) ?_
                    refine CH.alt 56 (sV (.bool ((sameT a.f5 b.f5)))) (sV (.bool false)) (by kernel_rfl) (by rw [hb16]) ?_
                    refine CH.alt 57 (sV (.bool ((sameT a.f5 b.f5)))) (sV (.bool false)) (by kernel_rfl) (by rw [hb16]) ?_
                    refine CH.go 14 hτ (by kernel_rfl) ?_
                    refine CH.endk ⟨[(4, bV false)], [], 1184⟩ (by kernel_rfl) (by kernel_rfl) rfl ?_
                    refine X.ret ?_
                    exact ⟨trivial, _, _, ⟨false, (by simp_all [sameB]), rfl, rfl⟩, .inl (Ret.mk' [] (by kernel_rfl) (by kernel_rfl) (by kernel_rfl))⟩
                · refine CH.alt 49 (sV (.bool ((sameQ a.f4 b.f4)))) (sV (.bool false)) (by kernel_rfl) (by rw [hb11]) ?_
                  refine CH.alt 50 (sV (.bool ((sameQ a.f4 b.f4)))) (sV (.bool false)) (by kernel_rfl) (by rw [hb11]) ?_
                  refine CH.go 21 hτ (by kernel_rfl) ?_
                  refine CH.endk ⟨[(4, bV false)], [], 1184⟩ (by kernel_rfl) (by kernel_rfl) rfl ?_
                  refine X.ret ?_
                  exact ⟨trivial, _, _, ⟨false, (by simp_all [sameB]), rfl, rfl⟩, .inl (Ret.mk' [] (by kernel_rfl) (by kernel_rfl) (by kernel_rfl))⟩
  obtain ⟨_, _, ⟨r0, q1, rfl, rfl⟩, hf⟩ := key
  exact ⟨r0, q1, hf⟩

theorem i_copyBlocks (l : List S59) (hl : SmL l) : ∃ r0 : List S59, (r0 = l) ∧ Fn Try.prog 79 [lV (l.map d59)] (lookH []) (rV 64) (lookH [(64, some (.row 14 59 (r0.map d59) false true))]) := by
  have key : ∃ x' h', ((fun x' h' => ∃ r0 : List S59, (r0 = l) ∧ x' = rV 64 ∧ h' = [(64, some (.row 14 59 (r0.map d59) false true))])) x' h' ∧ Fn Try.prog 79 [lV (l.map d59)] (lookH []) x' (lookH h') := by
    refine Fn.bodyX (N := 19) hτ Try.func79 rfl rfl rfl rfl ?_
    refine X.seq ?_
    refine X.rk ⟨[(0, lV (l.map d59))], [], 80⟩ hτ hmix (by kernel_rfl) (by kernel_rfl) rfl ?_
    refine X.seq ?_
    refine X.rk ⟨[(0, lV (l.map d59)), (3, .e (.c (.nil)))], [], 96⟩ hτ hmix (by kernel_rfl) (by kernel_rfl) rfl ?_
    refine X.seq ?_
    refine X.seq ?_
    have hll := hl.1
    have el1 : (l.map d59).length = l.length := List.length_map ..
    refine X.rk ⟨[(3, .e (.c (.nil))), (6, lV (l.map d59)), (7, iV ((l.map d59).length : Int)), (8, iV 0)], [], 144⟩ hτ hmix (by kernel_rfl) (by kernel_rfl) rfl ?_
    refine X.block ?_
    refine X.weak (Wk.ownT 3 14 59 (by kernel_rfl) (by kernel_rfl) (by kernel_rfl)) ?_
    -- 3: Lv3 : List S59, v8 : Int
    refine X.loop (σ := { g : (List S59) × Int // (fun (Lv3 : List S59) (v8 : Int) => 0 ≤ v8 ∧ v8 ≤ l.length ∧ Lv3 = l.take v8.toNat) g.1 g.2 }) (fun g => (fun (Lv3 : List S59) (v8 : Int) => ⟨[(3, rV 144), (6, lV (l.map d59)), (7, iV ((l.map d59).length : Int)), (8, iV v8)], [(144, some (.row 14 59 (Lv3.map d59) false true))], 160⟩) g.1.1 g.1.2) (fun g => (fun (Lv3 : List S59) (v8 : Int) => (l.length - v8).toNat) g.1.1 g.1.2) ⟨([], 0), by simp⟩ (Wk.less (by kernel_rfl)) (fun g => ?_)
    obtain ⟨⟨Lv3, v8⟩, hg3⟩ := g
    have hg3 : 0 ≤ v8 ∧ v8 ≤ l.length ∧ Lv3 = l.take v8.toNat := hg3
    obtain ⟨_, _, hL⟩ := hg3
    refine X.seq ?_
    refine X.rk ⟨[(3, rV 144), (6, lV (l.map d59)), (7, iV ((l.map d59).length : Int)), (8, iV v8), (9, bV (decide ((v8 : Int) < ((l.map d59).length : Int))))], [(144, some (.row 14 59 (Lv3.map d59) false true))], 176⟩ hτ hmix (by kernel_rfl) (by kernel_rfl) rfl ?_
    refine X.seq ?_
    refine X.if_ (b := decide ((v8 : Int) < ((l.map d59).length : Int))) (by kernel_rfl) (fun hb4 => ?_) (fun hb4 => ?_)
    · replace hb4 := of_decide_eq_true (hb4)
      refine X.skip ?_
      refine X.seq ?_
      refine X.block ?_
      refine X.seq ?_
      refine X.rs 0 hτ hmix (by kernel_rfl) ?_
      obtain ⟨x5, hx5⟩ : ∃ x, l[Int.toNat v8]? = some x := ⟨_, List.getElem?_eq_getElem (by first | omega | (simp; done) | (simp; omega))⟩
      refine CH.idx hτ (d59 x5) (rows := (l.map d59)) (n := v8) (sz := 14) (by kernel_rfl) (by kernel_rfl) (by first | omega | (simp; done) | (simp; omega)) (by rw [List.getElem?_map, hx5]; rfl) (by kernel_rfl) ?_
      refine CH.go 3 hτ (by kernel_rfl) ?_
      refine CH.endk ⟨[(3, rV 144), (5, .pt 208 0 0), (6, lV (l.map d59)), (7, iV ((l.map d59).length : Int)), (8, iV v8)], [(144, some (.row 14 59 (Lv3.map d59) false true)), (208, some (.box (cD (d59 x5))))], 240⟩ (by kernel_rfl) (by kernel_rfl) rfl ?_
      refine X.rs 2 hτ hmix (by kernel_rfl) ?_
      obtain ⟨r6, hr8, hf7⟩ := i_copyBlock x5 (by exact hl.at ‹_›)
      replace hr8 := hr8.symm; subst hr8
      refine CH.call hf7 Try.func80 ⟨rfl, rfl⟩ [] (by kernel_rfl) (by kernel_rfl) (by kernel_rfl) (by kernel_rfl) ?_
      refine CH.go 1 hτ (by kernel_rfl) ?_
      have el10 : (Lv3.map d59).length = Lv3.length := List.length_map ..
      have el11 : (([x5] : List S59).map d59).length = ([x5] : List S59).length := List.length_map ..
      have el12 : ([x5] : List S59).length = 1 := rfl
      refine CH.app hτ (rows := (Lv3.map d59)) (rows2 := (([x5] : List S59).map d59)) (sz := 14) (bys := 208) false (by kernel_rfl) (by kernel_rfl) (fun h => by cases h) (flat_ok (f := d59) (fun x => rfl)) (by simp only [List.length_map] <;> (rw [hL]; simp; omega)) (by kernel_rfl) ?_
      refine CH.go 1 hτ (by kernel_rfl) ?_
      refine CH.endk ⟨[(3, rV 304), (6, lV (l.map d59)), (7, iV ((l.map d59).length : Int)), (8, iV v8)], [(304, some (.row 14 59 ((Lv3.map d59) ++ (([x5] : List S59).map d59)) false true))], 336⟩ (by kernel_rfl) (by kernel_rfl) (s2 := ⟨[(3, rV 304), (6, lV (l.map d59)), (7, iV ((l.map d59).length : Int)), (8, iV v8)], [(304, some (.row 14 59 ((Lv3 ++ ([x5] : List S59)).map d59) false true))], 336⟩) (congrArg (fun z : List (List D) => (⟨[(3, rV 304), (6, lV (l.map d59)), (7, iV ((l.map d59).length : Int)), (8, iV v8)], [(304, some (.row 14 59 z false true))], 336⟩ : St)) (show (Lv3.map d59) ++ (([x5] : List S59).map d59) = ((Lv3 ++ ([x5] : List S59)).map d59) from List.map_append.symm)) ?_
      refine X.rk ⟨[(3, rV 304), (6, lV (l.map d59)), (7, iV ((l.map d59).length : Int)), (8, iV (wrap64 (v8 + 1)))], [(304, some (.row 14 59 ((Lv3 ++ ([x5] : List S59)).map d59) false true))], 368⟩ hτ hmix (by kernel_rfl) (by kernel_rfl) (s2 := ⟨[(3, rV 304), (6, lV (l.map d59)), (7, iV ((l.map d59).length : Int)), (8, iV (v8 + 1))], [(304, some (.row 14 59 ((Lv3 ++ ([x5] : List S59)).map d59) false true))], 368⟩) (congrArg (fun z : Int => (⟨[(3, rV 304), (6, lV (l.map d59)), (7, iV ((l.map d59).length : Int)), (8, iV z)], [(304, some (.row 14 59 ((Lv3 ++ ([x5] : List S59)).map d59) false true))], 368⟩ : St)) (show wrap64 (v8 + 1) = (v8 + 1) by rw [w64 (n := (v8 + 1)) (by omega) (by omega)])) ?_
      refine ⟨⟨((Lv3 ++ ([x5] : List S59)), (v8 + 1)), ⟨by first | omega | (dsimp only; omega), by first | omega | (dsimp only; omega), by rw [hL]; exact take_succ (by first | omega | (dsimp only; omega)) ‹_›⟩⟩, by first | exact rfl | omega | (dsimp only; omega) | (simp only [List.length_append, List.length_cons, List.length_nil, List.length_set]; omega) | (simp; done) | (simp; omega), Wk.mk' [(144, 304)] (by kernel_rfl) (by kernel_rfl) (by kernel_rfl)⟩
    · replace hb4 := of_decide_eq_false (hb4)
      refine X.exit ?_
      refine X.seq ?_
      refine X.rk ⟨[(2, rV 144)], [(144, some (.row 14 59 (Lv3.map d59) false true))], 208⟩ hτ hmix (by kernel_rfl) (by kernel_rfl) rfl ?_
      refine X.ret ?_
      exact ⟨trivial, _, _, ⟨Lv3, by rw [hL]; exact take_all (by omega), rfl, rfl⟩, .inl (Ret.mk' [(64, 144)] (by kernel_rfl) (by kernel_rfl) (by kernel_rfl))⟩
  obtain ⟨_, _, ⟨r0, q1, rfl, rfl⟩, hf⟩ := key
  exact ⟨r0, q1, hf⟩

theorem i_insBlock (l : List S59) (i : Int) (m : List S59) (h0 : 0 ≤ i) (h1 : i ≤ (l.length : Int)) (hm : m.length = 1) (hs : l.length < 4000000) : ∃ r0 : List S59, r0 = insAt l m i.toNat ∧ Fn Try.prog 78 [.e (.c (.ref 0)), .e (.c (.d (.v (.int .i64 i)))), .e (.c (.ref 1))] (lookH [(0, some (.row 14 59 (l.map d59) false true)), (1, some (.row 14 59 (m.map d59) false true))]) (.e (.c (.ref 64))) (lookH [(64, some (.row 14 59 (r0.map d59) false true))]) := by
  obtain ⟨b, rfl⟩ := List.length_eq_one_iff.1 hm
  refine ⟨_, rfl, ?_⟩
  have h := fn_ins ins78 (by omega) (rows := l.map d59) (r := d59 b) (i := i.toNat) (nf := true) (nf2 := true) (by rw [List.length_map]; omega) rfl (by rw [List.length_map]; omega)
  rw [Int.toNat_of_nonneg h0] at h
  rw [show (insAt l [b] i.toNat).map d59 = (l.map d59).take i.toNat ++ d59 b :: (l.map d59).drop i.toNat by simp [insAt, List.map_take, List.map_drop]]
  exact h

theorem i_AddTo (l : List S59) (b : S59) (hl : SmL l) (hb : Sm59 b) (hs : l.length < 2000000) : ∃ r0 : List S59, ∃ r1 : Bool, (r0 = addR l b ∧ r1 = addOk l b) ∧ Fn Try.prog 34 [lV (l.map d59), .e (.agg (cD (d59 b)))] (lookH []) (.tup [.c (.ref 64), .c (.d (.v (.bool r1)))]) (lookH [(64, some (.row 14 59 (r0.map d59) false true))]) := by
  have key : ∃ x' h', ((fun x' h' => ∃ r0 : List S59, ∃ r1 : Bool, (r0 = addR l b ∧ r1 = addOk l b) ∧ x' = .tup [.c (.ref 64), .c (.d (.v (.bool r1)))] ∧ h' = [(64, some (.row 14 59 (r0.map d59) false true))])) x' h' ∧ Fn Try.prog 34 [lV (l.map d59), .e (.agg (cD (d59 b)))] (lookH []) x' (lookH h') := by
    refine Fn.bodyX (N := 44) hτ Try.func34 rfl rfl rfl rfl ?_
    refine X.seq ?_
    refine X.rk ⟨[(0, lV (l.map d59)), (3, .pt 64 0 0)], [(64, some (.box (cD (d59 b))))], 112⟩ hτ hmix (by kernel_rfl) (by kernel_rfl) rfl ?_
    refine X.seq ?_
    have hm := hl.1
    refine X.rk ⟨[(0, lV (l.map d59)), (3, .pt 64 0 0), (6, iV 0)], [(64, some (.box (cD (d59 b))))], 128⟩ hτ hmix (by kernel_rfl) (by kernel_rfl) rfl ?_
    refine X.seq ?_
    refine X.block ?_
    -- 2: v6 : Int
    refine X.loop (σ := { g : Int // (fun (v6 : Int) => 0 ≤ v6 ∧ v6 ≤ l.length ∧ Upto (fun _ x => x.f0 < b.f0) (fun n => l[n]?) v6) g }) (fun g => (fun (v6 : Int) => ⟨[(0, lV (l.map d59)), (3, .pt 64 0 0), (6, iV v6)], [(64, some (.box (cD (d59 b))))], 128⟩) g.1) (fun g => (fun (v6 : Int) => (l.length - v6).toNat) g.1) ⟨0, ⟨by first | omega | (dsimp only; omega), by first | omega | (dsimp only; omega), upto_zero⟩⟩ (Wk.less (by kernel_rfl)) (fun g => ?_)
    obtain ⟨v6, hg2⟩ := g
    have hg2 : 0 ≤ v6 ∧ v6 ≤ l.length ∧ Upto (fun _ x => x.f0 < b.f0) (fun n => l[n]?) v6 := hg2
    obtain ⟨_, _, hA⟩ := hg2
    refine X.seq ?_
    refine X.seq ?_
    have el3 : (l.map d59).length = l.length := List.length_map ..
    refine X.rs 5 hτ hmix (by kernel_rfl) ?_
    rcases Bool.eq_false_or_eq_true (decide ((v6 : Int) < ((l.map d59).length : Int))) with hb4 | hb4
    · refine CH.alt 11 (sV (.bool (decide ((v6 : Int) < ((l.map d59).length : Int))))) (sV (.bool true)) (by kernel_rfl) (by rw [hb4]) ?_
      refine CH.alt 12 (sV (.bool (decide ((v6 : Int) < ((l.map d59).length : Int))))) (sV (.bool true)) (by kernel_rfl) (by rw [hb4]) ?_
      replace hb4 := of_decide_eq_true (hb4)
      refine CH.go 2 hτ (by kernel_rfl) ?_
      obtain ⟨x5, hx5⟩ : ∃ x, l[Int.toNat v6]? = some x := ⟨_, List.getElem?_eq_getElem (by first | omega | (simp; done) | (simp; omega))⟩
      refine CH.idx hτ (d59 x5) (rows := (l.map d59)) (n := v6) (sz := 14) (by kernel_rfl) (by kernel_rfl) (by first | omega | (simp; done) | (simp; omega)) (by rw [List.getElem?_map, hx5]; rfl) (by kernel_rfl) ?_
      refine CH.go 6 hτ (by kernel_rfl) ?_
      refine CH.endk ⟨[(0, lV (l.map d59)), (3, .pt 64 0 0), (6, iV v6), (21, bV (decide ((x5.f0 : Int) < b.f0)))], [(64, some (.box (cD (d59 b))))], 352⟩ (by kernel_rfl) (by kernel_rfl) rfl ?_
      refine X.if_ (b := decide ((x5.f0 : Int) < b.f0)) (by kernel_rfl) (fun hb6 => ?_) (fun hb6 => ?_)
      · replace hb6 := of_decide_eq_true (hb6)
        refine X.skip ?_
        refine X.block ?_
        refine X.rk ⟨[(0, lV (l.map d59)), (3, .pt 64 0 0), (6, iV (wrap64 (v6 + 1)))], [(64, some (.box (cD (d59 b))))], 400⟩ hτ hmix (by kernel_rfl) (by kernel_rfl) (s2 := ⟨[(0, lV (l.map d59)), (3, .pt 64 0 0), (6, iV (v6 + 1))], [(64, some (.box (cD (d59 b))))], 400⟩) (congrArg (fun z : Int => (⟨[(0, lV (l.map d59)), (3, .pt 64 0 0), (6, iV z)], [(64, some (.box (cD (d59 b))))], 400⟩ : St)) (show wrap64 (v6 + 1) = (v6 + 1) by rw [w64 (n := (v6 + 1)) (by omega) (by omega)])) ?_
        refine ⟨⟨(v6 + 1), ⟨by first | omega | (dsimp only; omega), by first | omega | (dsimp only; omega), upto_nx (by first | omega | (dsimp only; omega)) hA ‹_› (‹_›)⟩⟩, by first | exact rfl | omega | (dsimp only; omega) | (simp only [List.length_append, List.length_cons, List.length_nil, List.length_set]; omega) | (simp; done) | (simp; omega), Wk.mk' [(64, 64)] (by kernel_rfl) (by kernel_rfl) (by kernel_rfl)⟩
      · replace hb6 := of_decide_eq_false (hb6)
        refine X.exit ?_
        refine X.seq ?_
        have hat := at_is (by omega) (by omega) hA (by first | exact .inl (by omega) | exact .inr ⟨_, ‹_›, ‹_›⟩)
        have hil := (congrArg List.length hat).trans (ins_len atOf_le)
        refine X.rs 1 hτ hmix (by kernel_rfl) ?_
        obtain ⟨r7, hr9, hf8⟩ := i_copyBlocks l (by assumption)
        replace hr9 := hr9.symm; subst hr9
        refine CH.call hf8 Try.func79 ⟨rfl, rfl⟩ [] (by kernel_rfl) (by kernel_rfl) (by kernel_rfl) (by kernel_rfl) ?_
        refine CH.go 2 hτ (by kernel_rfl) ?_
        obtain ⟨r11, hr13, hf12⟩ := i_copyBlock b (by assumption)
        replace hr13 := hr13.symm; subst hr13
        refine CH.call hf12 Try.func80 ⟨rfl, rfl⟩ [] (by kernel_rfl) (by kernel_rfl) (by kernel_rfl) (by kernel_rfl) ?_
        refine CH.go 1 hτ (by kernel_rfl) ?_
        obtain ⟨r15, hr17, hf16⟩ := i_insBlock l v6 ([b] : List S59) (by first | omega | (simp; done) | (simp; omega)) (by first | omega | (simp; done) | (simp; omega)) (by rfl) (by first | omega | (simp; done) | (simp; omega))
        replace hr17 := hr17.symm; subst hr17
        refine CH.call hf16 Try.func78 ⟨rfl, rfl⟩ [(368, 0), (432, 1)] (by kernel_rfl) (by kernel_rfl) (by kernel_rfl) (by kernel_rfl) ?_
        refine CH.go 1 hτ (by kernel_rfl) ?_
        refine CH.endk ⟨[(0, lV (l.map d59)), (3, .pt 64 0 0), (7, rV 448)], [(64, some (.box (cD (d59 b)))), (448, some (.row 14 59 ((insAt l ([b] : List S59) (Int.toNat v6)).map d59) false true))], 480⟩ (by kernel_rfl) (by kernel_rfl) rfl ?_
        refine X.seq ?_
        refine X.seq ?_
        refine X.rs 3 hτ hmix (by kernel_rfl) ?_
        obtain ⟨r19, hr21, hf20⟩ := i_blockAt l b.f0 (by omega)
        replace hr21 := hr21.symm; subst hr21
        have hid := idAt_bd l b.f0
        refine CH.call hf20 Try.func56 ⟨rfl, rfl⟩ [] (by kernel_rfl) (by kernel_rfl) (by kernel_rfl) (by kernel_rfl) ?_
        refine CH.go 2 hτ (by kernel_rfl) ?_
        rcases Bool.eq_false_or_eq_true (decide (((idAt l b.f0) : Int) ≥ 0)) with hb23 | hb23
        · refine CH.alt 35 (sV (.bool (decide (((idAt l b.f0) : Int) ≥ 0)))) (sV (.bool true)) (by kernel_rfl) (by rw [hb23]) ?_
          refine CH.alt 36 (sV (.bool (decide (((idAt l b.f0) : Int) ≥ 0)))) (sV (.bool true)) (by kernel_rfl) (by rw [hb23]) ?_
          replace hb23 := of_decide_eq_true (hb23)
          refine CH.go 4 hτ (by kernel_rfl) ?_
          refine CH.endk ⟨[(0, lV (l.map d59)), (7, rV 448), (40, bV true)], [(448, some (.row 14 59 ((insAt l ([b] : List S59) (Int.toNat v6)).map d59) false true))], 640⟩ (by kernel_rfl) (by kernel_rfl) rfl ?_
          refine X.ifT (by kernel_rfl) ?_
          refine X.seq ?_
          refine X.rs 1 hτ hmix (by kernel_rfl) ?_
          obtain ⟨r24, hr26, hf25⟩ := i_copyBlocks l (by assumption)
          replace hr26 := hr26.symm; subst hr26
          refine CH.call hf25 Try.func79 ⟨rfl, rfl⟩ [] (by kernel_rfl) (by kernel_rfl) (by kernel_rfl) (by kernel_rfl) ?_
          refine CH.go 2 hτ (by kernel_rfl) ?_
          refine CH.endk ⟨[(4, rV 656), (5, bV false)], [(656, some (.row 14 59 (l.map d59) false true))], 704⟩ (by kernel_rfl) (by kernel_rfl) rfl ?_
          refine X.ret ?_
          exact ⟨trivial, _, _, ⟨l, false, (by first | exact add_no ‹_› | exact add_bad hat ‹_› | exact add_good hat ‹_› ‹_›), rfl, rfl⟩, .inl (Ret.mk' [(64, 656)] (by kernel_rfl) (by kernel_rfl) (by kernel_rfl))⟩
        · refine CH.alt 35 (sV (.bool (decide (((idAt l b.f0) : Int) ≥ 0)))) (sV (.bool false)) (by kernel_rfl) (by rw [hb23]) ?_
          refine CH.alt 36 (sV (.bool (decide (((idAt l b.f0) : Int) ≥ 0)))) (sV (.bool false)) (by kernel_rfl) (by rw [hb23]) ?_
          replace hb23 := of_decide_eq_false (hb23)
          refine CH.go 1 hτ (by kernel_rfl) ?_
          obtain ⟨r28, hr30, hf29⟩ := i_TreeOk (insAt l ([b] : List S59) (Int.toNat v6)) (by rw [hat]; exact addTo_sm hl hb hs)
          replace hr30 := hr30.symm; subst hr30
          refine CH.call hf29 Try.func22 ⟨rfl, rfl⟩ [] (by kernel_rfl) (by kernel_rfl) (by kernel_rfl) (by kernel_rfl) ?_
          refine CH.go 2 hτ (by kernel_rfl) ?_
          refine CH.endk ⟨[(0, lV (l.map d59)), (7, rV 448), (40, bV (!(treeOk (insAt l ([b] : List S59) (Int.toNat v6)))))], [(448, some (.row 14 59 ((insAt l ([b] : List S59) (Int.toNat v6)).map d59) false true))], 640⟩ (by kernel_rfl) (by kernel_rfl) rfl ?_
          refine X.if_ (b := !(treeOk (insAt l ([b] : List S59) (Int.toNat v6)))) (by kernel_rfl) (fun hb32 => ?_) (fun hb32 => ?_)
          · replace hb32 := bnot_yes (hb32)
            refine X.seq ?_
            refine X.rs 1 hτ hmix (by kernel_rfl) ?_
            obtain ⟨r33, hr35, hf34⟩ := i_copyBlocks l (by assumption)
            replace hr35 := hr35.symm; subst hr35
            refine CH.call hf34 Try.func79 ⟨rfl, rfl⟩ [] (by kernel_rfl) (by kernel_rfl) (by kernel_rfl) (by kernel_rfl) ?_
            refine CH.go 2 hτ (by kernel_rfl) ?_
            refine CH.endk ⟨[(4, rV 656), (5, bV false)], [(656, some (.row 14 59 (l.map d59) false true))], 704⟩ (by kernel_rfl) (by kernel_rfl) rfl ?_
            refine X.ret ?_
            exact ⟨trivial, _, _, ⟨l, false, (by first | exact add_no ‹_› | exact add_bad hat ‹_› | exact add_good hat ‹_› ‹_›), rfl, rfl⟩, .inl (Ret.mk' [(64, 656)] (by kernel_rfl) (by kernel_rfl) (by kernel_rfl))⟩
          · replace hb32 := bnot_no (hb32)
            refine X.skip ?_
            refine X.seq ?_
            refine X.rk ⟨[(4, rV 448), (5, bV true)], [(448, some (.row 14 59 ((insAt l ([b] : List S59) (Int.toNat v6)).map d59) false true))], 688⟩ hτ hmix (by kernel_rfl) (by kernel_rfl) rfl ?_
            refine X.ret ?_
            exact ⟨trivial, _, _, ⟨(insAt l ([b] : List S59) (Int.toNat v6)), true, (by first | exact add_no ‹_› | exact add_bad hat ‹_› | exact add_good hat ‹_› ‹_›), rfl, rfl⟩, .inl (Ret.mk' [(64, 448)] (by kernel_rfl) (by kernel_rfl) (by kernel_rfl))⟩
    · refine CH.alt 11 (sV (.bool (decide ((v6 : Int) < ((l.map d59).length : Int))))) (sV (.bool false)) (by kernel_rfl) (by rw [hb4]) ?_
      refine CH.alt 12 (sV (.bool (decide ((v6 : Int) < ((l.map d59).length : Int))))) (sV (.bool false)) (by kernel_rfl) (by rw [hb4]) ?_
      replace hb4 := of_decide_eq_false (hb4)
      refine CH.go 9 hτ (by kernel_rfl) ?_
      refine CH.endk ⟨[(0, lV (l.map d59)), (3, .pt 64 0 0), (6, iV v6), (21, bV false)], [(64, some (.box (cD (d59 b))))], 352⟩ (by kernel_rfl) (by kernel_rfl) rfl ?_
      refine X.ifF (by kernel_rfl) ?_
      refine X.exit ?_
      refine X.seq ?_
      have hat := at_is (by omega) (by omega) hA (by first | exact .inl (by omega) | exact .inr ⟨_, ‹_›, ‹_›⟩)
      have hil := (congrArg List.length hat).trans (ins_len atOf_le)
      refine X.rs 1 hτ hmix (by kernel_rfl) ?_
      obtain ⟨r37, hr39, hf38⟩ := i_copyBlocks l (by assumption)
      replace hr39 := hr39.symm; subst hr39
      refine CH.call hf38 Try.func79 ⟨rfl, rfl⟩ [] (by kernel_rfl) (by kernel_rfl) (by kernel_rfl) (by kernel_rfl) ?_
      refine CH.go 2 hτ (by kernel_rfl) ?_
      obtain ⟨r41, hr43, hf42⟩ := i_copyBlock b (by assumption)
      replace hr43 := hr43.symm; subst hr43
      refine CH.call hf42 Try.func80 ⟨rfl, rfl⟩ [] (by kernel_rfl) (by kernel_rfl) (by kernel_rfl) (by kernel_rfl) ?_
      refine CH.go 1 hτ (by kernel_rfl) ?_
      obtain ⟨r45, hr47, hf46⟩ := i_insBlock l v6 ([b] : List S59) (by first | omega | (simp; done) | (simp; omega)) (by first | omega | (simp; done) | (simp; omega)) (by rfl) (by first | omega | (simp; done) | (simp; omega))
      replace hr47 := hr47.symm; subst hr47
      refine CH.call hf46 Try.func78 ⟨rfl, rfl⟩ [(368, 0), (432, 1)] (by kernel_rfl) (by kernel_rfl) (by kernel_rfl) (by kernel_rfl) ?_
      refine CH.go 1 hτ (by kernel_rfl) ?_
      refine CH.endk ⟨[(0, lV (l.map d59)), (3, .pt 64 0 0), (7, rV 448)], [(64, some (.box (cD (d59 b)))), (448, some (.row 14 59 ((insAt l ([b] : List S59) (Int.toNat v6)).map d59) false true))], 480⟩ (by kernel_rfl) (by kernel_rfl) rfl ?_
      refine X.seq ?_
      refine X.seq ?_
      refine X.rs 3 hτ hmix (by kernel_rfl) ?_
      obtain ⟨r49, hr51, hf50⟩ := i_blockAt l b.f0 (by omega)
      replace hr51 := hr51.symm; subst hr51
      have hid := idAt_bd l b.f0
      refine CH.call hf50 Try.func56 ⟨rfl, rfl⟩ [] (by kernel_rfl) (by kernel_rfl) (by kernel_rfl) (by kernel_rfl) ?_
      refine CH.go 2 hτ (by kernel_rfl) ?_
      rcases Bool.eq_false_or_eq_true (decide (((idAt l b.f0) : Int) ≥ 0)) with hb53 | hb53
      · refine CH.alt 35 (sV (.bool (decide (((idAt l b.f0) : Int) ≥ 0)))) (sV (.bool true)) (by kernel_rfl) (by rw [hb53]) ?_
        refine CH.alt 36 (sV (.bool (decide (((idAt l b.f0) : Int) ≥ 0)))) (sV (.bool true)) (by kernel_rfl) (by rw [hb53]) ?_
        replace hb53 := of_decide_eq_true (hb53)
        refine CH.go 4 hτ (by kernel_rfl) ?_
        refine CH.endk ⟨[(0, lV (l.map d59)), (7, rV 448), (40, bV true)], [(448, some (.row 14 59 ((insAt l ([b] : List S59) (Int.toNat v6)).map d59) false true))], 640⟩ (by kernel_rfl) (by kernel_rfl) rfl ?_
        refine X.ifT (by kernel_rfl) ?_
        refine X.seq ?_
        refine X.rs 1 hτ hmix (by kernel_rfl) ?_
        obtain ⟨r54, hr56, hf55⟩ := i_copyBlocks l (by assumption)
        replace hr56 := hr56.symm; subst hr56
        refine CH.call hf55 Try.func79 ⟨rfl, rfl⟩ [] (by kernel_rfl) (by kernel_rfl) (by kernel_rfl) (by kernel_rfl) ?_
        refine CH.go 2 hτ (by kernel_rfl) ?_
        refine CH.endk ⟨[(4, rV 656), (5, bV false)], [(656, some (.row 14 59 (l.map d59) false true))], 704⟩ (by kernel_rfl) (by kernel_rfl) rfl ?_
        refine X.ret ?_
        exact ⟨trivial, _, _, ⟨l, false, (by first | exact add_no ‹_› | exact add_bad hat ‹_› | exact add_good hat ‹_› ‹_›), rfl, rfl⟩, .inl (Ret.mk' [(64, 656)] (by kernel_rfl) (by kernel_rfl) (by kernel_rfl))⟩
      · refine CH.alt 35 (sV (.bool (decide (((idAt l b.f0) : Int) ≥ 0)))) (sV (.bool false)) (by kernel_rfl) (by rw [hb53]) ?_
        refine CH.alt 36 (sV (.bool (decide (((idAt l b.f0) : Int) ≥ 0)))) (sV (.bool false)) (by kernel_rfl) (by rw [hb53]) ?_
        replace hb53 := of_decide_eq_false (hb53)
        refine CH.go 1 hτ (by kernel_rfl) ?_
        obtain ⟨r58, hr60, hf59⟩ := i_TreeOk (insAt l ([b] : List S59) (Int.toNat v6)) (by rw [hat]; exact addTo_sm hl hb hs)
        replace hr60 := hr60.symm; subst hr60
        refine CH.call hf59 Try.func22 ⟨rfl, rfl⟩ [] (by kernel_rfl) (by kernel_rfl) (by kernel_rfl) (by kernel_rfl) ?_
        refine CH.go 2 hτ (by kernel_rfl) ?_
        refine CH.endk ⟨[(0, lV (l.map d59)), (7, rV 448), (40, bV (!(treeOk (insAt l ([b] : List S59) (Int.toNat v6)))))], [(448, some (.row 14 59 ((insAt l ([b] : List S59) (Int.toNat v6)).map d59) false true))], 640⟩ (by kernel_rfl) (by kernel_rfl) rfl ?_
        refine X.if_ (b := !(treeOk (insAt l ([b] : List S59) (Int.toNat v6)))) (by kernel_rfl) (fun hb62 => ?_) (fun hb62 => ?_)
        · replace hb62 := bnot_yes (hb62)
          refine X.seq ?_
          refine X.rs 1 hτ hmix (by kernel_rfl) ?_
          obtain ⟨r63, hr65, hf64⟩ := i_copyBlocks l (by assumption)
          replace hr65 := hr65.symm; subst hr65
          refine CH.call hf64 Try.func79 ⟨rfl, rfl⟩ [] (by kernel_rfl) (by kernel_rfl) (by kernel_rfl) (by kernel_rfl) ?_
          refine CH.go 2 hτ (by kernel_rfl) ?_
          refine CH.endk ⟨[(4, rV 656), (5, bV false)], [(656, some (.row 14 59 (l.map d59) false true))], 704⟩ (by kernel_rfl) (by kernel_rfl) rfl ?_
          refine X.ret ?_
          exact ⟨trivial, _, _, ⟨l, false, (by first | exact add_no ‹_› | exact add_bad hat ‹_› | exact add_good hat ‹_› ‹_›), rfl, rfl⟩, .inl (Ret.mk' [(64, 656)] (by kernel_rfl) (by kernel_rfl) (by kernel_rfl))⟩
        · replace hb62 := bnot_no (hb62)
          refine X.skip ?_
          refine X.seq ?_
          refine X.rk ⟨[(4, rV 448), (5, bV true)], [(448, some (.row 14 59 ((insAt l ([b] : List S59) (Int.toNat v6)).map d59) false true))], 688⟩ hτ hmix (by kernel_rfl) (by kernel_rfl) rfl ?_
          refine X.ret ?_
          exact ⟨trivial, _, _, ⟨(insAt l ([b] : List S59) (Int.toNat v6)), true, (by first | exact add_no ‹_› | exact add_bad hat ‹_› | exact add_good hat ‹_› ‹_›), rfl, rfl⟩, .inl (Ret.mk' [(64, 448)] (by kernel_rfl) (by kernel_rfl) (by kernel_rfl))⟩
  obtain ⟨_, _, ⟨r0, r1, q1, rfl, rfl⟩, hf⟩ := key
  exact ⟨r0, r1, q1, hf⟩

theorem s_DrawAddTo (code : List Int) (hl : code.length ≤ 4611686018427387904) : ∃ r0 : List S59, ∃ r1 : S59, (SmL r0 ∧ r0.length ≤ 90001 ∧ Sm59 r1) ∧ Fn Try.prog 43 [lV (code.map dB)] (lookH []) (.tup [.c (.f (.sl (r0.map d59))), .agg [.d (.v (.int .i64 r1.f0)), .d (.v (.int .i64 r1.f1)), .d (.v (.int .i64 r1.f2)), .d (.v (.string r1.f3)), .d (.v (.int .i64 r1.f4.f0)), .d (.v (.int .i64 r1.f4.f1)), .f (.sl (r1.f4.f2.map dS)), .d (.v (.int .i64 r1.f5.f0)), .f (.sl (r1.f5.f1.map dS)), .f (.sl (r1.f5.f2.map dI)), .f (.sl (r1.f6.map d120)), .d (.v (.bool r1.f7)), .f (.sl (r1.f8.map d122)), .d (.v (.string r1.f9))]]) (lookH []) := by
  have key : ∃ x' h', ((fun x' h' => ∃ r0 : List S59, ∃ r1 : S59, (SmL r0 ∧ r0.length ≤ 90001 ∧ Sm59 r1) ∧ x' = .tup [.c (.f (.sl (r0.map d59))), .agg [.d (.v (.int .i64 r1.f0)), .d (.v (.int .i64 r1.f1)), .d (.v (.int .i64 r1.f2)), .d (.v (.string r1.f3)), .d (.v (.int .i64 r1.f4.f0)), .d (.v (.int .i64 r1.f4.f1)), .f (.sl (r1.f4.f2.map dS)), .d (.v (.int .i64 r1.f5.f0)), .f (.sl (r1.f5.f1.map dS)), .f (.sl (r1.f5.f2.map dI)), .f (.sl (r1.f6.map d120)), .d (.v (.bool r1.f7)), .f (.sl (r1.f8.map d122)), .d (.v (.string r1.f9))]] ∧ h' = [])) x' h' ∧ Fn Try.prog 43 [lV (code.map dB)] (lookH []) x' (lookH h') := by
    refine Fn.bodyX (N := 53) hτ Try.func43 rfl rfl rfl rfl ?_
    refine X.seq ?_
    refine X.rk ⟨[(0, lV (code.map dB)), (3, .pt 80 0 0)], [(80, some (.box [.d (.v (.int .i64 0)), .d (.v (.int .i64 0)), .d (.v (.int .i64 0)), .d (.v (.string (⟨#[]⟩ : ByteArray))), .d (.v (.int .i64 0)), .d (.v (.int .i64 0)), .nil, .d (.v (.int .i64 0)), .nil, .nil, .nil, .d (.v (.bool false)), .nil, .d (.v (.string (⟨#[]⟩ : ByteArray)))]))], 96⟩ hτ hmix (by kernel_rfl) (by kernel_rfl) rfl ?_
    refine X.seq ?_
    refine X.rs 1 hτ hmix (by kernel_rfl) ?_
    obtain ⟨i1, h2, hq4, hf3⟩ := s_l1New code (by first | assumption | omega)
    refine CH.callK hf3 Try.func91 ⟨rfl, rfl⟩ (by kernel_rfl) (by kernel_rfl) (by kernel_rfl) (by kernel_rfl) ?_
    refine CH.go 1 hτ (by kernel_rfl) ?_
    refine CH.endk ⟨[(0, lV (code.map dB)), (3, .pt 80 0 0), (4, .pt 112 0 0)], [(80, some (.box [.d (.v (.int .i64 0)), .d (.v (.int .i64 0)), .d (.v (.int .i64 0)), .d (.v (.string (⟨#[]⟩ : ByteArray))), .d (.v (.int .i64 0)), .d (.v (.int .i64 0)), .nil, .d (.v (.int .i64 0)), .nil, .nil, .nil, .d (.v (.bool false)), .nil, .d (.v (.string (⟨#[]⟩ : ByteArray)))])), (112, some (.box [.d (.sl (code.map dB)), .d (.v (.int .i64 i1)), .d (.v (.int .i64 h2))]))], 144⟩ (by kernel_rfl) (by kernel_rfl) rfl ?_
    refine X.seq ?_
    refine X.rs 2 hτ hmix (by kernel_rfl) ?_
    obtain ⟨r5, hr7, hf6⟩ := s_l1Size code 10 (by omega)
    have hz := hr7
    refine CH.call hf6 Try.func93 ⟨rfl, rfl⟩ [] (by kernel_rfl) (by kernel_rfl) (by kernel_rfl) (by kernel_rfl) ?_
    obtain ⟨r8, i11, h12, hr10, hi13, hf9⟩ := s_l10Any code i1 h2 (by first | assumption | omega) (by omega) r5 (by omega)
    obtain ⟨hL, hLd, hLn⟩ := hr10
    refine CH.call hf9 Try.func94 ⟨rfl, rfl⟩ [(112, 0)] (by kernel_rfl) (by kernel_rfl) (by kernel_rfl) (by kernel_rfl) ?_
    refine CH.go 1 hτ (by kernel_rfl) ?_
    refine CH.endk ⟨[(3, .pt 80 0 0), (4, .pt 112 0 0), (5, .e (.c (.f (.sl (r8.map d59)))))], [(80, some (.box [.d (.v (.int .i64 0)), .d (.v (.int .i64 0)), .d (.v (.int .i64 0)), .d (.v (.string (⟨#[]⟩ : ByteArray))), .d (.v (.int .i64 0)), .d (.v (.int .i64 0)), .nil, .d (.v (.int .i64 0)), .nil, .nil, .nil, .d (.v (.bool false)), .nil, .d (.v (.string (⟨#[]⟩ : ByteArray)))])), (112, some (.box [.d (.sl (code.map dB)), .d (.v (.int .i64 i11)), .d (.v (.int .i64 h12))]))], 224⟩ (by kernel_rfl) (by kernel_rfl) rfl ?_
    refine X.seq ?_
    refine X.rs 1 hτ hmix (by kernel_rfl) ?_
    obtain ⟨r14, i17, h18, hr16, hi19, hf15⟩ := s_l9Any code i11 h12 (by first | assumption | omega) (by omega)
    obtain ⟨hx, hxd⟩ := hr16
    refine CH.call hf15 Try.func95 ⟨rfl, rfl⟩ [(112, 0)] (by kernel_rfl) (by kernel_rfl) (by kernel_rfl) (by kernel_rfl) ?_
    refine CH.go 2 hτ (by kernel_rfl) ?_
    refine CH.endk ⟨[(3, .pt 80 0 0), (4, .pt 112 0 0), (5, .e (.c (.f (.sl (r8.map d59))))), (6, .pt 256 0 0)], [(80, some (.box [.d (.v (.int .i64 0)), .d (.v (.int .i64 0)), .d (.v (.int .i64 0)), .d (.v (.string (⟨#[]⟩ : ByteArray))), .d (.v (.int .i64 0)), .d (.v (.int .i64 0)), .nil, .d (.v (.int .i64 0)), .nil, .nil, .nil, .d (.v (.bool false)), .nil, .d (.v (.string (⟨#[]⟩ : ByteArray)))])), (112, some (.box [.d (.sl (code.map dB)), .d (.v (.int .i64 i17)), .d (.v (.int .i64 h18))])), (256, some (.box [.d (.v (.int .i64 r14.f0)), .d (.v (.int .i64 r14.f1)), .d (.v (.int .i64 r14.f2)), .d (.v (.string r14.f3)), .d (.v (.int .i64 r14.f4.f0)), .d (.v (.int .i64 r14.f4.f1)), .f (.sl (r14.f4.f2.map dS)), .d (.v (.int .i64 r14.f5.f0)), .f (.sl (r14.f5.f1.map dS)), .f (.sl (r14.f5.f2.map dI)), .f (.sl (r14.f6.map d120)), .d (.v (.bool r14.f7)), .f (.sl (r14.f8.map d122)), .d (.v (.string r14.f9))]))], 288⟩ (by kernel_rfl) (by kernel_rfl) rfl ?_
    -- join: c256_0 : Int, c256_1 : Int, c256_2 : Int, c256_3 : ByteArray, c256_4 : Int, c256_5 : Int, Lc256_6 : List ByteArray, c256_7 : Int, Lc256_8 : List ByteArray, Lc256_9 : List Int, Lc256_10 : List S120, c256_11 : Bool, Lc256_12 : List S122, c256_13 : ByteArray
    refine X.seqJ (σ := { g : Int × Int × Int × ByteArray × Int × Int × (List ByteArray) × Int × (List ByteArray) × (List Int) × (List S120) × Bool × (List S122) × ByteArray // (fun (c256_0 : Int) (c256_1 : Int) (c256_2 : Int) (c256_3 : ByteArray) (c256_4 : Int) (c256_5 : Int) (Lc256_6 : List ByteArray) (c256_7 : Int) (Lc256_8 : List ByteArray) (Lc256_9 : List Int) (Lc256_10 : List S120) (c256_11 : Bool) (Lc256_12 : List S122) (c256_13 : ByteArray) => SmS c256_3 ∧ SmN Lc256_6 ∧ (SmN Lc256_8 ∧ Lc256_9.length ≤ 2000000) ∧ SmT Lc256_10 ∧ SmV Lc256_12 ∧ SmS c256_13) g.1 g.2.1 g.2.2.1 g.2.2.2.1 g.2.2.2.2.1 g.2.2.2.2.2.1 g.2.2.2.2.2.2.1 g.2.2.2.2.2.2.2.1 g.2.2.2.2.2.2.2.2.1 g.2.2.2.2.2.2.2.2.2.1 g.2.2.2.2.2.2.2.2.2.2.1 g.2.2.2.2.2.2.2.2.2.2.2.1 g.2.2.2.2.2.2.2.2.2.2.2.2.1 g.2.2.2.2.2.2.2.2.2.2.2.2.2 }) (fun g => (fun (c256_0 : Int) (c256_1 : Int) (c256_2 : Int) (c256_3 : ByteArray) (c256_4 : Int) (c256_5 : Int) (Lc256_6 : List ByteArray) (c256_7 : Int) (Lc256_8 : List ByteArray) (Lc256_9 : List Int) (Lc256_10 : List S120) (c256_11 : Bool) (Lc256_12 : List S122) (c256_13 : ByteArray) => ⟨[(3, .pt 80 0 0), (5, .e (.c (.f (.sl (r8.map d59))))), (6, .pt 256 0 0)], [(80, some (.box [.d (.v (.int .i64 0)), .d (.v (.int .i64 0)), .d (.v (.int .i64 0)), .d (.v (.string (⟨#[]⟩ : ByteArray))), .d (.v (.int .i64 0)), .d (.v (.int .i64 0)), .nil, .d (.v (.int .i64 0)), .nil, .nil, .nil, .d (.v (.bool false)), .nil, .d (.v (.string (⟨#[]⟩ : ByteArray)))])), (256, some (.box [.d (.v (.int .i64 c256_0)), .d (.v (.int .i64 c256_1)), .d (.v (.int .i64 c256_2)), .d (.v (.string c256_3)), .d (.v (.int .i64 c256_4)), .d (.v (.int .i64 c256_5)), .f (.sl (Lc256_6.map dS)), .d (.v (.int .i64 c256_7)), .f (.sl (Lc256_8.map dS)), .f (.sl (Lc256_9.map dI)), .f (.sl (Lc256_10.map d120)), .d (.v (.bool c256_11)), .f (.sl (Lc256_12.map d122)), .d (.v (.string c256_13))]))], 896⟩) g.1.1 g.1.2.1 g.1.2.2.1 g.1.2.2.2.1 g.1.2.2.2.2.1 g.1.2.2.2.2.2.1 g.1.2.2.2.2.2.2.1 g.1.2.2.2.2.2.2.2.1 g.1.2.2.2.2.2.2.2.2.1 g.1.2.2.2.2.2.2.2.2.2.1 g.1.2.2.2.2.2.2.2.2.2.2.1 g.1.2.2.2.2.2.2.2.2.2.2.2.1 g.1.2.2.2.2.2.2.2.2.2.2.2.2.1 g.1.2.2.2.2.2.2.2.2.2.2.2.2.2) ?_ (fun g => ?_)
    · refine X.seq ?_
      have el21 : (r8.map d59).length = r8.length := List.length_map ..
      refine X.rs 4 hτ hmix (by kernel_rfl) ?_
      rcases Bool.eq_false_or_eq_true (decide ((((r8.map d59).length : Int) : Int) > 0)) with hb22 | hb22
      · refine CH.alt 18 (sV (.bool (decide ((((r8.map d59).length : Int) : Int) > 0)))) (sV (.bool true)) (by kernel_rfl) (by rw [hb22]) ?_
        refine CH.alt 19 (sV (.bool (decide ((((r8.map d59).length : Int) : Int) > 0)))) (sV (.bool true)) (by kernel_rfl) (by rw [hb22]) ?_
        replace hb22 := of_decide_eq_true (hb22)
        refine CH.go 1 hτ (by kernel_rfl) ?_
        obtain ⟨r23, i26, h27, hr25, hi28, hf24⟩ := s_l1Once code i17 h18 (by first | assumption | omega) (by omega) 3
        refine CH.call hf24 Try.func96 ⟨rfl, rfl⟩ [(112, 0)] (by kernel_rfl) (by kernel_rfl) (by kernel_rfl) (by kernel_rfl) ?_
        refine CH.go 2 hτ (by kernel_rfl) ?_
        refine CH.endk ⟨[(3, .pt 80 0 0), (4, .pt 112 0 0), (5, .e (.c (.f (.sl (r8.map d59))))), (6, .pt 256 0 0), (23, bV (!r23))], [(80, some (.box [.d (.v (.int .i64 0)), .d (.v (.int .i64 0)), .d (.v (.int .i64 0)), .d (.v (.string (⟨#[]⟩ : ByteArray))), .d (.v (.int .i64 0)), .d (.v (.int .i64 0)), .nil, .d (.v (.int .i64 0)), .nil, .nil, .nil, .d (.v (.bool false)), .nil, .d (.v (.string (⟨#[]⟩ : ByteArray)))])), (112, some (.box [.d (.sl (code.map dB)), .d (.v (.int .i64 i26)), .d (.v (.int .i64 h27))])), (256, some (.box [.d (.v (.int .i64 r14.f0)), .d (.v (.int .i64 r14.f1)), .d (.v (.int .i64 r14.f2)), .d (.v (.string r14.f3)), .d (.v (.int .i64 r14.f4.f0)), .d (.v (.int .i64 r14.f4.f1)), .f (.sl (r14.f4.f2.map dS)), .d (.v (.int .i64 r14.f5.f0)), .f (.sl (r14.f5.f1.map dS)), .f (.sl (r14.f5.f2.map dI)), .f (.sl (r14.f6.map d120)), .d (.v (.bool r14.f7)), .f (.sl (r14.f8.map d122)), .d (.v (.string r14.f9))]))], 416⟩ (by kernel_rfl) (by kernel_rfl) rfl ?_
        refine X.if_ (b := !r23) (by kernel_rfl) (fun hb29 => ?_) (fun hb29 => ?_)
        · replace hb29 := bnot_yes (hb29)
          refine X.seq ?_
          refine X.rs 4 hτ hmix (by kernel_rfl) ?_
          obtain ⟨r30, i33, h34, hr32, hi35, hf31⟩ := s_l1Below code i26 h27 (by first | assumption | omega) (by omega) ((r8.map d59).length : Int)
          obtain ⟨_, _⟩ := hr32
          refine CH.call hf31 Try.func97 ⟨rfl, rfl⟩ [(112, 0)] (by kernel_rfl) (by kernel_rfl) (by kernel_rfl) (by kernel_rfl) ?_
          obtain ⟨x36, hx36⟩ : ∃ x, r8[Int.toNat r30]? = some x := ⟨_, List.getElem?_eq_getElem (by first | omega | (simp; done) | (simp; omega))⟩
          refine CH.idx hτ (d59 x36) (rows := (r8.map d59)) (n := r30) (sz := 14) (by kernel_rfl) (by kernel_rfl) (by first | omega | (simp; done) | (simp; omega)) (by rw [List.getElem?_map, hx36]; rfl) (by kernel_rfl) ?_
          refine CH.go 3 hτ (by kernel_rfl) ?_
          refine CH.endk ⟨[(3, .pt 80 0 0), (5, .e (.c (.f (.sl (r8.map d59))))), (6, .pt 256 0 0), (7, .pt 528 0 0)], [(80, some (.box [.d (.v (.int .i64 0)), .d (.v (.int .i64 0)), .d (.v (.int .i64 0)), .d (.v (.string (⟨#[]⟩ : ByteArray))), .d (.v (.int .i64 0)), .d (.v (.int .i64 0)), .nil, .d (.v (.int .i64 0)), .nil, .nil, .nil, .d (.v (.bool false)), .nil, .d (.v (.string (⟨#[]⟩ : ByteArray)))])), (256, some (.box [.d (.v (.int .i64 r14.f0)), .d (.v (.int .i64 r14.f1)), .d (.v (.int .i64 r14.f2)), .d (.v (.string r14.f3)), .d (.v (.int .i64 r14.f4.f0)), .d (.v (.int .i64 r14.f4.f1)), .f (.sl (r14.f4.f2.map dS)), .d (.v (.int .i64 r14.f5.f0)), .f (.sl (r14.f5.f1.map dS)), .f (.sl (r14.f5.f2.map dI)), .f (.sl (r14.f6.map d120)), .d (.v (.bool r14.f7)), .f (.sl (r14.f8.map d122)), .d (.v (.string r14.f9))])), (528, some (.box (cD (d59 x36))))], 560⟩ (by kernel_rfl) (by kernel_rfl) rfl ?_
          refine X.rs 4 hτ hmix (by kernel_rfl) ?_
          obtain ⟨x37, hx37⟩ : ∃ x, r8[Int.toNat (((r8.map d59).length : Int) - 1)]? = some x := ⟨_, List.getElem?_eq_getElem (by first | omega | (simp; done) | (simp; omega))⟩
          refine CH.alt 34 (sV (.int .i64 (wrap64 (((r8.map d59).length : Int) - 1)))) (sV (.int .i64 ((((r8.map d59).length : Int) - 1)))) (by kernel_rfl) (by rw [w64 (n := (((r8.map d59).length : Int) - 1)) (by omega) (by omega)]) ?_
          refine CH.idx hτ (d59 x37) (rows := (r8.map d59)) (n := (((r8.map d59).length : Int) - 1)) (sz := 14) (by kernel_rfl) (by kernel_rfl) (by first | omega | (simp; done) | (simp; omega)) (by rw [List.getElem?_map, hx37]; rfl) (by kernel_rfl) ?_
          refine CH.go 16 hτ (by kernel_rfl) ?_
          refine CH.endk ⟨[(3, .pt 80 0 0), (5, .e (.c (.f (.sl (r8.map d59))))), (6, .pt 256 0 0)], [(80, some (.box [.d (.v (.int .i64 0)), .d (.v (.int .i64 0)), .d (.v (.int .i64 0)), .d (.v (.string (⟨#[]⟩ : ByteArray))), .d (.v (.int .i64 0)), .d (.v (.int .i64 0)), .nil, .d (.v (.int .i64 0)), .nil, .nil, .nil, .d (.v (.bool false)), .nil, .d (.v (.string (⟨#[]⟩ : ByteArray)))])), (256, some (.box [.d (.v (.int .i64 (wr .i64 (x37.f0 + 1)))), .d (.v (.int .i64 x36.f1)), .d (.v (.int .i64 (wr .i64 (x36.f2 + 1)))), .d (.v (.string (⟨#[97]⟩ : ByteArray))), .d (.v (.int .i64 x36.f2)), .d (.v (.int .i64 x36.f0)), .ref 832, .d (.v (.int .i64 0)), .nil, .nil, .nil, .d (.v (.bool false)), .nil, .d (.v (.string (⟨#[]⟩ : ByteArray)))])), (832, some (.row 1 9 (([(⟨#[97]⟩ : ByteArray)] : List ByteArray).map dS) false true))], 896⟩ (by kernel_rfl) (by kernel_rfl) rfl ?_
          refine ⟨⟨(wr .i64 (x37.f0 + 1), x36.f1, wr .i64 (x36.f2 + 1), (⟨#[97]⟩ : ByteArray), x36.f2, x36.f0, ([(⟨#[97]⟩ : ByteArray)] : List ByteArray), 0, [], [], [], false, [], (⟨#[]⟩ : ByteArray)), by first | exact ⟨hx.1, hx.2.1, hx.2.2.1, hx.2.2.2.1, hx.2.2.2.2.1, hx.2.2.2.2.2⟩ | exact ⟨by show (1 : Nat) ≤ 2000000; omega, ⟨by simp, all_one (by show (1 : Nat) ≤ 2000000; omega)⟩, ⟨⟨by simp, all_nil⟩, by simp⟩, ⟨by simp, all_nil⟩, ⟨by simp, all_nil⟩, by show (0 : Nat) ≤ 2000000; omega⟩⟩, (Wk.less (s1 := ⟨[(3, .pt 80 0 0), (5, .e (.c (.f (.sl (r8.map d59))))), (6, .pt 256 0 0)], [(80, some (.box [.d (.v (.int .i64 0)), .d (.v (.int .i64 0)), .d (.v (.int .i64 0)), .d (.v (.string (⟨#[]⟩ : ByteArray))), .d (.v (.int .i64 0)), .d (.v (.int .i64 0)), .nil, .d (.v (.int .i64 0)), .nil, .nil, .nil, .d (.v (.bool false)), .nil, .d (.v (.string (⟨#[]⟩ : ByteArray)))])), (256, some (.box [.d (.v (.int .i64 (wr .i64 (x37.f0 + 1)))), .d (.v (.int .i64 x36.f1)), .d (.v (.int .i64 (wr .i64 (x36.f2 + 1)))), .d (.v (.string (⟨#[97]⟩ : ByteArray))), .d (.v (.int .i64 x36.f2)), .d (.v (.int .i64 x36.f0)), .f (.sl (([(⟨#[97]⟩ : ByteArray)] : List ByteArray).map dS)), .d (.v (.int .i64 0)), .nil, .nil, .nil, .d (.v (.bool false)), .nil, .d (.v (.string (⟨#[]⟩ : ByteArray)))])), (832, some (.row 1 9 (([(⟨#[97]⟩ : ByteArray)] : List ByteArray).map dS) true true))], 896⟩) (by kernel_rfl)).trans (Wk.mk' [(80, 80), (256, 256)] (by kernel_rfl) (by kernel_rfl) (by kernel_rfl))⟩
        · replace hb29 := bnot_no (hb29)
          refine X.skip ?_
          refine ⟨⟨(r14.f0, r14.f1, r14.f2, r14.f3, r14.f4.f0, r14.f4.f1, r14.f4.f2, r14.f5.f0, r14.f5.f1, r14.f5.f2, r14.f6, r14.f7, r14.f8, r14.f9), by first | exact ⟨hx.1, hx.2.1, hx.2.2.1, hx.2.2.2.1, hx.2.2.2.2.1, hx.2.2.2.2.2⟩ | exact ⟨by show (1 : Nat) ≤ 2000000; omega, ⟨by simp, all_one (by show (1 : Nat) ≤ 2000000; omega)⟩, ⟨⟨by simp, all_nil⟩, by simp⟩, ⟨by simp, all_nil⟩, ⟨by simp, all_nil⟩, by show (0 : Nat) ≤ 2000000; omega⟩⟩, Wk.mk' [(80, 80), (256, 256)] (by kernel_rfl) (by kernel_rfl) (by kernel_rfl)⟩
      · refine CH.alt 18 (sV (.bool (decide ((((r8.map d59).length : Int) : Int) > 0)))) (sV (.bool false)) (by kernel_rfl) (by rw [hb22]) ?_
        refine CH.alt 19 (sV (.bool (decide ((((r8.map d59).length : Int) : Int) > 0)))) (sV (.bool false)) (by kernel_rfl) (by rw [hb22]) ?_
        replace hb22 := of_decide_eq_false (hb22)
        refine CH.go 4 hτ (by kernel_rfl) ?_
        refine CH.endk ⟨[(3, .pt 80 0 0), (4, .pt 112 0 0), (5, .e (.c (.f (.sl (r8.map d59))))), (6, .pt 256 0 0), (23, bV false)], [(80, some (.box [.d (.v (.int .i64 0)), .d (.v (.int .i64 0)), .d (.v (.int .i64 0)), .d (.v (.string (⟨#[]⟩ : ByteArray))), .d (.v (.int .i64 0)), .d (.v (.int .i64 0)), .nil, .d (.v (.int .i64 0)), .nil, .nil, .nil, .d (.v (.bool false)), .nil, .d (.v (.string (⟨#[]⟩ : ByteArray)))])), (112, some (.box [.d (.sl (code.map dB)), .d (.v (.int .i64 i17)), .d (.v (.int .i64 h18))])), (256, some (.box [.d (.v (.int .i64 r14.f0)), .d (.v (.int .i64 r14.f1)), .d (.v (.int .i64 r14.f2)), .d (.v (.string r14.f3)), .d (.v (.int .i64 r14.f4.f0)), .d (.v (.int .i64 r14.f4.f1)), .f (.sl (r14.f4.f2.map dS)), .d (.v (.int .i64 r14.f5.f0)), .f (.sl (r14.f5.f1.map dS)), .f (.sl (r14.f5.f2.map dI)), .f (.sl (r14.f6.map d120)), .d (.v (.bool r14.f7)), .f (.sl (r14.f8.map d122)), .d (.v (.string r14.f9))]))], 416⟩ (by kernel_rfl) (by kernel_rfl) rfl ?_
        refine X.ifF (by kernel_rfl) ?_
        refine X.skip ?_
        refine ⟨⟨(r14.f0, r14.f1, r14.f2, r14.f3, r14.f4.f0, r14.f4.f1, r14.f4.f2, r14.f5.f0, r14.f5.f1, r14.f5.f2, r14.f6, r14.f7, r14.f8, r14.f9), by first | exact ⟨hx.1, hx.2.1, hx.2.2.1, hx.2.2.2.1, hx.2.2.2.2.1, hx.2.2.2.2.2⟩ | exact ⟨by show (1 : Nat) ≤ 2000000; omega, ⟨by simp, all_one (by show (1 : Nat) ≤ 2000000; omega)⟩, ⟨⟨by simp, all_nil⟩, by simp⟩, ⟨by simp, all_nil⟩, ⟨by simp, all_nil⟩, by show (0 : Nat) ≤ 2000000; omega⟩⟩, Wk.mk' [(80, 80), (256, 256)] (by kernel_rfl) (by kernel_rfl) (by kernel_rfl)⟩
    · obtain ⟨⟨c256_0, c256_1, c256_2, c256_3, c256_4, c256_5, Lc256_6, c256_7, Lc256_8, Lc256_9, Lc256_10, c256_11, Lc256_12, c256_13⟩, hg20⟩ := g
      have hg20 : SmS c256_3 ∧ SmN Lc256_6 ∧ (SmN Lc256_8 ∧ Lc256_9.length ≤ 2000000) ∧ SmT Lc256_10 ∧ SmV Lc256_12 ∧ SmS c256_13 := hg20
      obtain ⟨hJ1, hJ2, hJ3, hJ4, hJ5, hJ6⟩ := hg20
      refine X.seq ?_
      refine X.rk ⟨[(2, .e (.c (.f (.sl (r8.map d59))))), (3, .pt 80 0 0)], [(80, some (.box [.d (.v (.int .i64 c256_0)), .d (.v (.int .i64 c256_1)), .d (.v (.int .i64 c256_2)), .d (.v (.string c256_3)), .d (.v (.int .i64 c256_4)), .d (.v (.int .i64 c256_5)), .f (.sl (Lc256_6.map dS)), .d (.v (.int .i64 c256_7)), .f (.sl (Lc256_8.map dS)), .f (.sl (Lc256_9.map dI)), .f (.sl (Lc256_10.map d120)), .d (.v (.bool c256_11)), .f (.sl (Lc256_12.map d122)), .d (.v (.string c256_13))]))], 960⟩ hτ hmix (by kernel_rfl) (by kernel_rfl) rfl ?_
      refine X.ret ?_
      exact ⟨trivial, _, _, ⟨r8, (⟨c256_0, c256_1, c256_2, c256_3, (⟨c256_4, c256_5, Lc256_6⟩ : S31), (⟨c256_7, Lc256_8, Lc256_9⟩ : S55), Lc256_10, c256_11, Lc256_12, c256_13⟩ : S59), ⟨hL, hLn, ⟨hJ1, hJ2, hJ3, hJ4, hJ5, hJ6⟩⟩, rfl, rfl⟩, .inl (Ret.mk' [] (by kernel_rfl) (by kernel_rfl) (by kernel_rfl))⟩
  obtain ⟨_, _, ⟨r0, r1, q1, rfl, rfl⟩, hf⟩ := key
  exact ⟨r0, r1, q1, hf⟩

theorem l_FnAdded (code : List Int) (hl : code.length ≤ 4611686018427387904) : ∃ r0 : Bool, (r0 = true) ∧ Fn Try.prog 10 [lV (code.map dB)] (lookH []) (bV r0) (lookH []) := by
  have key : ∃ x' h', ((fun x' h' => ∃ r0 : Bool, (r0 = true) ∧ x' = bV r0 ∧ h' = [])) x' h' ∧ Fn Try.prog 10 [lV (code.map dB)] (lookH []) x' (lookH h') := by
    refine Fn.bodyX (N := 127) hτ Try.func10 rfl rfl rfl rfl ?_
    refine X.seq ?_
    refine X.rk ⟨[(0, lV (code.map dB))], [], 80⟩ hτ hmix (by kernel_rfl) (by kernel_rfl) rfl ?_
    refine X.seq ?_
    refine X.seq ?_
    refine X.rs 1 hτ hmix (by kernel_rfl) ?_
    obtain ⟨r1, hr3, hf2⟩ := l_big code (by assumption)
    refine CH.call hf2 Try.func40 ⟨rfl, rfl⟩ [] (by kernel_rfl) (by kernel_rfl) (by kernel_rfl) (by kernel_rfl) ?_
    refine CH.endk ⟨[(0, lV (code.map dB)), (14, bV r1)], [], 112⟩ (by kernel_rfl) (by kernel_rfl) rfl ?_
    refine X.if_ (b := r1) (by kernel_rfl) (fun hb4 => ?_) (fun hb4 => ?_)
    · refine X.seq ?_
      refine X.rk ⟨[(2, bV true)], [], 128⟩ hτ hmix (by kernel_rfl) (by kernel_rfl) rfl ?_
      refine X.ret ?_
      exact ⟨trivial, _, _, ⟨true, (by first | exact rfl | exact (absurd hao.symm ‹_›) | exact (by rw [addR_no ‹_›]; simp) | exact (by have hq := (‹Option.isSome _ = false›); rw [hfd] at hq; cases hq) | exact (by have hq := (‹sameB _ _ = false›); rw [hfd] at hq; exact tf (sameB_self _) hq) | exact (tf (addOk_tree hok) ‹_›) | exact (by rw [‹treeOk _ = false›]; rfl) | exact (tf (allEq_iff.2 (add_same ‹_› hok ‹_›)) ‹_›) | exact (by have hq := add_len ‹_› hok; simp only [List.length_map] at *; first | omega | simp [hq])), rfl, rfl⟩, .inl (Ret.mk' [] (by kernel_rfl) (by kernel_rfl) (by kernel_rfl))⟩
    · refine X.skip ?_
      refine X.seq ?_
      refine X.rs 1 hτ hmix (by kernel_rfl) ?_
      obtain ⟨r5, r6, hr8, hf7⟩ := s_DrawAddTo code (by first | omega | (simp; done) | (simp; omega))
      obtain ⟨hL, hLn, hb⟩ := hr8
      refine CH.call hf7 Try.func43 ⟨rfl, rfl⟩ [] (by kernel_rfl) (by kernel_rfl) (by kernel_rfl) (by kernel_rfl) ?_
      refine CH.go 6 hτ (by kernel_rfl) ?_
      refine CH.endk ⟨[(3, .e (.c (.f (.sl (r5.map d59))))), (4, .pt 192 0 0)], [(192, some (.box [.d (.v (.int .i64 r6.f0)), .d (.v (.int .i64 r6.f1)), .d (.v (.int .i64 r6.f2)), .d (.v (.string r6.f3)), .d (.v (.int .i64 r6.f4.f0)), .d (.v (.int .i64 r6.f4.f1)), .f (.sl (r6.f4.f2.map dS)), .d (.v (.int .i64 r6.f5.f0)), .f (.sl (r6.f5.f1.map dS)), .f (.sl (r6.f5.f2.map dI)), .f (.sl (r6.f6.map d120)), .d (.v (.bool r6.f7)), .f (.sl (r6.f8.map d122)), .d (.v (.string r6.f9))]))], 240⟩ (by kernel_rfl) (by kernel_rfl) rfl ?_
      refine X.seq ?_
      have hLl := hL.1
      refine X.rs 2 hτ hmix (by kernel_rfl) ?_
      obtain ⟨r9, r10, hr12, hf11⟩ := i_AddTo r5 r6 (by assumption) (by assumption) (by omega)
      obtain ⟨e13, e14⟩ := hr12
      replace e13 := e13.symm; subst e13
      replace e14 := e14.symm; subst e14
      refine CH.call hf11 Try.func34 ⟨rfl, rfl⟩ [] (by kernel_rfl) (by kernel_rfl) (by kernel_rfl) (by kernel_rfl) ?_
      refine CH.go 5 hτ (by kernel_rfl) ?_
      refine CH.endk ⟨[(3, .e (.c (.f (.sl (r5.map d59))))), (4, .pt 192 0 0), (5, rV 272), (6, bV (addOk r5 r6))], [(192, some (.box [.d (.v (.int .i64 r6.f0)), .d (.v (.int .i64 r6.f1)), .d (.v (.int .i64 r6.f2)), .d (.v (.string r6.f3)), .d (.v (.int .i64 r6.f4.f0)), .d (.v (.int .i64 r6.f4.f1)), .f (.sl (r6.f4.f2.map dS)), .d (.v (.int .i64 r6.f5.f0)), .f (.sl (r6.f5.f1.map dS)), .f (.sl (r6.f5.f2.map dI)), .f (.sl (r6.f6.map d120)), .d (.v (.bool r6.f7)), .f (.sl (r6.f8.map d122)), .d (.v (.string r6.f9))])), (272, some (.row 14 59 ((addR r5 r6).map d59) false true))], 368⟩ (by kernel_rfl) (by kernel_rfl) rfl ?_
      refine X.seq ?_
      have hxs := addR_sm hL hb (by omega)
      have hxl := hxs.1
      refine X.rs 2 hτ hmix (by kernel_rfl) ?_
      obtain ⟨r15, r16, hr18, hf17⟩ := s_AddTo r5 r6 (by assumption) (by assumption) (by omega)
      obtain ⟨hal, has, hat, hao, hay, han⟩ := hr18
      refine CH.call hf17 Try.func32 ⟨rfl, rfl⟩ [] (by kernel_rfl) (by kernel_rfl) (by kernel_rfl) (by kernel_rfl) ?_
      refine CH.go 5 hτ (by kernel_rfl) ?_
      refine CH.endk ⟨[(3, .e (.c (.f (.sl (r5.map d59))))), (4, .pt 192 0 0), (5, rV 272), (6, bV (addOk r5 r6)), (8, bV r16)], [(192, some (.box [.d (.v (.int .i64 r6.f0)), .d (.v (.int .i64 r6.f1)), .d (.v (.int .i64 r6.f2)), .d (.v (.string r6.f3)), .d (.v (.int .i64 r6.f4.f0)), .d (.v (.int .i64 r6.f4.f1)), .f (.sl (r6.f4.f2.map dS)), .d (.v (.int .i64 r6.f5.f0)), .f (.sl (r6.f5.f1.map dS)), .f (.sl (r6.f5.f2.map dI)), .f (.sl (r6.f6.map d120)), .d (.v (.bool r6.f7)), .f (.sl (r6.f8.map d122)), .d (.v (.string r6.f9))])), (272, some (.row 14 59 ((addR r5 r6).map d59) false true))], 496⟩ (by kernel_rfl) (by kernel_rfl) rfl ?_
      refine X.seq ?_
      refine X.seq ?_
      refine X.rs 2 hτ hmix (by kernel_rfl) ?_
      refine CH.eqB (t := 4) (ng := true) (a := (addOk r5 r6)) (b := r16) (by kernel_rfl) (by kernel_rfl) Try.underlying4 ?_
      refine CH.go 1 hτ (by kernel_rfl) ?_
      rcases Bool.eq_false_or_eq_true (!((addOk r5 r6) == r16)) with hb19 | hb19
      · refine CH.alt 34 (sV (.bool (!((addOk r5 r6) == r16)))) (sV (.bool true)) (by kernel_rfl) (by rw [hb19]) ?_
        refine CH.alt 35 (sV (.bool (!((addOk r5 r6) == r16)))) (sV (.bool true)) (by kernel_rfl) (by rw [hb19]) ?_
        replace hb19 := beq_eq_false_iff_ne.1 (bnot_yes (hb19))
        refine CH.go 3 hτ (by kernel_rfl) ?_
        refine CH.endk ⟨[(3, .e (.c (.f (.sl (r5.map d59))))), (4, .pt 192 0 0), (5, rV 272), (6, bV (addOk r5 r6)), (8, bV r16), (38, bV true)], [(192, some (.box [.d (.v (.int .i64 r6.f0)), .d (.v (.int .i64 r6.f1)), .d (.v (.int .i64 r6.f2)), .d (.v (.string r6.f3)), .d (.v (.int .i64 r6.f4.f0)), .d (.v (.int .i64 r6.f4.f1)), .f (.sl (r6.f4.f2.map dS)), .d (.v (.int .i64 r6.f5.f0)), .f (.sl (r6.f5.f1.map dS)), .f (.sl (r6.f5.f2.map dI)), .f (.sl (r6.f6.map d120)), .d (.v (.bool r6.f7)), .f (.sl (r6.f8.map d122)), .d (.v (.string r6.f9))])), (272, some (.row 14 59 ((addR r5 r6).map d59) false true))], 608⟩ (by kernel_rfl) (by kernel_rfl) rfl ?_
        refine X.ifT (by kernel_rfl) ?_
        refine X.seq ?_
        refine X.rs 2 hτ hmix (by kernel_rfl) ?_
        refine CH.eqB (t := 4) (ng := false) (a := (addOk r5 r6)) (b := r16) (by kernel_rfl) (by kernel_rfl) Try.underlying4 ?_
        refine CH.go 1 hτ (by kernel_rfl) ?_
        rcases Bool.eq_false_or_eq_true (((addOk r5 r6) == r16)) with hb20 | hb20
        · refine CH.alt 41 (sV (.bool (((addOk r5 r6) == r16)))) (sV (.bool true)) (by kernel_rfl) (by rw [hb20]) ?_
          refine CH.alt 42 (sV (.bool (((addOk r5 r6) == r16)))) (sV (.bool true)) (by kernel_rfl) (by rw [hb20]) ?_
          replace hb20 := eq_of_beq (hb20)
          refine CH.go 7 hτ (by kernel_rfl) ?_
          have el21 : ((addR r5 r6).map d59).length = (addR r5 r6).length := List.length_map ..
          have el22 : (r5.map d59).length = r5.length := List.length_map ..
          refine CH.endk ⟨[(2, bV ((((addR r5 r6).map d59).length : Int) == ((r5.map d59).length : Int)))], [], 784⟩ (by kernel_rfl) (by kernel_rfl) rfl ?_
          refine X.ret ?_
          exact ⟨trivial, _, _, ⟨((((addR r5 r6).map d59).length : Int) == ((r5.map d59).length : Int)), (by first | exact rfl | exact (absurd hao.symm ‹_›) | exact (by rw [addR_no ‹_›]; simp) | exact (by have hq := (‹Option.isSome _ = false›); rw [hfd] at hq; cases hq) | exact (by have hq := (‹sameB _ _ = false›); rw [hfd] at hq; exact tf (sameB_self _) hq) | exact (tf (addOk_tree hok) ‹_›) | exact (by rw [‹treeOk _ = false›]; rfl) | exact (tf (allEq_iff.2 (add_same ‹_› hok ‹_›)) ‹_›) | exact (by have hq := add_len ‹_› hok; simp only [List.length_map] at *; first | omega | simp [hq])), rfl, rfl⟩, .inl (Ret.mk' [] (by kernel_rfl) (by kernel_rfl) (by kernel_rfl))⟩
        · refine CH.alt 41 (sV (.bool (((addOk r5 r6) == r16)))) (sV (.bool false)) (by kernel_rfl) (by rw [hb20]) ?_
          refine CH.alt 42 (sV (.bool (((addOk r5 r6) == r16)))) (sV (.bool false)) (by kernel_rfl) (by rw [hb20]) ?_
          replace hb20 := beq_eq_false_iff_ne.1 (hb20)
          refine CH.go 7 hτ (by kernel_rfl) ?_
          refine CH.endk ⟨[(2, bV false)], [], 784⟩ (by kernel_rfl) (by kernel_rfl) rfl ?_
          refine X.ret ?_
          exact ⟨trivial, _, _, ⟨false, (by first | exact rfl | exact (absurd hao.symm ‹_›) | exact (by rw [addR_no ‹_›]; simp) | exact (by have hq := (‹Option.isSome _ = false›); rw [hfd] at hq; cases hq) | exact (by have hq := (‹sameB _ _ = false›); rw [hfd] at hq; exact tf (sameB_self _) hq) | exact (tf (addOk_tree hok) ‹_›) | exact (by rw [‹treeOk _ = false›]; rfl) | exact (tf (allEq_iff.2 (add_same ‹_› hok ‹_›)) ‹_›) | exact (by have hq := add_len ‹_› hok; simp only [List.length_map] at *; first | omega | simp [hq])), rfl, rfl⟩, .inl (Ret.mk' [] (by kernel_rfl) (by kernel_rfl) (by kernel_rfl))⟩
      · refine CH.alt 34 (sV (.bool (!((addOk r5 r6) == r16)))) (sV (.bool false)) (by kernel_rfl) (by rw [hb19]) ?_
        refine CH.alt 35 (sV (.bool (!((addOk r5 r6) == r16)))) (sV (.bool false)) (by kernel_rfl) (by rw [hb19]) ?_
        replace hb19 := eq_of_beq (bnot_no (hb19))
        refine CH.go 3 hτ (by kernel_rfl) ?_
        refine CH.endk ⟨[(3, .e (.c (.f (.sl (r5.map d59))))), (4, .pt 192 0 0), (5, rV 272), (6, bV (addOk r5 r6)), (8, bV r16), (38, bV (!(addOk r5 r6)))], [(192, some (.box [.d (.v (.int .i64 r6.f0)), .d (.v (.int .i64 r6.f1)), .d (.v (.int .i64 r6.f2)), .d (.v (.string r6.f3)), .d (.v (.int .i64 r6.f4.f0)), .d (.v (.int .i64 r6.f4.f1)), .f (.sl (r6.f4.f2.map dS)), .d (.v (.int .i64 r6.f5.f0)), .f (.sl (r6.f5.f1.map dS)), .f (.sl (r6.f5.f2.map dI)), .f (.sl (r6.f6.map d120)), .d (.v (.bool r6.f7)), .f (.sl (r6.f8.map d122)), .d (.v (.string r6.f9))])), (272, some (.row 14 59 ((addR r5 r6).map d59) false true))], 608⟩ (by kernel_rfl) (by kernel_rfl) rfl ?_
        refine X.if_ (b := !(addOk r5 r6)) (by kernel_rfl) (fun hb23 => ?_) (fun hb23 => ?_)
        · replace hb23 := bnot_yes (hb23)
          refine X.seq ?_
          refine X.rs 2 hτ hmix (by kernel_rfl) ?_
          refine CH.eqB (t := 4) (ng := false) (a := (addOk r5 r6)) (b := r16) (by kernel_rfl) (by kernel_rfl) Try.underlying4 ?_
          refine CH.go 1 hτ (by kernel_rfl) ?_
          rcases Bool.eq_false_or_eq_true (((addOk r5 r6) == r16)) with hb24 | hb24
          · refine CH.alt 41 (sV (.bool (((addOk r5 r6) == r16)))) (sV (.bool true)) (by kernel_rfl) (by rw [hb24]) ?_
            refine CH.alt 42 (sV (.bool (((addOk r5 r6) == r16)))) (sV (.bool true)) (by kernel_rfl) (by rw [hb24]) ?_
            replace hb24 := eq_of_beq (hb24)
            refine CH.go 7 hτ (by kernel_rfl) ?_
            have el25 : ((addR r5 r6).map d59).length = (addR r5 r6).length := List.length_map ..
            have el26 : (r5.map d59).length = r5.length := List.length_map ..
            refine CH.endk ⟨[(2, bV ((((addR r5 r6).map d59).length : Int) == ((r5.map d59).length : Int)))], [], 784⟩ (by kernel_rfl) (by kernel_rfl) rfl ?_
            refine X.ret ?_
            exact ⟨trivial, _, _, ⟨((((addR r5 r6).map d59).length : Int) == ((r5.map d59).length : Int)), (by first | exact rfl | exact (absurd hao.symm ‹_›) | exact (by rw [addR_no ‹_›]; simp) | exact (by have hq := (‹Option.isSome _ = false›); rw [hfd] at hq; cases hq) | exact (by have hq := (‹sameB _ _ = false›); rw [hfd] at hq; exact tf (sameB_self _) hq) | exact (tf (addOk_tree hok) ‹_›) | exact (by rw [‹treeOk _ = false›]; rfl) | exact (tf (allEq_iff.2 (add_same ‹_› hok ‹_›)) ‹_›) | exact (by have hq := add_len ‹_› hok; simp only [List.length_map] at *; first | omega | simp [hq])), rfl, rfl⟩, .inl (Ret.mk' [] (by kernel_rfl) (by kernel_rfl) (by kernel_rfl))⟩
          · refine CH.alt 41 (sV (.bool (((addOk r5 r6) == r16)))) (sV (.bool false)) (by kernel_rfl) (by rw [hb24]) ?_
            refine CH.alt 42 (sV (.bool (((addOk r5 r6) == r16)))) (sV (.bool false)) (by kernel_rfl) (by rw [hb24]) ?_
            replace hb24 := beq_eq_false_iff_ne.1 (hb24)
            refine CH.go 7 hτ (by kernel_rfl) ?_
            refine CH.endk ⟨[(2, bV false)], [], 784⟩ (by kernel_rfl) (by kernel_rfl) rfl ?_
            refine X.ret ?_
            exact ⟨trivial, _, _, ⟨false, (by first | exact rfl | exact (absurd hao.symm ‹_›) | exact (by rw [addR_no ‹_›]; simp) | exact (by have hq := (‹Option.isSome _ = false›); rw [hfd] at hq; cases hq) | exact (by have hq := (‹sameB _ _ = false›); rw [hfd] at hq; exact tf (sameB_self _) hq) | exact (tf (addOk_tree hok) ‹_›) | exact (by rw [‹treeOk _ = false›]; rfl) | exact (tf (allEq_iff.2 (add_same ‹_› hok ‹_›)) ‹_›) | exact (by have hq := add_len ‹_› hok; simp only [List.length_map] at *; first | omega | simp [hq])), rfl, rfl⟩, .inl (Ret.mk' [] (by kernel_rfl) (by kernel_rfl) (by kernel_rfl))⟩
        · replace hb23 := bnot_no (hb23)
          refine X.skip ?_
          refine X.seq ?_
          have hok := (‹_› : addOk _ _ = true)
          have hfd := add_find hok
          refine X.rs 3 hτ hmix (by kernel_rfl) ?_
          obtain ⟨r27, r28, hr30, hf29⟩ := i_BlockAt (addR r5 r6) r6.f0 (by assumption)
          obtain ⟨e31, e32⟩ := hr30
          replace e31 := e31.symm; subst e31
          replace e32 := e32.symm; subst e32
          refine CH.call hf29 Try.func42 ⟨rfl, rfl⟩ [] (by kernel_rfl) (by kernel_rfl) (by kernel_rfl) (by kernel_rfl) ?_
          refine CH.go 6 hτ (by kernel_rfl) ?_
          refine CH.endk ⟨[(3, .e (.c (.f (.sl (r5.map d59))))), (4, .pt 192 0 0), (5, rV 272), (9, .pt 720 0 0), (10, bV ((findB (addR r5 r6) r6.f0).isSome))], [(192, some (.box [.d (.v (.int .i64 r6.f0)), .d (.v (.int .i64 r6.f1)), .d (.v (.int .i64 r6.f2)), .d (.v (.string r6.f3)), .d (.v (.int .i64 r6.f4.f0)), .d (.v (.int .i64 r6.f4.f1)), .f (.sl (r6.f4.f2.map dS)), .d (.v (.int .i64 r6.f5.f0)), .f (.sl (r6.f5.f1.map dS)), .f (.sl (r6.f5.f2.map dI)), .f (.sl (r6.f6.map d120)), .d (.v (.bool r6.f7)), .f (.sl (r6.f8.map d122)), .d (.v (.string r6.f9))])), (272, some (.row 14 59 ((addR r5 r6).map d59) false true)), (720, some (.box [.d (.v (.int .i64 ((((findB (addR r5 r6) r6.f0).getD z59)).f0))), .d (.v (.int .i64 ((((findB (addR r5 r6) r6.f0).getD z59)).f1))), .d (.v (.int .i64 ((((findB (addR r5 r6) r6.f0).getD z59)).f2))), .d (.v (.string ((((findB (addR r5 r6) r6.f0).getD z59)).f3))), .d (.v (.int .i64 (((((findB (addR r5 r6) r6.f0).getD z59)).f4).f0))), .d (.v (.int .i64 (((((findB (addR r5 r6) r6.f0).getD z59)).f4).f1))), .f (.sl ((((((findB (addR r5 r6) r6.f0).getD z59)).f4).f2).map dS)), .d (.v (.int .i64 (((((findB (addR r5 r6) r6.f0).getD z59)).f5).f0))), .f (.sl ((((((findB (addR r5 r6) r6.f0).getD z59)).f5).f1).map dS)), .f (.sl ((((((findB (addR r5 r6) r6.f0).getD z59)).f5).f2).map dI)), .f (.sl (((((findB (addR r5 r6) r6.f0).getD z59)).f6).map d120)), .d (.v (.bool ((((findB (addR r5 r6) r6.f0).getD z59)).f7))), .f (.sl (((((findB (addR r5 r6) r6.f0).getD z59)).f8).map d122)), .d (.v (.string ((((findB (addR r5 r6) r6.f0).getD z59)).f9)))]))], 768⟩ (by kernel_rfl) (by kernel_rfl) rfl ?_
          refine X.seq ?_
          refine X.seq ?_
          refine X.rs 1 hτ hmix (by kernel_rfl) ?_
          obtain ⟨r33, hr35, hf34⟩ := s_TreeOk r5 (by assumption)
          replace hr35 := hr35.symm; subst hr35
          refine CH.call hf34 Try.func21 ⟨rfl, rfl⟩ [] (by kernel_rfl) (by kernel_rfl) (by kernel_rfl) (by kernel_rfl) ?_
          refine CH.go 1 hτ (by kernel_rfl) ?_
          refine CH.endk ⟨[(3, .e (.c (.f (.sl (r5.map d59))))), (4, .pt 192 0 0), (5, rV 272), (9, .pt 720 0 0), (10, bV ((findB (addR r5 r6) r6.f0).isSome)), (58, bV (!(treeOk r5)))], [(192, some (.box [.d (.v (.int .i64 r6.f0)), .d (.v (.int .i64 r6.f1)), .d (.v (.int .i64 r6.f2)), .d (.v (.string r6.f3)), .d (.v (.int .i64 r6.f4.f0)), .d (.v (.int .i64 r6.f4.f1)), .f (.sl (r6.f4.f2.map dS)), .d (.v (.int .i64 r6.f5.f0)), .f (.sl (r6.f5.f1.map dS)), .f (.sl (r6.f5.f2.map dI)), .f (.sl (r6.f6.map d120)), .d (.v (.bool r6.f7)), .f (.sl (r6.f8.map d122)), .d (.v (.string r6.f9))])), (272, some (.row 14 59 ((addR r5 r6).map d59) false true)), (720, some (.box [.d (.v (.int .i64 ((((findB (addR r5 r6) r6.f0).getD z59)).f0))), .d (.v (.int .i64 ((((findB (addR r5 r6) r6.f0).getD z59)).f1))), .d (.v (.int .i64 ((((findB (addR r5 r6) r6.f0).getD z59)).f2))), .d (.v (.string ((((findB (addR r5 r6) r6.f0).getD z59)).f3))), .d (.v (.int .i64 (((((findB (addR r5 r6) r6.f0).getD z59)).f4).f0))), .d (.v (.int .i64 (((((findB (addR r5 r6) r6.f0).getD z59)).f4).f1))), .f (.sl ((((((findB (addR r5 r6) r6.f0).getD z59)).f4).f2).map dS)), .d (.v (.int .i64 (((((findB (addR r5 r6) r6.f0).getD z59)).f5).f0))), .f (.sl ((((((findB (addR r5 r6) r6.f0).getD z59)).f5).f1).map dS)), .f (.sl ((((((findB (addR r5 r6) r6.f0).getD z59)).f5).f2).map dI)), .f (.sl (((((findB (addR r5 r6) r6.f0).getD z59)).f6).map d120)), .d (.v (.bool ((((findB (addR r5 r6) r6.f0).getD z59)).f7))), .f (.sl (((((findB (addR r5 r6) r6.f0).getD z59)).f8).map d122)), .d (.v (.string ((((findB (addR r5 r6) r6.f0).getD z59)).f9)))]))], 816⟩ (by kernel_rfl) (by kernel_rfl) rfl ?_
          refine X.if_ (b := !(treeOk r5)) (by kernel_rfl) (fun hb37 => ?_) (fun hb37 => ?_)
          · replace hb37 := bnot_yes (hb37)
            refine X.seq ?_
            refine X.rs 2 hτ hmix (by kernel_rfl) ?_
            rcases Bool.eq_false_or_eq_true ((findB (addR r5 r6) r6.f0).isSome) with hb38 | hb38
            · refine CH.alt 10 (sV (.bool ((findB (addR r5 r6) r6.f0).isSome))) (sV (.bool true)) (by kernel_rfl) (by rw [hb38]) ?_
              refine CH.alt 59 (sV (.bool ((findB (addR r5 r6) r6.f0).isSome))) (sV (.bool true)) (by kernel_rfl) (by rw [hb38]) ?_
              refine CH.alt 60 (sV (.bool ((findB (addR r5 r6) r6.f0).isSome))) (sV (.bool true)) (by kernel_rfl) (by rw [hb38]) ?_
              refine CH.go 2 hτ (by kernel_rfl) ?_
              obtain ⟨r39, hr41, hf40⟩ := i_SameBlock (((findB (addR r5 r6) r6.f0).getD z59)) r6 (by rw [hfd]; exact hb) (by exact hb)
              replace hr41 := hr41.symm; subst hr41
              refine CH.call hf40 Try.func44 ⟨rfl, rfl⟩ [] (by kernel_rfl) (by kernel_rfl) (by kernel_rfl) (by kernel_rfl) ?_
              refine CH.go 2 hτ (by kernel_rfl) ?_
              rcases Bool.eq_false_or_eq_true ((sameB (((findB (addR r5 r6) r6.f0).getD z59)) r6)) with hb43 | hb43
              · refine CH.alt 63 (sV (.bool ((sameB (((findB (addR r5 r6) r6.f0).getD z59)) r6)))) (sV (.bool true)) (by kernel_rfl) (by rw [hb43]) ?_
                refine CH.alt 64 (sV (.bool ((sameB (((findB (addR r5 r6) r6.f0).getD z59)) r6)))) (sV (.bool true)) (by kernel_rfl) (by rw [hb43]) ?_
                refine CH.alt 65 (sV (.bool ((sameB (((findB (addR r5 r6) r6.f0).getD z59)) r6)))) (sV (.bool true)) (by kernel_rfl) (by rw [hb43]) ?_
                refine CH.go 1 hτ (by kernel_rfl) ?_
                obtain ⟨r44, hr46, hf45⟩ := i_TreeOk (addR r5 r6) (by assumption)
                replace hr46 := hr46.symm; subst hr46
                refine CH.call hf45 Try.func22 ⟨rfl, rfl⟩ [] (by kernel_rfl) (by kernel_rfl) (by kernel_rfl) (by kernel_rfl) ?_
                refine CH.go 2 hτ (by kernel_rfl) ?_
                rcases Bool.eq_false_or_eq_true ((treeOk (addR r5 r6))) with hb48 | hb48
                · refine CH.alt 67 (sV (.bool ((treeOk (addR r5 r6))))) (sV (.bool true)) (by kernel_rfl) (by rw [hb48]) ?_
                  refine CH.alt 68 (sV (.bool ((treeOk (addR r5 r6))))) (sV (.bool true)) (by kernel_rfl) (by rw [hb48]) ?_
                  refine CH.alt 69 (sV (.bool ((treeOk (addR r5 r6))))) (sV (.bool true)) (by kernel_rfl) (by rw [hb48]) ?_
                  refine CH.go 1 hτ (by kernel_rfl) ?_
                  obtain ⟨r49, hr51, hf50⟩ := i_TreeOk r5 (by assumption)
                  replace hr51 := hr51.symm; subst hr51
                  refine CH.call hf50 Try.func22 ⟨rfl, rfl⟩ [] (by kernel_rfl) (by kernel_rfl) (by kernel_rfl) (by kernel_rfl) ?_
                  refine CH.go 3 hτ (by kernel_rfl) ?_
                  refine CH.endk ⟨[(2, bV (!(treeOk r5)))], [], 1072⟩ (by kernel_rfl) (by kernel_rfl) rfl ?_
                  refine X.ret ?_
                  exact ⟨trivial, _, _, ⟨!(treeOk r5), (by first | exact rfl | exact (absurd hao.symm ‹_›) | exact (by rw [addR_no ‹_›]; simp) | exact (by have hq := (‹Option.isSome _ = false›); rw [hfd] at hq; cases hq) | exact (by have hq := (‹sameB _ _ = false›); rw [hfd] at hq; exact tf (sameB_self _) hq) | exact (tf (addOk_tree hok) ‹_›) | exact (by rw [‹treeOk _ = false›]; rfl) | exact (tf (allEq_iff.2 (add_same ‹_› hok ‹_›)) ‹_›) | exact (by have hq := add_len ‹_› hok; simp only [List.length_map] at *; first | omega | simp [hq])), rfl, rfl⟩, .inl (Ret.mk' [] (by kernel_rfl) (by kernel_rfl) (by kernel_rfl))⟩
                · refine CH.alt 67 (sV (.bool ((treeOk (addR r5 r6))))) (sV (.bool false)) (by kernel_rfl) (by rw [hb48]) ?_
                  refine CH.alt 68 (sV (.bool ((treeOk (addR r5 r6))))) (sV (.bool false)) (by kernel_rfl) (by rw [hb48]) ?_
                  refine CH.alt 69 (sV (.bool ((treeOk (addR r5 r6))))) (sV (.bool false)) (by kernel_rfl) (by rw [hb48]) ?_
                  refine CH.go 5 hτ (by kernel_rfl) ?_
                  refine CH.endk ⟨[(2, bV false)], [], 1072⟩ (by kernel_rfl) (by kernel_rfl) rfl ?_
                  refine X.ret ?_
                  exact ⟨trivial, _, _, ⟨false, (by first | exact rfl | exact (absurd hao.symm ‹_›) | exact (by rw [addR_no ‹_›]; simp) | exact (by have hq := (‹Option.isSome _ = false›); rw [hfd] at hq; cases hq) | exact (by have hq := (‹sameB _ _ = false›); rw [hfd] at hq; exact tf (sameB_self _) hq) | exact (tf (addOk_tree hok) ‹_›) | exact (by rw [‹treeOk _ = false›]; rfl) | exact (tf (allEq_iff.2 (add_same ‹_› hok ‹_›)) ‹_›) | exact (by have hq := add_len ‹_› hok; simp only [List.length_map] at *; first | omega | simp [hq])), rfl, rfl⟩, .inl (Ret.mk' [] (by kernel_rfl) (by kernel_rfl) (by kernel_rfl))⟩
              · refine CH.alt 63 (sV (.bool ((sameB (((findB (addR r5 r6) r6.f0).getD z59)) r6)))) (sV (.bool false)) (by kernel_rfl) (by rw [hb43]) ?_
                refine CH.alt 64 (sV (.bool ((sameB (((findB (addR r5 r6) r6.f0).getD z59)) r6)))) (sV (.bool false)) (by kernel_rfl) (by rw [hb43]) ?_
                refine CH.alt 65 (sV (.bool ((sameB (((findB (addR r5 r6) r6.f0).getD z59)) r6)))) (sV (.bool false)) (by kernel_rfl) (by rw [hb43]) ?_
                refine CH.go 9 hτ (by kernel_rfl) ?_
                refine CH.endk ⟨[(2, bV false)], [], 1072⟩ (by kernel_rfl) (by kernel_rfl) rfl ?_
                refine X.ret ?_
                exact ⟨trivial, _, _, ⟨false, (by first | exact rfl | exact (absurd hao.symm ‹_›) | exact (by rw [addR_no ‹_›]; simp) | exact (by have hq := (‹Option.isSome _ = false›); rw [hfd] at hq; cases hq) | exact (by have hq := (‹sameB _ _ = false›); rw [hfd] at hq; exact tf (sameB_self _) hq) | exact (tf (addOk_tree hok) ‹_›) | exact (by rw [‹treeOk _ = false›]; rfl) | exact (tf (allEq_iff.2 (add_same ‹_› hok ‹_›)) ‹_›) | exact (by have hq := add_len ‹_› hok; simp only [List.length_map] at *; first | omega | simp [hq])), rfl, rfl⟩, .inl (Ret.mk' [] (by kernel_rfl) (by kernel_rfl) (by kernel_rfl))⟩
            · refine CH.alt 10 (sV (.bool ((findB (addR r5 r6) r6.f0).isSome))) (sV (.bool false)) (by kernel_rfl) (by rw [hb38]) ?_
              refine CH.alt 59 (sV (.bool ((findB (addR r5 r6) r6.f0).isSome))) (sV (.bool false)) (by kernel_rfl) (by rw [hb38]) ?_
              refine CH.alt 60 (sV (.bool ((findB (addR r5 r6) r6.f0).isSome))) (sV (.bool false)) (by kernel_rfl) (by rw [hb38]) ?_
              refine CH.go 14 hτ (by kernel_rfl) ?_
              refine CH.endk ⟨[(2, bV false)], [], 1072⟩ (by kernel_rfl) (by kernel_rfl) rfl ?_
              refine X.ret ?_
              exact ⟨trivial, _, _, ⟨false, (by first | exact rfl | exact (absurd hao.symm ‹_›) | exact (by rw [addR_no ‹_›]; simp) | exact (by have hq := (‹Option.isSome _ = false›); rw [hfd] at hq; cases hq) | exact (by have hq := (‹sameB _ _ = false›); rw [hfd] at hq; exact tf (sameB_self _) hq) | exact (tf (addOk_tree hok) ‹_›) | exact (by rw [‹treeOk _ = false›]; rfl) | exact (tf (allEq_iff.2 (add_same ‹_› hok ‹_›)) ‹_›) | exact (by have hq := add_len ‹_› hok; simp only [List.length_map] at *; first | omega | simp [hq])), rfl, rfl⟩, .inl (Ret.mk' [] (by kernel_rfl) (by kernel_rfl) (by kernel_rfl))⟩
          · replace hb37 := bnot_no (hb37)
            refine X.skip ?_
            refine X.seq ?_
            refine X.seq ?_
            refine X.rk ⟨[(3, .e (.c (.f (.sl (r5.map d59))))), (4, .pt 192 0 0), (5, rV 272), (9, .pt 720 0 0), (10, bV ((findB (addR r5 r6) r6.f0).isSome)), (11, iV 0)], [(192, some (.box [.d (.v (.int .i64 r6.f0)), .d (.v (.int .i64 r6.f1)), .d (.v (.int .i64 r6.f2)), .d (.v (.string r6.f3)), .d (.v (.int .i64 r6.f4.f0)), .d (.v (.int .i64 r6.f4.f1)), .f (.sl (r6.f4.f2.map dS)), .d (.v (.int .i64 r6.f5.f0)), .f (.sl (r6.f5.f1.map dS)), .f (.sl (r6.f5.f2.map dI)), .f (.sl (r6.f6.map d120)), .d (.v (.bool r6.f7)), .f (.sl (r6.f8.map d122)), .d (.v (.string r6.f9))])), (272, some (.row 14 59 ((addR r5 r6).map d59) false true)), (720, some (.box [.d (.v (.int .i64 ((((findB (addR r5 r6) r6.f0).getD z59)).f0))), .d (.v (.int .i64 ((((findB (addR r5 r6) r6.f0).getD z59)).f1))), .d (.v (.int .i64 ((((findB (addR r5 r6) r6.f0).getD z59)).f2))), .d (.v (.string ((((findB (addR r5 r6) r6.f0).getD z59)).f3))), .d (.v (.int .i64 (((((findB (addR r5 r6) r6.f0).getD z59)).f4).f0))), .d (.v (.int .i64 (((((findB (addR r5 r6) r6.f0).getD z59)).f4).f1))), .f (.sl ((((((findB (addR r5 r6) r6.f0).getD z59)).f4).f2).map dS)), .d (.v (.int .i64 (((((findB (addR r5 r6) r6.f0).getD z59)).f5).f0))), .f (.sl ((((((findB (addR r5 r6) r6.f0).getD z59)).f5).f1).map dS)), .f (.sl ((((((findB (addR r5 r6) r6.f0).getD z59)).f5).f2).map dI)), .f (.sl (((((findB (addR r5 r6) r6.f0).getD z59)).f6).map d120)), .d (.v (.bool ((((findB (addR r5 r6) r6.f0).getD z59)).f7))), .f (.sl (((((findB (addR r5 r6) r6.f0).getD z59)).f8).map d122)), .d (.v (.string ((((findB (addR r5 r6) r6.f0).getD z59)).f9)))]))], 832⟩ hτ hmix (by kernel_rfl) (by kernel_rfl) rfl ?_
            refine X.block ?_
            -- 12: v11 : Int
            refine X.loop (σ := { g : Int // (fun (v11 : Int) => 0 ≤ v11 ∧ v11 ≤ r5.length) g }) (fun g => (fun (v11 : Int) => ⟨[(3, .e (.c (.f (.sl (r5.map d59))))), (4, .pt 192 0 0), (5, rV 272), (9, .pt 720 0 0), (10, bV ((findB (addR r5 r6) r6.f0).isSome)), (11, iV v11)], [(192, some (.box [.d (.v (.int .i64 r6.f0)), .d (.v (.int .i64 r6.f1)), .d (.v (.int .i64 r6.f2)), .d (.v (.string r6.f3)), .d (.v (.int .i64 r6.f4.f0)), .d (.v (.int .i64 r6.f4.f1)), .f (.sl (r6.f4.f2.map dS)), .d (.v (.int .i64 r6.f5.f0)), .f (.sl (r6.f5.f1.map dS)), .f (.sl (r6.f5.f2.map dI)), .f (.sl (r6.f6.map d120)), .d (.v (.bool r6.f7)), .f (.sl (r6.f8.map d122)), .d (.v (.string r6.f9))])), (272, some (.row 14 59 ((addR r5 r6).map d59) false true)), (720, some (.box [.d (.v (.int .i64 ((((findB (addR r5 r6) r6.f0).getD z59)).f0))), .d (.v (.int .i64 ((((findB (addR r5 r6) r6.f0).getD z59)).f1))), .d (.v (.int .i64 ((((findB (addR r5 r6) r6.f0).getD z59)).f2))), .d (.v (.string ((((findB (addR r5 r6) r6.f0).getD z59)).f3))), .d (.v (.int .i64 (((((findB (addR r5 r6) r6.f0).getD z59)).f4).f0))), .d (.v (.int .i64 (((((findB (addR r5 r6) r6.f0).getD z59)).f4).f1))), .f (.sl ((((((findB (addR r5 r6) r6.f0).getD z59)).f4).f2).map dS)), .d (.v (.int .i64 (((((findB (addR r5 r6) r6.f0).getD z59)).f5).f0))), .f (.sl ((((((findB (addR r5 r6) r6.f0).getD z59)).f5).f1).map dS)), .f (.sl ((((((findB (addR r5 r6) r6.f0).getD z59)).f5).f2).map dI)), .f (.sl (((((findB (addR r5 r6) r6.f0).getD z59)).f6).map d120)), .d (.v (.bool ((((findB (addR r5 r6) r6.f0).getD z59)).f7))), .f (.sl (((((findB (addR r5 r6) r6.f0).getD z59)).f8).map d122)), .d (.v (.string ((((findB (addR r5 r6) r6.f0).getD z59)).f9)))]))], 832⟩) g.1) (fun g => (fun (v11 : Int) => (r5.length - v11).toNat) g.1) ⟨0, by first | exact rfl | omega | (dsimp only; omega) | (simp only [List.length_append, List.length_cons, List.length_nil, List.length_set]; omega) | (simp; done) | (simp; omega)⟩ (Wk.less (by kernel_rfl)) (fun g => ?_)
            obtain ⟨v11, hg54⟩ := g
            have hg54 : 0 ≤ v11 ∧ v11 ≤ r5.length := hg54
            refine X.seq ?_
            refine X.seq ?_
            have el55 : (r5.map d59).length = r5.length := List.length_map ..
            refine X.rk ⟨[(3, .e (.c (.f (.sl (r5.map d59))))), (4, .pt 192 0 0), (5, rV 272), (9, .pt 720 0 0), (10, bV ((findB (addR r5 r6) r6.f0).isSome)), (11, iV v11), (77, bV (decide ((v11 : Int) < ((r5.map d59).length : Int))))], [(192, some (.box [.d (.v (.int .i64 r6.f0)), .d (.v (.int .i64 r6.f1)), .d (.v (.int .i64 r6.f2)), .d (.v (.string r6.f3)), .d (.v (.int .i64 r6.f4.f0)), .d (.v (.int .i64 r6.f4.f1)), .f (.sl (r6.f4.f2.map dS)), .d (.v (.int .i64 r6.f5.f0)), .f (.sl (r6.f5.f1.map dS)), .f (.sl (r6.f5.f2.map dI)), .f (.sl (r6.f6.map d120)), .d (.v (.bool r6.f7)), .f (.sl (r6.f8.map d122)), .d (.v (.string r6.f9))])), (272, some (.row 14 59 ((addR r5 r6).map d59) false true)), (720, some (.box [.d (.v (.int .i64 ((((findB (addR r5 r6) r6.f0).getD z59)).f0))), .d (.v (.int .i64 ((((findB (addR r5 r6) r6.f0).getD z59)).f1))), .d (.v (.int .i64 ((((findB (addR r5 r6) r6.f0).getD z59)).f2))), .d (.v (.string ((((findB (addR r5 r6) r6.f0).getD z59)).f3))), .d (.v (.int .i64 (((((findB (addR r5 r6) r6.f0).getD z59)).f4).f0))), .d (.v (.int .i64 (((((findB (addR r5 r6) r6.f0).getD z59)).f4).f1))), .f (.sl ((((((findB (addR r5 r6) r6.f0).getD z59)).f4).f2).map dS)), .d (.v (.int .i64 (((((findB (addR r5 r6) r6.f0).getD z59)).f5).f0))), .f (.sl ((((((findB (addR r5 r6) r6.f0).getD z59)).f5).f1).map dS)), .f (.sl ((((((findB (addR r5 r6) r6.f0).getD z59)).f5).f2).map dI)), .f (.sl (((((findB (addR r5 r6) r6.f0).getD z59)).f6).map d120)), .d (.v (.bool ((((findB (addR r5 r6) r6.f0).getD z59)).f7))), .f (.sl (((((findB (addR r5 r6) r6.f0).getD z59)).f8).map d122)), .d (.v (.string ((((findB (addR r5 r6) r6.f0).getD z59)).f9)))]))], 896⟩ hτ hmix (by kernel_rfl) (by kernel_rfl) rfl ?_
            refine X.if_ (b := decide ((v11 : Int) < ((r5.map d59).length : Int))) (by kernel_rfl) (fun hb56 => ?_) (fun hb56 => ?_)
            · replace hb56 := of_decide_eq_true (hb56)
              refine X.skip ?_
              refine X.seq ?_
              refine X.block ?_
              refine X.seq ?_
              refine X.rs 3 hτ hmix (by kernel_rfl) ?_
              obtain ⟨x57, hx57⟩ : ∃ x, r5[Int.toNat v11]? = some x := ⟨_, List.getElem?_eq_getElem (by first | omega | (simp; done) | (simp; omega))⟩
              refine CH.idx hτ (d59 x57) (rows := (r5.map d59)) (n := v11) (sz := 14) (by kernel_rfl) (by kernel_rfl) (by first | omega | (simp; done) | (simp; omega)) (by rw [List.getElem?_map, hx57]; rfl) (by kernel_rfl) ?_
              refine CH.go 2 hτ (by kernel_rfl) ?_
              obtain ⟨r58, hr60, hf59⟩ := i_ChainOf (addR r5 r6) x57.f0 (by assumption)
              replace hr60 := hr60.symm; subst hr60
              have hch := chainOf_len (addR r5 r6) x57.f0
              refine CH.call hf59 Try.func26 ⟨rfl, rfl⟩ [] (by kernel_rfl) (by kernel_rfl) (by kernel_rfl) (by kernel_rfl) ?_
              refine CH.go 3 hτ (by kernel_rfl) ?_
              refine CH.idx hτ (d59 x57) (rows := (r5.map d59)) (n := v11) (sz := 14) (by kernel_rfl) (by kernel_rfl) (by first | omega | (simp; done) | (simp; omega)) (by rw [List.getElem?_map, hx57]; rfl) (by kernel_rfl) ?_
              refine CH.go 2 hτ (by kernel_rfl) ?_
              obtain ⟨r62, hr64, hf63⟩ := i_ChainOf r5 x57.f0 (by assumption)
              replace hr64 := hr64.symm; subst hr64
              have hch := chainOf_len r5 x57.f0
              refine CH.call hf63 Try.func26 ⟨rfl, rfl⟩ [] (by kernel_rfl) (by kernel_rfl) (by kernel_rfl) (by kernel_rfl) ?_
              obtain ⟨r66, hr68, hf67⟩ := l_sameInts (chainOf (addR r5 r6) x57.f0) (chainOf r5 x57.f0) (by omega) (by omega)
              replace hr68 := hr68.symm; subst hr68
              refine CH.call hf67 Try.func45 ⟨rfl, rfl⟩ [] (by kernel_rfl) (by kernel_rfl) (by kernel_rfl) (by kernel_rfl) ?_
              refine CH.go 1 hτ (by kernel_rfl) ?_
              refine CH.endk ⟨[(3, .e (.c (.f (.sl (r5.map d59))))), (4, .pt 192 0 0), (5, rV 272), (9, .pt 720 0 0), (10, bV ((findB (addR r5 r6) r6.f0).isSome)), (11, iV v11), (95, bV (!(allEq (chainOf (addR r5 r6) x57.f0) (chainOf r5 x57.f0))))], [(192, some (.box [.d (.v (.int .i64 r6.f0)), .d (.v (.int .i64 r6.f1)), .d (.v (.int .i64 r6.f2)), .d (.v (.string r6.f3)), .d (.v (.int .i64 r6.f4.f0)), .d (.v (.int .i64 r6.f4.f1)), .f (.sl (r6.f4.f2.map dS)), .d (.v (.int .i64 r6.f5.f0)), .f (.sl (r6.f5.f1.map dS)), .f (.sl (r6.f5.f2.map dI)), .f (.sl (r6.f6.map d120)), .d (.v (.bool r6.f7)), .f (.sl (r6.f8.map d122)), .d (.v (.string r6.f9))])), (272, some (.row 14 59 ((addR r5 r6).map d59) false true)), (720, some (.box [.d (.v (.int .i64 ((((findB (addR r5 r6) r6.f0).getD z59)).f0))), .d (.v (.int .i64 ((((findB (addR r5 r6) r6.f0).getD z59)).f1))), .d (.v (.int .i64 ((((findB (addR r5 r6) r6.f0).getD z59)).f2))), .d (.v (.string ((((findB (addR r5 r6) r6.f0).getD z59)).f3))), .d (.v (.int .i64 (((((findB (addR r5 r6) r6.f0).getD z59)).f4).f0))), .d (.v (.int .i64 (((((findB (addR r5 r6) r6.f0).getD z59)).f4).f1))), .f (.sl ((((((findB (addR r5 r6) r6.f0).getD z59)).f4).f2).map dS)), .d (.v (.int .i64 (((((findB (addR r5 r6) r6.f0).getD z59)).f5).f0))), .f (.sl ((((((findB (addR r5 r6) r6.f0).getD z59)).f5).f1).map dS)), .f (.sl ((((((findB (addR r5 r6) r6.f0).getD z59)).f5).f2).map dI)), .f (.sl (((((findB (addR r5 r6) r6.f0).getD z59)).f6).map d120)), .d (.v (.bool ((((findB (addR r5 r6) r6.f0).getD z59)).f7))), .f (.sl (((((findB (addR r5 r6) r6.f0).getD z59)).f8).map d122)), .d (.v (.string ((((findB (addR r5 r6) r6.f0).getD z59)).f9)))]))], 1152⟩ (by kernel_rfl) (by kernel_rfl) rfl ?_
              refine X.if_ (b := !(allEq (chainOf (addR r5 r6) x57.f0) (chainOf r5 x57.f0))) (by kernel_rfl) (fun hb70 => ?_) (fun hb70 => ?_)
              · replace hb70 := bnot_yes (hb70)
                refine X.seq ?_
                refine X.rk ⟨[(2, bV false)], [], 1168⟩ hτ hmix (by kernel_rfl) (by kernel_rfl) rfl ?_
                refine X.ret ?_
                exact ⟨trivial, _, _, ⟨false, (by first | exact rfl | exact (absurd hao.symm ‹_›) | exact (by rw [addR_no ‹_›]; simp) | exact (by have hq := (‹Option.isSome _ = false›); rw [hfd] at hq; cases hq) | exact (by have hq := (‹sameB _ _ = false›); rw [hfd] at hq; exact tf (sameB_self _) hq) | exact (tf (addOk_tree hok) ‹_›) | exact (by rw [‹treeOk _ = false›]; rfl) | exact (tf (allEq_iff.2 (add_same ‹_› hok ‹_›)) ‹_›) | exact (by have hq := add_len ‹_› hok; simp only [List.length_map] at *; first | omega | simp [hq])), rfl, rfl⟩, .inl (Ret.mk' [] (by kernel_rfl) (by kernel_rfl) (by kernel_rfl))⟩
              · replace hb70 := bnot_no (hb70)
                refine X.skip ?_
                refine X.rk ⟨[(3, .e (.c (.f (.sl (r5.map d59))))), (4, .pt 192 0 0), (5, rV 272), (9, .pt 720 0 0), (10, bV ((findB (addR r5 r6) r6.f0).isSome)), (11, iV (wrap64 (v11 + 1)))], [(192, some (.box [.d (.v (.int .i64 r6.f0)), .d (.v (.int .i64 r6.f1)), .d (.v (.int .i64 r6.f2)), .d (.v (.string r6.f3)), .d (.v (.int .i64 r6.f4.f0)), .d (.v (.int .i64 r6.f4.f1)), .f (.sl (r6.f4.f2.map dS)), .d (.v (.int .i64 r6.f5.f0)), .f (.sl (r6.f5.f1.map dS)), .f (.sl (r6.f5.f2.map dI)), .f (.sl (r6.f6.map d120)), .d (.v (.bool r6.f7)), .f (.sl (r6.f8.map d122)), .d (.v (.string r6.f9))])), (272, some (.row 14 59 ((addR r5 r6).map d59) false true)), (720, some (.box [.d (.v (.int .i64 ((((findB (addR r5 r6) r6.f0).getD z59)).f0))), .d (.v (.int .i64 ((((findB (addR r5 r6) r6.f0).getD z59)).f1))), .d (.v (.int .i64 ((((findB (addR r5 r6) r6.f0).getD z59)).f2))), .d (.v (.string ((((findB (addR r5 r6) r6.f0).getD z59)).f3))), .d (.v (.int .i64 (((((findB (addR r5 r6) r6.f0).getD z59)).f4).f0))), .d (.v (.int .i64 (((((findB (addR r5 r6) r6.f0).getD z59)).f4).f1))), .f (.sl ((((((findB (addR r5 r6) r6.f0).getD z59)).f4).f2).map dS)), .d (.v (.int .i64 (((((findB (addR r5 r6) r6.f0).getD z59)).f5).f0))), .f (.sl ((((((findB (addR r5 r6) r6.f0).getD z59)).f5).f1).map dS)), .f (.sl ((((((findB (addR r5 r6) r6.f0).getD z59)).f5).f2).map dI)), .f (.sl (((((findB (addR r5 r6) r6.f0).getD z59)).f6).map d120)), .d (.v (.bool ((((findB (addR r5 r6) r6.f0).getD z59)).f7))), .f (.sl (((((findB (addR r5 r6) r6.f0).getD z59)).f8).map d122)), .d (.v (.string ((((findB (addR r5 r6) r6.f0).getD z59)).f9)))]))], 1200⟩ hτ hmix (by kernel_rfl) (by kernel_rfl) (s2 := ⟨[(3, .e (.c (.f (.sl (r5.map d59))))), (4, .pt 192 0 0), (5, rV 272), (9, .pt 720 0 0), (10, bV ((findB (addR r5 r6) r6.f0).isSome)), (11, iV (v11 + 1))], [(192, some (.box [.d (.v (.int .i64 r6.f0)), .d (.v (.int .i64 r6.f1)), .d (.v (.int .i64 r6.f2)), .d (.v (.string r6.f3)), .d (.v (.int .i64 r6.f4.f0)), .d (.v (.int .i64 r6.f4.f1)), .f (.sl (r6.f4.f2.map dS)), .d (.v (.int .i64 r6.f5.f0)), .f (.sl (r6.f5.f1.map dS)), .f (.sl (r6.f5.f2.map dI)), .f (.sl (r6.f6.map d120)), .d (.v (.bool r6.f7)), .f (.sl (r6.f8.map d122)), .d (.v (.string r6.f9))])), (272, some (.row 14 59 ((addR r5 r6).map d59) false true)), (720, some (.box [.d (.v (.int .i64 ((((findB (addR r5 r6) r6.f0).getD z59)).f0))), .d (.v (.int .i64 ((((findB (addR r5 r6) r6.f0).getD z59)).f1))), .d (.v (.int .i64 ((((findB (addR r5 r6) r6.f0).getD z59)).f2))), .d (.v (.string ((((findB (addR r5 r6) r6.f0).getD z59)).f3))), .d (.v (.int .i64 (((((findB (addR r5 r6) r6.f0).getD z59)).f4).f0))), .d (.v (.int .i64 (((((findB (addR r5 r6) r6.f0).getD z59)).f4).f1))), .f (.sl ((((((findB (addR r5 r6) r6.f0).getD z59)).f4).f2).map dS)), .d (.v (.int .i64 (((((findB (addR r5 r6) r6.f0).getD z59)).f5).f0))), .f (.sl ((((((findB (addR r5 r6) r6.f0).getD z59)).f5).f1).map dS)), .f (.sl ((((((findB (addR r5 r6) r6.f0).getD z59)).f5).f2).map dI)), .f (.sl (((((findB (addR r5 r6) r6.f0).getD z59)).f6).map d120)), .d (.v (.bool ((((findB (addR r5 r6) r6.f0).getD z59)).f7))), .f (.sl (((((findB (addR r5 r6) r6.f0).getD z59)).f8).map d122)), .d (.v (.string ((((findB (addR r5 r6) r6.f0).getD z59)).f9)))]))], 1200⟩) (congrArg (fun z : Int => (⟨[(3, .e (.c (.f (.sl (r5.map d59))))), (4, .pt 192 0 0), (5, rV 272), (9, .pt 720 0 0), (10, bV ((findB (addR r5 r6) r6.f0).isSome)), (11, iV z)], [(192, some (.box [.d (.v (.int .i64 r6.f0)), .d (.v (.int .i64 r6.f1)), .d (.v (.int .i64 r6.f2)), .d (.v (.string r6.f3)), .d (.v (.int .i64 r6.f4.f0)), .d (.v (.int .i64 r6.f4.f1)), .f (.sl (r6.f4.f2.map dS)), .d (.v (.int .i64 r6.f5.f0)), .f (.sl (r6.f5.f1.map dS)), .f (.sl (r6.f5.f2.map dI)), .f (.sl (r6.f6.map d120)), .d (.v (.bool r6.f7)), .f (.sl (r6.f8.map d122)), .d (.v (.string r6.f9))])), (272, some (.row 14 59 ((addR r5 r6).map d59) false true)), (720, some (.box [.d (.v (.int .i64 ((((findB (addR r5 r6) r6.f0).getD z59)).f0))), .d (.v (.int .i64 ((((findB (addR r5 r6) r6.f0).getD z59)).f1))), .d (.v (.int .i64 ((((findB (addR r5 r6) r6.f0).getD z59)).f2))), .d (.v (.string ((((findB (addR r5 r6) r6.f0).getD z59)).f3))), .d (.v (.int .i64 (((((findB (addR r5 r6) r6.f0).getD z59)).f4).f0))), .d (.v (.int .i64 (((((findB (addR r5 r6) r6.f0).getD z59)).f4).f1))), .f (.sl ((((((findB (addR r5 r6) r6.f0).getD z59)).f4).f2).map dS)), .d (.v (.int .i64 (((((findB (addR r5 r6) r6.f0).getD z59)).f5).f0))), .f (.sl ((((((findB (addR r5 r6) r6.f0).getD z59)).f5).f1).map dS)), .f (.sl ((((((findB (addR r5 r6) r6.f0).getD z59)).f5).f2).map dI)), .f (.sl (((((findB (addR r5 r6) r6.f0).getD z59)).f6).map d120)), .d (.v (.bool ((((findB (addR r5 r6) r6.f0).getD z59)).f7))), .f (.sl (((((findB (addR r5 r6) r6.f0).getD z59)).f8).map d122)), .d (.v (.string ((((findB (addR r5 r6) r6.f0).getD z59)).f9)))]))], 1200⟩ : St)) (show wrap64 (v11 + 1) = (v11 + 1) by rw [w64 (n := (v11 + 1)) (by omega) (by omega)])) ?_
                refine ⟨⟨(v11 + 1), by first | exact rfl | omega | (dsimp only; omega) | (simp only [List.length_append, List.length_cons, List.length_nil, List.length_set]; omega) | (simp; done) | (simp; omega)⟩, by first | exact rfl | omega | (dsimp only; omega) | (simp only [List.length_append, List.length_cons, List.length_nil, List.length_set]; omega) | (simp; done) | (simp; omega), Wk.mk' [(192, 192), (272, 272), (720, 720)] (by kernel_rfl) (by kernel_rfl) (by kernel_rfl)⟩
            · replace hb56 := of_decide_eq_false (hb56)
              refine X.exit ?_
              refine X.seq ?_
              refine X.rs 3 hτ hmix (by kernel_rfl) ?_
              obtain ⟨r71, hr73, hf72⟩ := i_ChainOf (addR r5 r6) r6.f0 (by assumption)
              replace hr73 := hr73.symm; subst hr73
              have hch := chainOf_len (addR r5 r6) r6.f0
              refine CH.call hf72 Try.func26 ⟨rfl, rfl⟩ [] (by kernel_rfl) (by kernel_rfl) (by kernel_rfl) (by kernel_rfl) ?_
              refine CH.go 1 hτ (by kernel_rfl) ?_
              refine CH.endk ⟨[(3, .e (.c (.f (.sl (r5.map d59))))), (4, .pt 192 0 0), (5, rV 272), (9, .pt 720 0 0), (10, bV ((findB (addR r5 r6) r6.f0).isSome)), (12, .e (.c (.f (.sl ((chainOf (addR r5 r6) r6.f0).map dI)))))], [(192, some (.box [.d (.v (.int .i64 r6.f0)), .d (.v (.int .i64 r6.f1)), .d (.v (.int .i64 r6.f2)), .d (.v (.string r6.f3)), .d (.v (.int .i64 r6.f4.f0)), .d (.v (.int .i64 r6.f4.f1)), .f (.sl (r6.f4.f2.map dS)), .d (.v (.int .i64 r6.f5.f0)), .f (.sl (r6.f5.f1.map dS)), .f (.sl (r6.f5.f2.map dI)), .f (.sl (r6.f6.map d120)), .d (.v (.bool r6.f7)), .f (.sl (r6.f8.map d122)), .d (.v (.string r6.f9))])), (272, some (.row 14 59 ((addR r5 r6).map d59) false true)), (720, some (.box [.d (.v (.int .i64 ((((findB (addR r5 r6) r6.f0).getD z59)).f0))), .d (.v (.int .i64 ((((findB (addR r5 r6) r6.f0).getD z59)).f1))), .d (.v (.int .i64 ((((findB (addR r5 r6) r6.f0).getD z59)).f2))), .d (.v (.string ((((findB (addR r5 r6) r6.f0).getD z59)).f3))), .d (.v (.int .i64 (((((findB (addR r5 r6) r6.f0).getD z59)).f4).f0))), .d (.v (.int .i64 (((((findB (addR r5 r6) r6.f0).getD z59)).f4).f1))), .f (.sl ((((((findB (addR r5 r6) r6.f0).getD z59)).f4).f2).map dS)), .d (.v (.int .i64 (((((findB (addR r5 r6) r6.f0).getD z59)).f5).f0))), .f (.sl ((((((findB (addR r5 r6) r6.f0).getD z59)).f5).f1).map dS)), .f (.sl ((((((findB (addR r5 r6) r6.f0).getD z59)).f5).f2).map dI)), .f (.sl (((((findB (addR r5 r6) r6.f0).getD z59)).f6).map d120)), .d (.v (.bool ((((findB (addR r5 r6) r6.f0).getD z59)).f7))), .f (.sl (((((findB (addR r5 r6) r6.f0).getD z59)).f8).map d122)), .d (.v (.string ((((findB (addR r5 r6) r6.f0).getD z59)).f9)))]))], 976⟩ (by kernel_rfl) (by kernel_rfl) rfl ?_
              refine X.seq ?_
              refine X.rs 2 hτ hmix (by kernel_rfl) ?_
              rcases Bool.eq_false_or_eq_true ((findB (addR r5 r6) r6.f0).isSome) with hb75 | hb75
              · refine CH.alt 10 (sV (.bool ((findB (addR r5 r6) r6.f0).isSome))) (sV (.bool true)) (by kernel_rfl) (by rw [hb75]) ?_
                refine CH.alt 100 (sV (.bool ((findB (addR r5 r6) r6.f0).isSome))) (sV (.bool true)) (by kernel_rfl) (by rw [hb75]) ?_
                refine CH.alt 101 (sV (.bool ((findB (addR r5 r6) r6.f0).isSome))) (sV (.bool true)) (by kernel_rfl) (by rw [hb75]) ?_
                refine CH.go 2 hτ (by kernel_rfl) ?_
                obtain ⟨r76, hr78, hf77⟩ := i_SameBlock (((findB (addR r5 r6) r6.f0).getD z59)) r6 (by rw [hfd]; exact hb) (by exact hb)
                replace hr78 := hr78.symm; subst hr78
                refine CH.call hf77 Try.func44 ⟨rfl, rfl⟩ [] (by kernel_rfl) (by kernel_rfl) (by kernel_rfl) (by kernel_rfl) ?_
                refine CH.go 2 hτ (by kernel_rfl) ?_
                rcases Bool.eq_false_or_eq_true ((sameB (((findB (addR r5 r6) r6.f0).getD z59)) r6)) with hb80 | hb80
                · refine CH.alt 104 (sV (.bool ((sameB (((findB (addR r5 r6) r6.f0).getD z59)) r6)))) (sV (.bool true)) (by kernel_rfl) (by rw [hb80]) ?_
                  refine CH.alt 105 (sV (.bool ((sameB (((findB (addR r5 r6) r6.f0).getD z59)) r6)))) (sV (.bool true)) (by kernel_rfl) (by rw [hb80]) ?_
                  refine CH.alt 106 (sV (.bool ((sameB (((findB (addR r5 r6) r6.f0).getD z59)) r6)))) (sV (.bool true)) (by kernel_rfl) (by rw [hb80]) ?_
                  refine CH.go 1 hτ (by kernel_rfl) ?_
                  obtain ⟨r81, hr83, hf82⟩ := i_TreeOk (addR r5 r6) (by assumption)
                  replace hr83 := hr83.symm; subst hr83
                  refine CH.call hf82 Try.func22 ⟨rfl, rfl⟩ [] (by kernel_rfl) (by kernel_rfl) (by kernel_rfl) (by kernel_rfl) ?_
                  refine CH.go 2 hτ (by kernel_rfl) ?_
                  rcases Bool.eq_false_or_eq_true ((treeOk (addR r5 r6))) with hb85 | hb85
                  · refine CH.alt 108 (sV (.bool ((treeOk (addR r5 r6))))) (sV (.bool true)) (by kernel_rfl) (by rw [hb85]) ?_
                    refine CH.alt 109 (sV (.bool ((treeOk (addR r5 r6))))) (sV (.bool true)) (by kernel_rfl) (by rw [hb85]) ?_
                    refine CH.alt 110 (sV (.bool ((treeOk (addR r5 r6))))) (sV (.bool true)) (by kernel_rfl) (by rw [hb85]) ?_
                    refine CH.go 5 hτ (by kernel_rfl) ?_
                    have el86 : ((chainOf (addR r5 r6) r6.f0).map dI).length = (chainOf (addR r5 r6) r6.f0).length := List.length_map ..
                    rcases Bool.eq_false_or_eq_true (decide (((((chainOf (addR r5 r6) r6.f0).map dI).length : Int) : Int) > 0)) with hb87 | hb87
                    · refine CH.alt 113 (sV (.bool (decide (((((chainOf (addR r5 r6) r6.f0).map dI).length : Int) : Int) > 0)))) (sV (.bool true)) (by kernel_rfl) (by rw [hb87]) ?_
                      refine CH.alt 114 (sV (.bool (decide (((((chainOf (addR r5 r6) r6.f0).map dI).length : Int) : Int) > 0)))) (sV (.bool true)) (by kernel_rfl) (by rw [hb87]) ?_
                      refine CH.alt 115 (sV (.bool (decide (((((chainOf (addR r5 r6) r6.f0).map dI).length : Int) : Int) > 0)))) (sV (.bool true)) (by kernel_rfl) (by rw [hb87]) ?_
                      replace hb87 := of_decide_eq_true (hb87)
                      refine CH.go 6 hτ (by kernel_rfl) ?_
                      obtain ⟨r88, hr90, hf89⟩ := i_ChainOf r5 r6.f4.f1 (by assumption)
                      replace hr90 := hr90.symm; subst hr90
                      have hch := chainOf_len r5 r6.f4.f1
                      refine CH.call hf89 Try.func26 ⟨rfl, rfl⟩ [] (by kernel_rfl) (by kernel_rfl) (by kernel_rfl) (by kernel_rfl) ?_
                      refine CH.go 5 hτ (by kernel_rfl) ?_
                      have el92 : ((chainOf r5 r6.f4.f1).map dI).length = (chainOf r5 r6.f4.f1).length := List.length_map ..
                      refine CH.endk ⟨[(2, bV ((((chainOf (addR r5 r6) r6.f0).map dI).length : Int) == (wrap64 ((((chainOf r5 r6.f4.f1).map dI).length : Int) + 1))))], [], 1424⟩ (by kernel_rfl) (by kernel_rfl) (s2 := ⟨[(2, bV ((((chainOf (addR r5 r6) r6.f0).map dI).length : Int) == (((((chainOf r5 r6.f4.f1).map dI).length : Int) + 1))))], [], 1424⟩) (congrArg (fun z : Bool => (⟨[(2, bV z)], [], 1424⟩ : St)) (show ((((chainOf (addR r5 r6) r6.f0).map dI).length : Int) == (wrap64 ((((chainOf r5 r6.f4.f1).map dI).length : Int) + 1))) = ((((chainOf (addR r5 r6) r6.f0).map dI).length : Int) == (((((chainOf r5 r6.f4.f1).map dI).length : Int) + 1))) by rw [w64 (n := ((((chainOf r5 r6.f4.f1).map dI).length : Int) + 1)) (by omega) (by omega)])) ?_
                      refine X.ret ?_
                      exact ⟨trivial, _, _, ⟨((((chainOf (addR r5 r6) r6.f0).map dI).length : Int) == (((((chainOf r5 r6.f4.f1).map dI).length : Int) + 1))), (by first | exact rfl | exact (absurd hao.symm ‹_›) | exact (by rw [addR_no ‹_›]; simp) | exact (by have hq := (‹Option.isSome _ = false›); rw [hfd] at hq; cases hq) | exact (by have hq := (‹sameB _ _ = false›); rw [hfd] at hq; exact tf (sameB_self _) hq) | exact (tf (addOk_tree hok) ‹_›) | exact (by rw [‹treeOk _ = false›]; rfl) | exact (tf (allEq_iff.2 (add_same ‹_› hok ‹_›)) ‹_›) | exact (by have hq := add_len ‹_› hok; simp only [List.length_map] at *; first | omega | simp [hq])), rfl, rfl⟩, .inl (Ret.mk' [] (by kernel_rfl) (by kernel_rfl) (by kernel_rfl))⟩
                    · refine CH.alt 113 (sV (.bool (decide (((((chainOf (addR r5 r6) r6.f0).map dI).length : Int) : Int) > 0)))) (sV (.bool false)) (by kernel_rfl) (by rw [hb87]) ?_
                      refine CH.alt 114 (sV (.bool (decide (((((chainOf (addR r5 r6) r6.f0).map dI).length : Int) : Int) > 0)))) (sV (.bool false)) (by kernel_rfl) (by rw [hb87]) ?_
                      refine CH.alt 115 (sV (.bool (decide (((((chainOf (addR r5 r6) r6.f0).map dI).length : Int) : Int) > 0)))) (sV (.bool false)) (by kernel_rfl) (by rw [hb87]) ?_
                      replace hb87 := of_decide_eq_false (hb87)
                      refine CH.go 12 hτ (by kernel_rfl) ?_
                      refine CH.endk ⟨[(2, bV false)], [], 1424⟩ (by kernel_rfl) (by kernel_rfl) rfl ?_
                      refine X.ret ?_
                      exact ⟨trivial, _, _, ⟨false, (by first | exact rfl | exact (absurd hao.symm ‹_›) | exact (by rw [addR_no ‹_›]; simp) | exact (by have hq := (‹Option.isSome _ = false›); rw [hfd] at hq; cases hq) | exact (by have hq := (‹sameB _ _ = false›); rw [hfd] at hq; exact tf (sameB_self _) hq) | exact (tf (addOk_tree hok) ‹_›) | exact (by rw [‹treeOk _ = false›]; rfl) | exact (tf (allEq_iff.2 (add_same ‹_› hok ‹_›)) ‹_›) | exact (by have hq := add_len ‹_› hok; simp only [List.length_map] at *; first | omega | simp [hq])), rfl, rfl⟩, .inl (Ret.mk' [] (by kernel_rfl) (by kernel_rfl) (by kernel_rfl))⟩
                  · refine CH.alt 108 (sV (.bool ((treeOk (addR r5 r6))))) (sV (.bool false)) (by kernel_rfl) (by rw [hb85]) ?_
                    refine CH.alt 109 (sV (.bool ((treeOk (addR r5 r6))))) (sV (.bool false)) (by kernel_rfl) (by rw [hb85]) ?_
                    refine CH.alt 110 (sV (.bool ((treeOk (addR r5 r6))))) (sV (.bool false)) (by kernel_rfl) (by rw [hb85]) ?_
                    refine CH.go 17 hτ (by kernel_rfl) ?_
                    refine CH.endk ⟨[(2, bV false)], [], 1424⟩ (by kernel_rfl) (by kernel_rfl) rfl ?_
                    refine X.ret ?_
                    exact ⟨trivial, _, _, ⟨false, (by first | exact rfl | exact (absurd hao.symm ‹_›) | exact (by rw [addR_no ‹_›]; simp) | exact (by have hq := (‹Option.isSome _ = false›); rw [hfd] at hq; cases hq) | exact (by have hq := (‹sameB _ _ = false›); rw [hfd] at hq; exact tf (sameB_self _) hq) | exact (tf (addOk_tree hok) ‹_›) | exact (by rw [‹treeOk _ = false›]; rfl) | exact (tf (allEq_iff.2 (add_same ‹_› hok ‹_›)) ‹_›) | exact (by have hq := add_len ‹_› hok; simp only [List.length_map] at *; first | omega | simp [hq])), rfl, rfl⟩, .inl (Ret.mk' [] (by kernel_rfl) (by kernel_rfl) (by kernel_rfl))⟩
                · refine CH.alt 104 (sV (.bool ((sameB (((findB (addR r5 r6) r6.f0).getD z59)) r6)))) (sV (.bool false)) (by kernel_rfl) (by rw [hb80]) ?_
                  refine CH.alt 105 (sV (.bool ((sameB (((findB (addR r5 r6) r6.f0).getD z59)) r6)))) (sV (.bool false)) (by kernel_rfl) (by rw [hb80]) ?_
                  refine CH.alt 106 (sV (.bool ((sameB (((findB (addR r5 r6) r6.f0).getD z59)) r6)))) (sV (.bool false)) (by kernel_rfl) (by rw [hb80]) ?_
                  refine CH.go 21 hτ (by kernel_rfl) ?_
                  refine CH.endk ⟨[(2, bV false)], [], 1424⟩ (by kernel_rfl) (by kernel_rfl) rfl ?_
                  refine X.ret ?_
                  exact ⟨trivial, _, _, ⟨false, (by first | exact rfl | exact (absurd hao.symm ‹_›) | exact (by rw [addR_no ‹_›]; simp) | exact (by have hq := (‹Option.isSome _ = false›); rw [hfd] at hq; cases hq) | exact (by have hq := (‹sameB _ _ = false›); rw [hfd] at hq; exact tf (sameB_self _) hq) | exact (tf (addOk_tree hok) ‹_›) | exact (by rw [‹treeOk _ = false›]; rfl) | exact (tf (allEq_iff.2 (add_same ‹_› hok ‹_›)) ‹_›) | exact (by have hq := add_len ‹_› hok; simp only [List.length_map] at *; first | omega | simp [hq])), rfl, rfl⟩, .inl (Ret.mk' [] (by kernel_rfl) (by kernel_rfl) (by kernel_rfl))⟩
              · refine CH.alt 10 (sV (.bool ((findB (addR r5 r6) r6.f0).isSome))) (sV (.bool false)) (by kernel_rfl) (by rw [hb75]) ?_
                refine CH.alt 100 (sV (.bool ((findB (addR r5 r6) r6.f0).isSome))) (sV (.bool false)) (by kernel_rfl) (by rw [hb75]) ?_
                refine CH.alt 101 (sV (.bool ((findB (addR r5 r6) r6.f0).isSome))) (sV (.bool false)) (by kernel_rfl) (by rw [hb75]) ?_
                refine CH.go 26 hτ (by kernel_rfl) ?_
                refine CH.endk ⟨[(2, bV false)], [], 1424⟩ (by kernel_rfl) (by kernel_rfl) rfl ?_
                refine X.ret ?_
                exact ⟨trivial, _, _, ⟨false, (by first | exact rfl | exact (absurd hao.symm ‹_›) | exact (by rw [addR_no ‹_›]; simp) | exact (by have hq := (‹Option.isSome _ = false›); rw [hfd] at hq; cases hq) | exact (by have hq := (‹sameB _ _ = false›); rw [hfd] at hq; exact tf (sameB_self _) hq) | exact (tf (addOk_tree hok) ‹_›) | exact (by rw [‹treeOk _ = false›]; rfl) | exact (tf (allEq_iff.2 (add_same ‹_› hok ‹_›)) ‹_›) | exact (by have hq := add_len ‹_› hok; simp only [List.length_map] at *; first | omega | simp [hq])), rfl, rfl⟩, .inl (Ret.mk' [] (by kernel_rfl) (by kernel_rfl) (by kernel_rfl))⟩
  obtain ⟨_, _, ⟨r0, q1, rfl, rfl⟩, hf⟩ := key
  exact ⟨r0, q1, hf⟩
end Go.Proofs.Ytnldeeefiidcaaa.Av
