/-
What functions of the program come to, walked one by one.
Conditions: none beside those that each theorem names.
-/
import Derived.Test.YtnldeeefiidcaaaAvK
set_option linter.unusedVariables false
set_option linter.unusedSimpArgs false
namespace Go.Proofs.Ytnldeeefiidcaaa.Av
open Go.RowKit
set_option maxRecDepth 20000
set_option maxHeartbeats 4000000

/-- Put in ahead of place k. -/
def insAt (l m : List S59) (k : Nat) : List S59 := l.take k ++ m ++ l.drop k
def atOf (l : List S59) (b : S59) : Nat := (l.takeWhile fun x => decide (x.f0 < b.f0)).length
def addTo (l : List S59) (b : S59) : List S59 := insAt l [b] (atOf l b)
noncomputable def addOk (l : List S59) (b : S59) : Bool := decide (idAt l b.f0 < 0) && treeOk (addTo l b)
section
variable {l L : List S59} {b : S59} {k : Nat}
theorem ins_len (hk : k ≤ l.length) : (insAt l [b] k).length = l.length + 1 := by simp [insAt]; omega
theorem ins_mem {x : S59} (h : x ∈ insAt l [b] k) : x ∈ l ∨ x = b := by
  simp only [insAt, List.mem_append, List.mem_singleton] at h
  rcases h with (h | h) | h
  · exact .inl (List.mem_of_mem_take h)
  · exact .inr h
  · exact .inl (List.mem_of_mem_drop h)
theorem ins_lo (hk : k ≤ l.length) {j : Nat} (hj : j < k) : (insAt l [b] k)[j]? = l[j]? := by
  unfold insAt
  rw [List.append_assoc, List.getElem?_append_left (by rw [List.length_take]; omega), List.getElem?_take, if_pos hj]
theorem ins_k (hk : k ≤ l.length) : (insAt l [b] k)[k]? = some b := by
  unfold insAt
  rw [List.append_assoc, List.getElem?_append_right (by rw [List.length_take]; omega), List.length_take, Nat.min_eq_left hk, Nat.sub_self]
  rfl
theorem ins_hi (hk : k ≤ l.length) {j : Nat} (hj : k ≤ j) : (insAt l [b] k)[j + 1]? = l[j]? := by
  unfold insAt
  rw [List.getElem?_append_right (by rw [List.length_append, List.length_take]; simp; omega), List.length_append, List.length_take, Nat.min_eq_left hk, List.getElem?_drop]
  congr 1
  simp
  omega
theorem atOf_le : atOf l b ≤ l.length := (List.takeWhile_prefix _).length_le
theorem atOf_is (hk : k ≤ l.length) (h1 : ∀ (j : Nat) (x : S59), j < k → l[j]? = some x → x.f0 < b.f0) (h2 : ∀ x, l[k]? = some x → ¬ x.f0 < b.f0) : atOf l b = k := by
  unfold atOf
  have e : l = l.take k ++ l.drop k := (List.take_append_drop k l).symm
  rw [e, List.takeWhile_append_of_pos (by
    intro x hx
    obtain ⟨j, hj⟩ := List.mem_iff_getElem?.1 hx
    rw [List.getElem?_take] at hj
    split at hj
    · exact decide_eq_true (h1 j x ‹_› hj)
    · cases hj)]
  have : (l.drop k).takeWhile (fun x => decide (x.f0 < b.f0)) = [] := by
    cases hd : l.drop k with
    | nil => rfl
    | cons y t =>
      have hy : l[k]? = some y := by
        have := List.getElem?_drop (xs := l) (i := k) (j := 0)
        rw [hd] at this
        simpa using this.symm
      rw [List.takeWhile_cons_of_neg]
      simpa using h2 y hy
  rw [this, List.append_nil, List.length_take]
  omega
theorem tree_lo (h : treeP (insAt l [b] k)) (hk : k ≤ l.length) {j : Nat} {x : S59} (hj : j < k) (hx : l[j]? = some x) : x.f0 < b.f0 :=
  asc_lt h (k - j - 1) j x b ((ins_lo hk hj).trans hx) (by rw [show j + 1 + (k - j - 1) = k by omega]; exact ins_k hk)
theorem tree_hi (h : treeP (insAt l [b] k)) (hk : k ≤ l.length) {j : Nat} {x : S59} (hj : k ≤ j) (hx : l[j]? = some x) : b.f0 < x.f0 :=
  asc_lt h (j - k) k b x (ins_k hk) (by rw [show k + 1 + (j - k) = j + 1 by omega]; exact (ins_hi hk hj).trans hx)
theorem ins_addTo (h : treeP (insAt l [b] k)) (hk : k ≤ l.length) : insAt l [b] k = addTo l b := by
  unfold addTo
  rw [atOf_is hk (fun j x hj hx => tree_lo h hk hj hx) (fun x hx => by have := tree_hi h hk (Nat.le_refl _) hx; omega)]
theorem bub_end (hk : k ≤ l.length) (hgt : ∀ (j : Nat) (x : S59), k ≤ j → l[j]? = some x → b.f0 < x.f0) (hst : ∀ x, 0 < k → l[k - 1]? = some x → x.f0 ≤ b.f0) (h : treeP (addTo l b)) : addTo l b = insAt l [b] k := by
  have ha : atOf l b ≤ l.length := atOf_le
  have e : atOf l b = k := by
    rcases Nat.lt_trichotomy (atOf l b) k with q | q | q
    · have hx : l[k - 1]? = some (l[k - 1]'(by omega)) := List.getElem?_eq_getElem _
      have h1 := tree_hi h ha (j := k - 1) (by omega) hx
      have h2 := hst _ (by omega) hx
      omega
    · exact q
    · have hx : l[k]? = some (l[k]'(by omega)) := List.getElem?_eq_getElem _
      have h1 := tree_lo h ha q hx
      have h2 := hgt _ _ (Nat.le_refl _) hx
      omega
  unfold addTo
  rw [e]
theorem addOk_id (h : idAt l b.f0 ≥ 0) : false = addOk l b := by
  unfold addOk
  rw [decide_eq_false (by omega), Bool.false_and]
theorem addOk_yes (hid : ¬ idAt l b.f0 ≥ 0) (hk : k ≤ l.length) (e : L = insAt l [b] k) (h : treeOk L = true) : true = addOk l b ∧ L = addTo l b := by
  subst e
  have q := ins_addTo (treeOk_iff.1 h) hk
  refine ⟨?_, q⟩
  unfold addOk
  rw [← q, h, decide_eq_true (by omega)]
  rfl
theorem addOk_no {i : Int} (h0 : 0 ≤ i) (hk : i ≤ (l.length : Int)) (e : L = insAt l [b] i.toNat) (hgt : ∀ (j : Nat) (x : S59), i.toNat ≤ j → l[j]? = some x → b.f0 < x.f0) (hst : ¬ i > 0 ∨ ∃ x, L[(i - 1).toNat]? = some x ∧ ¬ x.f0 > b.f0) (h : treeOk L = false) : false = addOk l b := by
  subst e
  unfold addOk
  cases hq : treeOk (addTo l b) with
  | false => simp
  | true =>
    have := bub_end (k := i.toNat) (by omega) hgt (fun x hp hx => by
      rcases hst with q | ⟨y, hy, hy2⟩
      · omega
      · rw [ins_lo (by omega) (by omega), show (i - 1).toNat = i.toNat - 1 by omega, hx] at hy
        cases hy
        omega) (treeOk_iff.1 hq)
    rw [this, h] at hq
    cases hq
theorem bub_next {i : Int} {x y : S59} (h0 : i > 0) (hk : i ≤ (l.length : Int)) (e : L = insAt l [b] i.toNat) (hx : L[(i - 1).toNat]? = some x) (hy : L[i.toNat]? = some y) : (L.set (i - 1).toNat y).set i.toNat x = insAt l [b] (i - 1).toNat := by
  subst e
  obtain ⟨n, rfl⟩ : ∃ n : Nat, i = n + 1 := ⟨(i - 1).toNat, by omega⟩
  have e1 : ((n : Int) + 1).toNat = n + 1 := by omega
  have e2 : ((n : Int) + 1 - 1).toNat = n := by omega
  rw [e1] at hx hy ⊢
  rw [e2] at hx ⊢
  rw [ins_k (by omega)] at hy
  cases hy
  rw [ins_lo (by omega) (by omega)] at hx
  apply List.ext_getElem?
  intro j
  have hl := ins_len (l := l) (b := b) (k := n + 1) (by omega)
  rw [List.getElem?_set, List.getElem?_set]
  simp only [List.length_set, hl]
  rcases Nat.lt_trichotomy j n with q | q | q
  · rw [if_neg (by omega), if_neg (by omega), ins_lo (by omega) (by omega), ins_lo (by omega) q]
  · subst q
    rw [if_neg (by omega), if_pos rfl, if_pos (by omega), ins_k (by omega)]
  · rcases Nat.lt_or_ge (n + 1) j with q2 | q2
    · obtain ⟨m, rfl⟩ : ∃ m, j = m + 1 := ⟨j - 1, by omega⟩
      rw [if_neg (by omega), if_neg (by omega), ins_hi (by omega) (by omega), ins_hi (by omega) (by omega)]
    · obtain rfl : j = n + 1 := by omega
      rw [if_pos rfl, if_pos (by omega), ins_hi (by omega) (Nat.le_refl _), hx]
theorem bub_gt {i : Int} {x : S59} (h0 : i > 0) (hk : i ≤ (l.length : Int)) (e : L = insAt l [b] i.toNat) (hgt : ∀ (j : Nat) (x : S59), i.toNat ≤ j → l[j]? = some x → b.f0 < x.f0) (hx : L[(i - 1).toNat]? = some x) (hg : x.f0 > b.f0) : ∀ (j : Nat) (x : S59), (i - 1).toNat ≤ j → l[j]? = some x → b.f0 < x.f0 := by
  subst e
  intro j y hj hy
  rw [ins_lo (by omega) (by omega)] at hx
  by_cases q : j = (i - 1).toNat
  · subst q
    rw [hx] at hy
    cases hy
    exact hg
  · exact hgt j y (by omega) hy
end
theorem s_SetOk (l : List S122) (hl : SmV l) : ∃ r0 : Bool, (r0 = setOk l) ∧ Fn Try.prog 124 [lV (l.map d122)] (lookH []) (bV r0) (lookH []) := by
  have key : ∃ x' h', ((fun x' h' => ∃ r0 : Bool, (r0 = setOk l) ∧ x' = bV r0 ∧ h' = [])) x' h' ∧ Fn Try.prog 124 [lV (l.map d122)] (lookH []) x' (lookH h') := by
    refine Fn.bodyX (N := 47) hτ Try.func124 rfl rfl rfl rfl ?_
    refine X.seq ?_
    refine X.rk ⟨[(0, lV (l.map d122))], [], 80⟩ hτ hmix (by kernel_rfl) (by kernel_rfl) rfl ?_
    refine X.seq ?_
    refine X.seq ?_
    refine X.rk ⟨[(0, lV (l.map d122)), (3, iV 0)], [], 96⟩ hτ hmix (by kernel_rfl) (by kernel_rfl) rfl ?_
    refine X.block ?_
    -- 2: v3 : Int
    refine X.loop (σ := { g : Int // (fun (v3 : Int) => 0 ≤ v3 ∧ v3 ≤ l.length ∧ Upto (setR l) (fun n => l[n]?) v3) g }) (fun g => (fun (v3 : Int) => ⟨[(0, lV (l.map d122)), (3, iV v3)], [], 96⟩) g.1) (fun g => (fun (v3 : Int) => (l.length - v3).toNat) g.1) ⟨0, ⟨by first | omega | (dsimp only; omega), by first | omega | (dsimp only; omega), upto_zero⟩⟩ (Wk.less (by kernel_rfl)) (fun g => ?_)
    obtain ⟨v3, hg2⟩ := g
    have hg2 : 0 ≤ v3 ∧ v3 ≤ l.length ∧ Upto (setR l) (fun n => l[n]?) v3 := hg2
    obtain ⟨_, _, hA⟩ := hg2
    refine X.seq ?_
    refine X.seq ?_
    have hm := hl.1
    have el3 : (l.map d122).length = l.length := List.length_map ..
    refine X.rk ⟨[(0, lV (l.map d122)), (3, iV v3), (7, bV (decide ((v3 : Int) < ((l.map d122).length : Int))))], [], 160⟩ hτ hmix (by kernel_rfl) (by kernel_rfl) rfl ?_
    refine X.if_ (b := decide ((v3 : Int) < ((l.map d122).length : Int))) (by kernel_rfl) (fun hb4 => ?_) (fun hb4 => ?_)
    · replace hb4 := of_decide_eq_true (hb4)
      refine X.skip ?_
      refine X.seq ?_
      refine X.block ?_
      refine X.seq ?_
      refine X.rs 2 hτ hmix (by kernel_rfl) ?_
      obtain ⟨x5, hx5⟩ : ∃ x, l[Int.toNat v3]? = some x := ⟨_, List.getElem?_eq_getElem (by first | omega | (simp; done) | (simp; omega))⟩
      refine CH.idx hτ (d122 x5) (rows := (l.map d122)) (n := v3) (sz := 2) (by kernel_rfl) (by kernel_rfl) (by first | omega | (simp; done) | (simp; omega)) (by rw [List.getElem?_map, hx5]; rfl) (by kernel_rfl) ?_
      refine CH.go 2 hτ (by kernel_rfl) ?_
      obtain ⟨r6, hr8, hf7⟩ := s_NameOk x5.f0 (by exact all_at hl.2 ‹_›)
      replace hr8 := hr8.symm; subst hr8
      refine CH.call hf7 Try.func120 ⟨rfl, rfl⟩ [] (by kernel_rfl) (by kernel_rfl) (by kernel_rfl) (by kernel_rfl) ?_
      refine CH.go 2 hτ (by kernel_rfl) ?_
      rcases Bool.eq_false_or_eq_true (!(nameOk x5.f0)) with hb10 | hb10
      · refine CH.alt 16 (sV (.bool (!(nameOk x5.f0)))) (sV (.bool true)) (by kernel_rfl) (by rw [hb10]) ?_
        refine CH.alt 17 (sV (.bool (!(nameOk x5.f0)))) (sV (.bool true)) (by kernel_rfl) (by rw [hb10]) ?_
        replace hb10 := bnot_yes (hb10)
        refine CH.go 26 hτ (by kernel_rfl) ?_
        refine CH.endk ⟨[(0, lV (l.map d122)), (3, iV v3), (43, bV true)], [], 704⟩ (by kernel_rfl) (by kernel_rfl) rfl ?_
        refine X.ifT (by kernel_rfl) ?_
        refine X.seq ?_
        refine X.rk ⟨[(2, bV false)], [], 720⟩ hτ hmix (by kernel_rfl) (by kernel_rfl) rfl ?_
        refine X.ret ?_
        exact ⟨trivial, _, _, ⟨false, (by first | exact (fls (fun h => upto_no (by omega) (by omega) ‹_› (fun hr => by first | exact tf hr.1 ‹_› | exact absurd hr.2.1 ‹_› | exact tf (hr.2.2 _ (by omega) ‹_›) ‹_›) h.1)) | exact (dcd (by rw [inR_iff]; simp only [List.length_map]; exact ⟨fun h => ⟨upto_all hA (by omega), h⟩, fun h => h.2⟩))), rfl, rfl⟩, .inl (Ret.mk' [] (by kernel_rfl) (by kernel_rfl) (by kernel_rfl))⟩
      · refine CH.alt 16 (sV (.bool (!(nameOk x5.f0)))) (sV (.bool false)) (by kernel_rfl) (by rw [hb10]) ?_
        refine CH.alt 17 (sV (.bool (!(nameOk x5.f0)))) (sV (.bool false)) (by kernel_rfl) (by rw [hb10]) ?_
        replace hb10 := bnot_no (hb10)
        refine CH.go 2 hτ (by kernel_rfl) ?_
        refine CH.idx hτ (d122 x5) (rows := (l.map d122)) (n := v3) (sz := 2) (by kernel_rfl) (by kernel_rfl) (by first | omega | (simp; done) | (simp; omega)) (by rw [List.getElem?_map, hx5]; rfl) (by kernel_rfl) ?_
        refine CH.go 2 hτ (by kernel_rfl) ?_
        obtain ⟨r11, hr13, hf12⟩ := s_l1In x5.f1 1 1000000
        replace hr13 := hr13.symm; subst hr13
        refine CH.call hf12 Try.func119 ⟨rfl, rfl⟩ [] (by kernel_rfl) (by kernel_rfl) (by kernel_rfl) (by kernel_rfl) ?_
        refine CH.go 3 hτ (by kernel_rfl) ?_
        rcases Bool.eq_false_or_eq_true (!(inR x5.f1 1 1000000)) with hb15 | hb15
        · refine CH.alt 24 (sV (.bool (!(inR x5.f1 1 1000000)))) (sV (.bool true)) (by kernel_rfl) (by rw [hb15]) ?_
          refine CH.alt 25 (sV (.bool (!(inR x5.f1 1 1000000)))) (sV (.bool true)) (by kernel_rfl) (by rw [hb15]) ?_
          refine CH.alt 26 (sV (.bool (!(inR x5.f1 1 1000000)))) (sV (.bool true)) (by kernel_rfl) (by rw [hb15]) ?_
          replace hb15 := inR_no (bnot_yes (hb15))
          refine CH.go 17 hτ (by kernel_rfl) ?_
          refine CH.endk ⟨[(0, lV (l.map d122)), (3, iV v3), (43, bV true)], [], 704⟩ (by kernel_rfl) (by kernel_rfl) rfl ?_
          refine X.ifT (by kernel_rfl) ?_
          refine X.seq ?_
          refine X.rk ⟨[(2, bV false)], [], 720⟩ hτ hmix (by kernel_rfl) (by kernel_rfl) rfl ?_
          refine X.ret ?_
          exact ⟨trivial, _, _, ⟨false, (by first | exact (fls (fun h => upto_no (by omega) (by omega) ‹_› (fun hr => by first | exact tf hr.1 ‹_› | exact absurd hr.2.1 ‹_› | exact tf (hr.2.2 _ (by omega) ‹_›) ‹_›) h.1)) | exact (dcd (by rw [inR_iff]; simp only [List.length_map]; exact ⟨fun h => ⟨upto_all hA (by omega), h⟩, fun h => h.2⟩))), rfl, rfl⟩, .inl (Ret.mk' [] (by kernel_rfl) (by kernel_rfl) (by kernel_rfl))⟩
        · refine CH.alt 24 (sV (.bool (!(inR x5.f1 1 1000000)))) (sV (.bool false)) (by kernel_rfl) (by rw [hb15]) ?_
          refine CH.alt 25 (sV (.bool (!(inR x5.f1 1 1000000)))) (sV (.bool false)) (by kernel_rfl) (by rw [hb15]) ?_
          refine CH.alt 26 (sV (.bool (!(inR x5.f1 1 1000000)))) (sV (.bool false)) (by kernel_rfl) (by rw [hb15]) ?_
          replace hb15 := inR_yes (bnot_no (hb15))
          refine CH.go 3 hτ (by kernel_rfl) ?_
          rcases Bool.eq_false_or_eq_true (decide ((v3 : Int) > 0)) with hb16 | hb16
          · refine CH.alt 28 (sV (.bool (decide ((v3 : Int) > 0)))) (sV (.bool true)) (by kernel_rfl) (by rw [hb16]) ?_
            refine CH.alt 29 (sV (.bool (decide ((v3 : Int) > 0)))) (sV (.bool true)) (by kernel_rfl) (by rw [hb16]) ?_
            replace hb16 := of_decide_eq_true (hb16)
            refine CH.go 3 hτ (by kernel_rfl) ?_
            obtain ⟨x17, hx17⟩ : ∃ x, l[Int.toNat (v3 - 1)]? = some x := ⟨_, List.getElem?_eq_getElem (by first | omega | (simp; done) | (simp; omega))⟩
            refine CH.alt 32 (sV (.int .i64 (wrap64 (v3 - 1)))) (sV (.int .i64 ((v3 - 1)))) (by kernel_rfl) (by rw [w64 (n := (v3 - 1)) (by omega) (by omega)]) ?_
            refine CH.idx hτ (d122 x17) (rows := (l.map d122)) (n := (v3 - 1)) (sz := 2) (by kernel_rfl) (by kernel_rfl) (by first | omega | (simp; done) | (simp; omega)) (by rw [List.getElem?_map, hx17]; rfl) (by kernel_rfl) ?_
            refine CH.go 4 hτ (by kernel_rfl) ?_
            refine CH.idx hτ (d122 x5) (rows := (l.map d122)) (n := v3) (sz := 2) (by kernel_rfl) (by kernel_rfl) (by first | omega | (simp; done) | (simp; omega)) (by rw [List.getElem?_map, hx5]; rfl) (by kernel_rfl) ?_
            refine CH.go 5 hτ (by kernel_rfl) ?_
            refine CH.endk ⟨[(0, lV (l.map d122)), (3, iV v3), (43, bV (!(Op.bytesLess x17.f0.toList x5.f0.toList)))], [], 704⟩ (by kernel_rfl) (by kernel_rfl) rfl ?_
            refine X.if_ (b := !(Op.bytesLess x17.f0.toList x5.f0.toList)) (by kernel_rfl) (fun hb18 => ?_) (fun hb18 => ?_)
            · replace hb18 := bnot_yes (hb18)
              refine X.seq ?_
              refine X.rk ⟨[(2, bV false)], [], 720⟩ hτ hmix (by kernel_rfl) (by kernel_rfl) rfl ?_
              refine X.ret ?_
              exact ⟨trivial, _, _, ⟨false, (by first | exact (fls (fun h => upto_no (by omega) (by omega) ‹_› (fun hr => by first | exact tf hr.1 ‹_› | exact absurd hr.2.1 ‹_› | exact tf (hr.2.2 _ (by omega) ‹_›) ‹_›) h.1)) | exact (dcd (by rw [inR_iff]; simp only [List.length_map]; exact ⟨fun h => ⟨upto_all hA (by omega), h⟩, fun h => h.2⟩))), rfl, rfl⟩, .inl (Ret.mk' [] (by kernel_rfl) (by kernel_rfl) (by kernel_rfl))⟩
            · replace hb18 := bnot_no (hb18)
              refine X.skip ?_
              refine X.rk ⟨[(0, lV (l.map d122)), (3, iV (wrap64 (v3 + 1)))], [], 752⟩ hτ hmix (by kernel_rfl) (by kernel_rfl) (s2 := ⟨[(0, lV (l.map d122)), (3, iV (v3 + 1))], [], 752⟩) (congrArg (fun z : Int => (⟨[(0, lV (l.map d122)), (3, iV z)], [], 752⟩ : St)) (show wrap64 (v3 + 1) = (v3 + 1) by rw [w64 (n := (v3 + 1)) (by omega) (by omega)])) ?_
              refine ⟨⟨(v3 + 1), ⟨by first | omega | (dsimp only; omega), by first | omega | (dsimp only; omega), upto_nx (by first | omega | (dsimp only; omega)) hA ‹_› (⟨‹_›, ‹_›, (by first | exact fun y h0 hy => absurd h0 (by first | omega | (dsimp only; omega)) | exact prev_fn ‹_› ‹_›)⟩)⟩⟩, by first | exact rfl | omega | (dsimp only; omega) | (simp only [List.length_append, List.length_cons, List.length_nil, List.length_set]; omega) | (simp; done) | (simp; omega), Wk.mk' [] (by kernel_rfl) (by kernel_rfl) (by kernel_rfl)⟩
          · refine CH.alt 28 (sV (.bool (decide ((v3 : Int) > 0)))) (sV (.bool false)) (by kernel_rfl) (by rw [hb16]) ?_
            refine CH.alt 29 (sV (.bool (decide ((v3 : Int) > 0)))) (sV (.bool false)) (by kernel_rfl) (by rw [hb16]) ?_
            replace hb16 := of_decide_eq_false (hb16)
            refine CH.go 14 hτ (by kernel_rfl) ?_
            refine CH.endk ⟨[(0, lV (l.map d122)), (3, iV v3), (43, bV false)], [], 704⟩ (by kernel_rfl) (by kernel_rfl) rfl ?_
            refine X.ifF (by kernel_rfl) ?_
            refine X.skip ?_
            refine X.rk ⟨[(0, lV (l.map d122)), (3, iV (wrap64 (v3 + 1)))], [], 752⟩ hτ hmix (by kernel_rfl) (by kernel_rfl) (s2 := ⟨[(0, lV (l.map d122)), (3, iV (v3 + 1))], [], 752⟩) (congrArg (fun z : Int => (⟨[(0, lV (l.map d122)), (3, iV z)], [], 752⟩ : St)) (show wrap64 (v3 + 1) = (v3 + 1) by rw [w64 (n := (v3 + 1)) (by omega) (by omega)])) ?_
            refine ⟨⟨(v3 + 1), ⟨by first | omega | (dsimp only; omega), by first | omega | (dsimp only; omega), upto_nx (by first | omega | (dsimp only; omega)) hA ‹_› (⟨‹_›, ‹_›, (by first | exact fun y h0 hy => absurd h0 (by first | omega | (dsimp only; omega)) | exact prev_fn ‹_› ‹_›)⟩)⟩⟩, by first | exact rfl | omega | (dsimp only; omega) | (simp only [List.length_append, List.length_cons, List.length_nil, List.length_set]; omega) | (simp; done) | (simp; omega), Wk.mk' [] (by kernel_rfl) (by kernel_rfl) (by kernel_rfl)⟩
    · replace hb4 := of_decide_eq_false (hb4)
      refine X.exit ?_
      refine X.seq ?_
      refine X.rs 2 hτ hmix (by kernel_rfl) ?_
      obtain ⟨r19, hr21, hf20⟩ := s_l1In ((l.map d122).length : Int) 1 12
      replace hr21 := hr21.symm; subst hr21
      refine CH.call hf20 Try.func119 ⟨rfl, rfl⟩ [] (by kernel_rfl) (by kernel_rfl) (by kernel_rfl) (by kernel_rfl) ?_
      refine CH.go 1 hτ (by kernel_rfl) ?_
      refine CH.endk ⟨[(2, bV (inR ((l.map d122).length : Int) 1 12))], [], 224⟩ (by kernel_rfl) (by kernel_rfl) rfl ?_
      refine X.ret ?_
      exact ⟨trivial, _, _, ⟨(inR ((l.map d122).length : Int) 1 12), (by first | exact (fls (fun h => upto_no (by omega) (by omega) ‹_› (fun hr => by first | exact tf hr.1 ‹_› | exact absurd hr.2.1 ‹_› | exact tf (hr.2.2 _ (by omega) ‹_›) ‹_›) h.1)) | exact (dcd (by rw [inR_iff]; simp only [List.length_map]; exact ⟨fun h => ⟨upto_all hA (by omega), h⟩, fun h => h.2⟩))), rfl, rfl⟩, .inl (Ret.mk' [] (by kernel_rfl) (by kernel_rfl) (by kernel_rfl))⟩
  obtain ⟨_, _, ⟨r0, q1, rfl, rfl⟩, hf⟩ := key
  exact ⟨r0, q1, hf⟩

theorem i_SetOk (l : List S122) (hl : SmV l) : ∃ r0 : Bool, (r0 = setOk l) ∧ Fn Try.prog 130 [lV (l.map d122)] (lookH []) (bV r0) (lookH []) := by
  have key : ∃ x' h', ((fun x' h' => ∃ r0 : Bool, (r0 = setOk l) ∧ x' = bV r0 ∧ h' = [])) x' h' ∧ Fn Try.prog 130 [lV (l.map d122)] (lookH []) x' (lookH h') := by
    refine Fn.bodyX (N := 41) hτ Try.func130 rfl rfl rfl rfl ?_
    refine X.seq ?_
    refine X.rk ⟨[(0, lV (l.map d122))], [], 80⟩ hτ hmix (by kernel_rfl) (by kernel_rfl) rfl ?_
    refine X.seq ?_
    refine X.seq ?_
    have el1 : (l.map d122).length = l.length := List.length_map ..
    refine X.rk ⟨[(0, lV (l.map d122)), (5, lV (l.map d122)), (6, iV ((l.map d122).length : Int)), (7, iV 0)], [], 128⟩ hτ hmix (by kernel_rfl) (by kernel_rfl) rfl ?_
    refine X.block ?_
    -- 2: v7 : Int
    refine X.loop (σ := { g : Int // (fun (v7 : Int) => 0 ≤ v7 ∧ v7 ≤ l.length ∧ Upto (setR l) (fun n => l[n]?) v7) g }) (fun g => (fun (v7 : Int) => ⟨[(0, lV (l.map d122)), (5, lV (l.map d122)), (6, iV ((l.map d122).length : Int)), (7, iV v7)], [], 128⟩) g.1) (fun g => (fun (v7 : Int) => (l.length - v7).toNat) g.1) ⟨0, ⟨by first | omega | (dsimp only; omega), by first | omega | (dsimp only; omega), upto_zero⟩⟩ (Wk.less (by kernel_rfl)) (fun g => ?_)
    obtain ⟨v7, hg3⟩ := g
    have hg3 : 0 ≤ v7 ∧ v7 ≤ l.length ∧ Upto (setR l) (fun n => l[n]?) v7 := hg3
    obtain ⟨_, _, hA⟩ := hg3
    refine X.seq ?_
    have hm := hl.1
    refine X.rk ⟨[(0, lV (l.map d122)), (5, lV (l.map d122)), (6, iV ((l.map d122).length : Int)), (7, iV v7), (8, bV (decide ((v7 : Int) < ((l.map d122).length : Int))))], [], 144⟩ hτ hmix (by kernel_rfl) (by kernel_rfl) rfl ?_
    refine X.seq ?_
    refine X.if_ (b := decide ((v7 : Int) < ((l.map d122).length : Int))) (by kernel_rfl) (fun hb4 => ?_) (fun hb4 => ?_)
    · replace hb4 := of_decide_eq_true (hb4)
      refine X.skip ?_
      refine X.seq ?_
      refine X.block ?_
      refine X.seq ?_
      refine X.rs 1 hτ hmix (by kernel_rfl) ?_
      obtain ⟨x5, hx5⟩ : ∃ x, l[Int.toNat v7]? = some x := ⟨_, List.getElem?_eq_getElem (by first | omega | (simp; done) | (simp; omega))⟩
      refine CH.idx hτ (d122 x5) (rows := (l.map d122)) (n := v7) (sz := 2) (by kernel_rfl) (by kernel_rfl) (by first | omega | (simp; done) | (simp; omega)) (by rw [List.getElem?_map, hx5]; rfl) (by kernel_rfl) ?_
      refine CH.go 4 hτ (by kernel_rfl) ?_
      refine CH.endk ⟨[(0, lV (l.map d122)), (3, iV v7), (4, .pt 192 0 0), (5, lV (l.map d122)), (6, iV ((l.map d122).length : Int)), (7, iV v7)], [(192, some (.box [.d (.v (.string x5.f0)), .d (.v (.int .i64 x5.f1))]))], 240⟩ (by kernel_rfl) (by kernel_rfl) rfl ?_
      refine X.seq ?_
      refine X.rs 2 hτ hmix (by kernel_rfl) ?_
      obtain ⟨r6, hr8, hf7⟩ := i_NameOk x5.f0 (by exact all_at hl.2 ‹_›)
      replace hr8 := hr8.symm; subst hr8
      refine CH.call hf7 Try.func126 ⟨rfl, rfl⟩ [] (by kernel_rfl) (by kernel_rfl) (by kernel_rfl) (by kernel_rfl) ?_
      refine CH.go 2 hτ (by kernel_rfl) ?_
      rcases Bool.eq_false_or_eq_true (!(nameOk x5.f0)) with hb10 | hb10
      · refine CH.alt 15 (sV (.bool (!(nameOk x5.f0)))) (sV (.bool true)) (by kernel_rfl) (by rw [hb10]) ?_
        refine CH.alt 16 (sV (.bool (!(nameOk x5.f0)))) (sV (.bool true)) (by kernel_rfl) (by rw [hb10]) ?_
        replace hb10 := bnot_yes (hb10)
        refine CH.go 20 hτ (by kernel_rfl) ?_
        refine CH.endk ⟨[(0, lV (l.map d122)), (5, lV (l.map d122)), (6, iV ((l.map d122).length : Int)), (7, iV v7), (36, bV true)], [], 640⟩ (by kernel_rfl) (by kernel_rfl) rfl ?_
        refine X.ifT (by kernel_rfl) ?_
        refine X.seq ?_
        refine X.rk ⟨[(2, bV false)], [], 656⟩ hτ hmix (by kernel_rfl) (by kernel_rfl) rfl ?_
        refine X.ret ?_
        exact ⟨trivial, _, _, ⟨false, (by first | exact (fls (fun h => upto_no (by omega) (by omega) ‹_› (fun hr => by first | exact tf hr.1 ‹_› | exact absurd hr.2.1 ‹_› | exact tf (hr.2.2 _ (by omega) ‹_›) ‹_›) h.1)) | exact (dcd (by rw [inR_iff]; simp only [List.length_map]; exact ⟨fun h => ⟨upto_all hA (by omega), h⟩, fun h => h.2⟩))), rfl, rfl⟩, .inl (Ret.mk' [] (by kernel_rfl) (by kernel_rfl) (by kernel_rfl))⟩
      · refine CH.alt 15 (sV (.bool (!(nameOk x5.f0)))) (sV (.bool false)) (by kernel_rfl) (by rw [hb10]) ?_
        refine CH.alt 16 (sV (.bool (!(nameOk x5.f0)))) (sV (.bool false)) (by kernel_rfl) (by rw [hb10]) ?_
        replace hb10 := bnot_no (hb10)
        refine CH.go 2 hτ (by kernel_rfl) ?_
        obtain ⟨r11, hr13, hf12⟩ := i_inRange x5.f1 1 1000000
        replace hr13 := hr13.symm; subst hr13
        refine CH.call hf12 Try.func125 ⟨rfl, rfl⟩ [] (by kernel_rfl) (by kernel_rfl) (by kernel_rfl) (by kernel_rfl) ?_
        refine CH.go 3 hτ (by kernel_rfl) ?_
        rcases Bool.eq_false_or_eq_true (!(inR x5.f1 1 1000000)) with hb15 | hb15
        · refine CH.alt 20 (sV (.bool (!(inR x5.f1 1 1000000)))) (sV (.bool true)) (by kernel_rfl) (by rw [hb15]) ?_
          refine CH.alt 21 (sV (.bool (!(inR x5.f1 1 1000000)))) (sV (.bool true)) (by kernel_rfl) (by rw [hb15]) ?_
          refine CH.alt 22 (sV (.bool (!(inR x5.f1 1 1000000)))) (sV (.bool true)) (by kernel_rfl) (by rw [hb15]) ?_
          replace hb15 := inR_no (bnot_yes (hb15))
          refine CH.go 14 hτ (by kernel_rfl) ?_
          refine CH.endk ⟨[(0, lV (l.map d122)), (5, lV (l.map d122)), (6, iV ((l.map d122).length : Int)), (7, iV v7), (36, bV true)], [], 640⟩ (by kernel_rfl) (by kernel_rfl) rfl ?_
          refine X.ifT (by kernel_rfl) ?_
          refine X.seq ?_
          refine X.rk ⟨[(2, bV false)], [], 656⟩ hτ hmix (by kernel_rfl) (by kernel_rfl) rfl ?_
          refine X.ret ?_
          exact ⟨trivial, _, _, ⟨false, (by first | exact (fls (fun h => upto_no (by omega) (by omega) ‹_› (fun hr => by first | exact tf hr.1 ‹_› | exact absurd hr.2.1 ‹_› | exact tf (hr.2.2 _ (by omega) ‹_›) ‹_›) h.1)) | exact (dcd (by rw [inR_iff]; simp only [List.length_map]; exact ⟨fun h => ⟨upto_all hA (by omega), h⟩, fun h => h.2⟩))), rfl, rfl⟩, .inl (Ret.mk' [] (by kernel_rfl) (by kernel_rfl) (by kernel_rfl))⟩
        · refine CH.alt 20 (sV (.bool (!(inR x5.f1 1 1000000)))) (sV (.bool false)) (by kernel_rfl) (by rw [hb15]) ?_
          refine CH.alt 21 (sV (.bool (!(inR x5.f1 1 1000000)))) (sV (.bool false)) (by kernel_rfl) (by rw [hb15]) ?_
          refine CH.alt 22 (sV (.bool (!(inR x5.f1 1 1000000)))) (sV (.bool false)) (by kernel_rfl) (by rw [hb15]) ?_
          replace hb15 := inR_yes (bnot_no (hb15))
          refine CH.go 3 hτ (by kernel_rfl) ?_
          rcases Bool.eq_false_or_eq_true (decide ((v7 : Int) > 0)) with hb16 | hb16
          · refine CH.alt 24 (sV (.bool (decide ((v7 : Int) > 0)))) (sV (.bool true)) (by kernel_rfl) (by rw [hb16]) ?_
            refine CH.alt 25 (sV (.bool (decide ((v7 : Int) > 0)))) (sV (.bool true)) (by kernel_rfl) (by rw [hb16]) ?_
            replace hb16 := of_decide_eq_true (hb16)
            refine CH.go 5 hτ (by kernel_rfl) ?_
            obtain ⟨x17, hx17⟩ : ∃ x, l[Int.toNat (v7 - 1)]? = some x := ⟨_, List.getElem?_eq_getElem (by first | omega | (simp; done) | (simp; omega))⟩
            refine CH.alt 30 (sV (.int .i64 (wrap64 (v7 - 1)))) (sV (.int .i64 ((v7 - 1)))) (by kernel_rfl) (by rw [w64 (n := (v7 - 1)) (by omega) (by omega)]) ?_
            refine CH.idx hτ (d122 x17) (rows := (l.map d122)) (n := (v7 - 1)) (sz := 2) (by kernel_rfl) (by kernel_rfl) (by first | omega | (simp; done) | (simp; omega)) (by rw [List.getElem?_map, hx17]; rfl) (by kernel_rfl) ?_
            refine CH.go 5 hτ (by kernel_rfl) ?_
            refine CH.endk ⟨[(0, lV (l.map d122)), (5, lV (l.map d122)), (6, iV ((l.map d122).length : Int)), (7, iV v7), (36, bV (Op.bytesLess x5.f0.toList x17.f0.toList || x5.f0.toList == x17.f0.toList))], [], 640⟩ (by kernel_rfl) (by kernel_rfl) rfl ?_
            refine X.if_ (b := (Op.bytesLess x5.f0.toList x17.f0.toList || x5.f0.toList == x17.f0.toList)) (by kernel_rfl) (fun hb18 => ?_) (fun hb18 => ?_)
            · replace hb18 := leq_yes (hb18)
              refine X.seq ?_
              refine X.rk ⟨[(2, bV false)], [], 656⟩ hτ hmix (by kernel_rfl) (by kernel_rfl) rfl ?_
              refine X.ret ?_
              exact ⟨trivial, _, _, ⟨false, (by first | exact (fls (fun h => upto_no (by omega) (by omega) ‹_› (fun hr => by first | exact tf hr.1 ‹_› | exact absurd hr.2.1 ‹_› | exact tf (hr.2.2 _ (by omega) ‹_›) ‹_›) h.1)) | exact (dcd (by rw [inR_iff]; simp only [List.length_map]; exact ⟨fun h => ⟨upto_all hA (by omega), h⟩, fun h => h.2⟩))), rfl, rfl⟩, .inl (Ret.mk' [] (by kernel_rfl) (by kernel_rfl) (by kernel_rfl))⟩
            · replace hb18 := leq_no (hb18)
              refine X.skip ?_
              refine X.rk ⟨[(0, lV (l.map d122)), (5, lV (l.map d122)), (6, iV ((l.map d122).length : Int)), (7, iV (wrap64 (v7 + 1)))], [], 672⟩ hτ hmix (by kernel_rfl) (by kernel_rfl) (s2 := ⟨[(0, lV (l.map d122)), (5, lV (l.map d122)), (6, iV ((l.map d122).length : Int)), (7, iV (v7 + 1))], [], 672⟩) (congrArg (fun z : Int => (⟨[(0, lV (l.map d122)), (5, lV (l.map d122)), (6, iV ((l.map d122).length : Int)), (7, iV z)], [], 672⟩ : St)) (show wrap64 (v7 + 1) = (v7 + 1) by rw [w64 (n := (v7 + 1)) (by omega) (by omega)])) ?_
              refine ⟨⟨(v7 + 1), ⟨by first | omega | (dsimp only; omega), by first | omega | (dsimp only; omega), upto_nx (by first | omega | (dsimp only; omega)) hA ‹_› (⟨‹_›, ‹_›, (by first | exact fun y h0 hy => absurd h0 (by first | omega | (dsimp only; omega)) | exact prev_fn ‹_› ‹_›)⟩)⟩⟩, by first | exact rfl | omega | (dsimp only; omega) | (simp only [List.length_append, List.length_cons, List.length_nil, List.length_set]; omega) | (simp; done) | (simp; omega), Wk.mk' [] (by kernel_rfl) (by kernel_rfl) (by kernel_rfl)⟩
          · refine CH.alt 24 (sV (.bool (decide ((v7 : Int) > 0)))) (sV (.bool false)) (by kernel_rfl) (by rw [hb16]) ?_
            refine CH.alt 25 (sV (.bool (decide ((v7 : Int) > 0)))) (sV (.bool false)) (by kernel_rfl) (by rw [hb16]) ?_
            replace hb16 := of_decide_eq_false (hb16)
            refine CH.go 11 hτ (by kernel_rfl) ?_
            refine CH.endk ⟨[(0, lV (l.map d122)), (5, lV (l.map d122)), (6, iV ((l.map d122).length : Int)), (7, iV v7), (36, bV false)], [], 640⟩ (by kernel_rfl) (by kernel_rfl) rfl ?_
            refine X.ifF (by kernel_rfl) ?_
            refine X.skip ?_
            refine X.rk ⟨[(0, lV (l.map d122)), (5, lV (l.map d122)), (6, iV ((l.map d122).length : Int)), (7, iV (wrap64 (v7 + 1)))], [], 672⟩ hτ hmix (by kernel_rfl) (by kernel_rfl) (s2 := ⟨[(0, lV (l.map d122)), (5, lV (l.map d122)), (6, iV ((l.map d122).length : Int)), (7, iV (v7 + 1))], [], 672⟩) (congrArg (fun z : Int => (⟨[(0, lV (l.map d122)), (5, lV (l.map d122)), (6, iV ((l.map d122).length : Int)), (7, iV z)], [], 672⟩ : St)) (show wrap64 (v7 + 1) = (v7 + 1) by rw [w64 (n := (v7 + 1)) (by omega) (by omega)])) ?_
            refine ⟨⟨(v7 + 1), ⟨by first | omega | (dsimp only; omega), by first | omega | (dsimp only; omega), upto_nx (by first | omega | (dsimp only; omega)) hA ‹_› (⟨‹_›, ‹_›, (by first | exact fun y h0 hy => absurd h0 (by first | omega | (dsimp only; omega)) | exact prev_fn ‹_› ‹_›)⟩)⟩⟩, by first | exact rfl | omega | (dsimp only; omega) | (simp only [List.length_append, List.length_cons, List.length_nil, List.length_set]; omega) | (simp; done) | (simp; omega), Wk.mk' [] (by kernel_rfl) (by kernel_rfl) (by kernel_rfl)⟩
    · replace hb4 := of_decide_eq_false (hb4)
      refine X.exit ?_
      refine X.seq ?_
      refine X.rs 2 hτ hmix (by kernel_rfl) ?_
      obtain ⟨r19, hr21, hf20⟩ := i_inRange ((l.map d122).length : Int) 1 12
      replace hr21 := hr21.symm; subst hr21
      refine CH.call hf20 Try.func125 ⟨rfl, rfl⟩ [] (by kernel_rfl) (by kernel_rfl) (by kernel_rfl) (by kernel_rfl) ?_
      refine CH.go 1 hτ (by kernel_rfl) ?_
      refine CH.endk ⟨[(2, bV (inR ((l.map d122).length : Int) 1 12))], [], 208⟩ (by kernel_rfl) (by kernel_rfl) rfl ?_
      refine X.ret ?_
      exact ⟨trivial, _, _, ⟨(inR ((l.map d122).length : Int) 1 12), (by first | exact (fls (fun h => upto_no (by omega) (by omega) ‹_› (fun hr => by first | exact tf hr.1 ‹_› | exact absurd hr.2.1 ‹_› | exact tf (hr.2.2 _ (by omega) ‹_›) ‹_›) h.1)) | exact (dcd (by rw [inR_iff]; simp only [List.length_map]; exact ⟨fun h => ⟨upto_all hA (by omega), h⟩, fun h => h.2⟩))), rfl, rfl⟩, .inl (Ret.mk' [] (by kernel_rfl) (by kernel_rfl) (by kernel_rfl))⟩
  obtain ⟨_, _, ⟨r0, q1, rfl, rfl⟩, hf⟩ := key
  exact ⟨r0, q1, hf⟩

theorem s_BlockOk (b : S59) (hb : Sm59 b) : ∃ r0 : Bool, (r0 = blockOk b) ∧ Fn Try.prog 58 [.e (.agg (cD (d59 b)))] (lookH []) (bV r0) (lookH []) := by
  have key : ∃ x' h', ((fun x' h' => ∃ r0 : Bool, (r0 = blockOk b) ∧ x' = bV r0 ∧ h' = [])) x' h' ∧ Fn Try.prog 58 [.e (.agg (cD (d59 b)))] (lookH []) x' (lookH h') := by
    refine Fn.bodyX (N := 77) hτ Try.func58 rfl rfl rfl rfl ?_
    refine X.seq ?_
    refine X.rk ⟨[(1, .pt 64 0 0)], [(64, some (.box (cD (d59 b))))], 96⟩ hτ hmix (by kernel_rfl) (by kernel_rfl) rfl ?_
    refine X.seq ?_
    refine X.seq ?_
    refine X.rs 2 hτ hmix (by kernel_rfl) ?_
    obtain ⟨r1, hr3, hf2⟩ := s_l1In b.f0 0 100000
    replace hr3 := hr3.symm; subst hr3
    refine CH.call hf2 Try.func119 ⟨rfl, rfl⟩ [] (by kernel_rfl) (by kernel_rfl) (by kernel_rfl) (by kernel_rfl) ?_
    refine CH.go 2 hτ (by kernel_rfl) ?_
    rcases Bool.eq_false_or_eq_true (!(inR b.f0 0 100000)) with hb5 | hb5
    · refine CH.alt 7 (sV (.bool (!(inR b.f0 0 100000)))) (sV (.bool true)) (by kernel_rfl) (by rw [hb5]) ?_
      refine CH.alt 8 (sV (.bool (!(inR b.f0 0 100000)))) (sV (.bool true)) (by kernel_rfl) (by rw [hb5]) ?_
      replace hb5 := inR_no (bnot_yes (hb5))
      refine CH.go 33 hτ (by kernel_rfl) ?_
      refine CH.endk ⟨[(1, .pt 64 0 0), (41, bV true)], [(64, some (.box (cD (d59 b))))], 704⟩ (by kernel_rfl) (by kernel_rfl) rfl ?_
      refine X.ifT (by kernel_rfl) ?_
      refine X.seq ?_
      refine X.rk ⟨[(2, bV false)], [], 720⟩ hτ hmix (by kernel_rfl) (by kernel_rfl) rfl ?_
      refine X.ret ?_
      exact ⟨trivial, _, _, ⟨false, (by (first | have hz := all_yes (p := txOk) (upto_all hA (by omega)) | have hz := all_no (p := txOk) ‹_› ‹_› | skip); rw [Bool.eq_iff_iff]; simp only [blockOk, Bool.and_eq_true, Bool.or_eq_true, inR_iff, decide_eq_true_eq, beq_iff_eq, Bool.false_eq_true, false_iff, true_iff, List.length_map]; first | (intro h; omega) | (intro h; simp_all; done) | (simp_all; done) | (simp_all; omega) | (constructor <;> intro h <;> (first | (simp_all; done) | (simp_all; omega) | omega))), rfl, rfl⟩, .inl (Ret.mk' [] (by kernel_rfl) (by kernel_rfl) (by kernel_rfl))⟩
    · refine CH.alt 7 (sV (.bool (!(inR b.f0 0 100000)))) (sV (.bool false)) (by kernel_rfl) (by rw [hb5]) ?_
      refine CH.alt 8 (sV (.bool (!(inR b.f0 0 100000)))) (sV (.bool false)) (by kernel_rfl) (by rw [hb5]) ?_
      replace hb5 := inR_yes (bnot_no (hb5))
      refine CH.go 2 hτ (by kernel_rfl) ?_
      obtain ⟨r6, hr8, hf7⟩ := s_l1In b.f1 0 900
      replace hr8 := hr8.symm; subst hr8
      refine CH.call hf7 Try.func119 ⟨rfl, rfl⟩ [] (by kernel_rfl) (by kernel_rfl) (by kernel_rfl) (by kernel_rfl) ?_
      refine CH.go 3 hτ (by kernel_rfl) ?_
      rcases Bool.eq_false_or_eq_true (!(inR b.f1 0 900)) with hb10 | hb10
      · refine CH.alt 12 (sV (.bool (!(inR b.f1 0 900)))) (sV (.bool true)) (by kernel_rfl) (by rw [hb10]) ?_
        refine CH.alt 13 (sV (.bool (!(inR b.f1 0 900)))) (sV (.bool true)) (by kernel_rfl) (by rw [hb10]) ?_
        refine CH.alt 14 (sV (.bool (!(inR b.f1 0 900)))) (sV (.bool true)) (by kernel_rfl) (by rw [hb10]) ?_
        replace hb10 := inR_no (bnot_yes (hb10))
        refine CH.go 27 hτ (by kernel_rfl) ?_
        refine CH.endk ⟨[(1, .pt 64 0 0), (41, bV true)], [(64, some (.box (cD (d59 b))))], 704⟩ (by kernel_rfl) (by kernel_rfl) rfl ?_
        refine X.ifT (by kernel_rfl) ?_
        refine X.seq ?_
        refine X.rk ⟨[(2, bV false)], [], 720⟩ hτ hmix (by kernel_rfl) (by kernel_rfl) rfl ?_
        refine X.ret ?_
        exact ⟨trivial, _, _, ⟨false, (by (first | have hz := all_yes (p := txOk) (upto_all hA (by omega)) | have hz := all_no (p := txOk) ‹_› ‹_› | skip); rw [Bool.eq_iff_iff]; simp only [blockOk, Bool.and_eq_true, Bool.or_eq_true, inR_iff, decide_eq_true_eq, beq_iff_eq, Bool.false_eq_true, false_iff, true_iff, List.length_map]; first | (intro h; omega) | (intro h; simp_all; done) | (simp_all; done) | (simp_all; omega) | (constructor <;> intro h <;> (first | (simp_all; done) | (simp_all; omega) | omega))), rfl, rfl⟩, .inl (Ret.mk' [] (by kernel_rfl) (by kernel_rfl) (by kernel_rfl))⟩
      · refine CH.alt 12 (sV (.bool (!(inR b.f1 0 900)))) (sV (.bool false)) (by kernel_rfl) (by rw [hb10]) ?_
        refine CH.alt 13 (sV (.bool (!(inR b.f1 0 900)))) (sV (.bool false)) (by kernel_rfl) (by rw [hb10]) ?_
        refine CH.alt 14 (sV (.bool (!(inR b.f1 0 900)))) (sV (.bool false)) (by kernel_rfl) (by rw [hb10]) ?_
        replace hb10 := inR_yes (bnot_no (hb10))
        refine CH.go 2 hτ (by kernel_rfl) ?_
        obtain ⟨r11, hr13, hf12⟩ := s_l1In b.f2 1 10000
        replace hr13 := hr13.symm; subst hr13
        refine CH.call hf12 Try.func119 ⟨rfl, rfl⟩ [] (by kernel_rfl) (by kernel_rfl) (by kernel_rfl) (by kernel_rfl) ?_
        refine CH.go 3 hτ (by kernel_rfl) ?_
        rcases Bool.eq_false_or_eq_true (!(inR b.f2 1 10000)) with hb15 | hb15
        · refine CH.alt 18 (sV (.bool (!(inR b.f2 1 10000)))) (sV (.bool true)) (by kernel_rfl) (by rw [hb15]) ?_
          refine CH.alt 19 (sV (.bool (!(inR b.f2 1 10000)))) (sV (.bool true)) (by kernel_rfl) (by rw [hb15]) ?_
          refine CH.alt 20 (sV (.bool (!(inR b.f2 1 10000)))) (sV (.bool true)) (by kernel_rfl) (by rw [hb15]) ?_
          replace hb15 := inR_no (bnot_yes (hb15))
          refine CH.go 21 hτ (by kernel_rfl) ?_
          refine CH.endk ⟨[(1, .pt 64 0 0), (41, bV true)], [(64, some (.box (cD (d59 b))))], 704⟩ (by kernel_rfl) (by kernel_rfl) rfl ?_
          refine X.ifT (by kernel_rfl) ?_
          refine X.seq ?_
          refine X.rk ⟨[(2, bV false)], [], 720⟩ hτ hmix (by kernel_rfl) (by kernel_rfl) rfl ?_
          refine X.ret ?_
          exact ⟨trivial, _, _, ⟨false, (by (first | have hz := all_yes (p := txOk) (upto_all hA (by omega)) | have hz := all_no (p := txOk) ‹_› ‹_› | skip); rw [Bool.eq_iff_iff]; simp only [blockOk, Bool.and_eq_true, Bool.or_eq_true, inR_iff, decide_eq_true_eq, beq_iff_eq, Bool.false_eq_true, false_iff, true_iff, List.length_map]; first | (intro h; omega) | (intro h; simp_all; done) | (simp_all; done) | (simp_all; omega) | (constructor <;> intro h <;> (first | (simp_all; done) | (simp_all; omega) | omega))), rfl, rfl⟩, .inl (Ret.mk' [] (by kernel_rfl) (by kernel_rfl) (by kernel_rfl))⟩
        · refine CH.alt 18 (sV (.bool (!(inR b.f2 1 10000)))) (sV (.bool false)) (by kernel_rfl) (by rw [hb15]) ?_
          refine CH.alt 19 (sV (.bool (!(inR b.f2 1 10000)))) (sV (.bool false)) (by kernel_rfl) (by rw [hb15]) ?_
          refine CH.alt 20 (sV (.bool (!(inR b.f2 1 10000)))) (sV (.bool false)) (by kernel_rfl) (by rw [hb15]) ?_
          replace hb15 := inR_yes (bnot_no (hb15))
          refine CH.go 2 hτ (by kernel_rfl) ?_
          obtain ⟨r16, hr18, hf17⟩ := s_NameOk b.f3 (by exact hb.1)
          replace hr18 := hr18.symm; subst hr18
          refine CH.call hf17 Try.func120 ⟨rfl, rfl⟩ [] (by kernel_rfl) (by kernel_rfl) (by kernel_rfl) (by kernel_rfl) ?_
          refine CH.go 3 hτ (by kernel_rfl) ?_
          rcases Bool.eq_false_or_eq_true (!(nameOk b.f3)) with hb20 | hb20
          · refine CH.alt 24 (sV (.bool (!(nameOk b.f3)))) (sV (.bool true)) (by kernel_rfl) (by rw [hb20]) ?_
            refine CH.alt 25 (sV (.bool (!(nameOk b.f3)))) (sV (.bool true)) (by kernel_rfl) (by rw [hb20]) ?_
            refine CH.alt 26 (sV (.bool (!(nameOk b.f3)))) (sV (.bool true)) (by kernel_rfl) (by rw [hb20]) ?_
            replace hb20 := bnot_yes (hb20)
            refine CH.go 15 hτ (by kernel_rfl) ?_
            refine CH.endk ⟨[(1, .pt 64 0 0), (41, bV true)], [(64, some (.box (cD (d59 b))))], 704⟩ (by kernel_rfl) (by kernel_rfl) rfl ?_
            refine X.ifT (by kernel_rfl) ?_
            refine X.seq ?_
            refine X.rk ⟨[(2, bV false)], [], 720⟩ hτ hmix (by kernel_rfl) (by kernel_rfl) rfl ?_
            refine X.ret ?_
            exact ⟨trivial, _, _, ⟨false, (by (first | have hz := all_yes (p := txOk) (upto_all hA (by omega)) | have hz := all_no (p := txOk) ‹_› ‹_› | skip); rw [Bool.eq_iff_iff]; simp only [blockOk, Bool.and_eq_true, Bool.or_eq_true, inR_iff, decide_eq_true_eq, beq_iff_eq, Bool.false_eq_true, false_iff, true_iff, List.length_map]; first | (intro h; omega) | (intro h; simp_all; done) | (simp_all; done) | (simp_all; omega) | (constructor <;> intro h <;> (first | (simp_all; done) | (simp_all; omega) | omega))), rfl, rfl⟩, .inl (Ret.mk' [] (by kernel_rfl) (by kernel_rfl) (by kernel_rfl))⟩
          · refine CH.alt 24 (sV (.bool (!(nameOk b.f3)))) (sV (.bool false)) (by kernel_rfl) (by rw [hb20]) ?_
            refine CH.alt 25 (sV (.bool (!(nameOk b.f3)))) (sV (.bool false)) (by kernel_rfl) (by rw [hb20]) ?_
            refine CH.alt 26 (sV (.bool (!(nameOk b.f3)))) (sV (.bool false)) (by kernel_rfl) (by rw [hb20]) ?_
            replace hb20 := bnot_no (hb20)
            refine CH.go 1 hτ (by kernel_rfl) ?_
            obtain ⟨r21, hr23, hf22⟩ := s_l9Qc b (by assumption)
            replace hr23 := hr23.symm; subst hr23
            refine CH.call hf22 Try.func121 ⟨rfl, rfl⟩ [] (by kernel_rfl) (by kernel_rfl) (by kernel_rfl) (by kernel_rfl) ?_
            refine CH.go 3 hτ (by kernel_rfl) ?_
            rcases Bool.eq_false_or_eq_true (!(qcForm b.f4 (wr .i64 (b.f2 - 1)) (wr .i64 (b.f0 - 1)))) with hb25 | hb25
            · refine CH.alt 29 (sV (.bool (!(qcForm b.f4 (wr .i64 (b.f2 - 1)) (wr .i64 (b.f0 - 1)))))) (sV (.bool true)) (by kernel_rfl) (by rw [hb25]) ?_
              refine CH.alt 30 (sV (.bool (!(qcForm b.f4 (wr .i64 (b.f2 - 1)) (wr .i64 (b.f0 - 1)))))) (sV (.bool true)) (by kernel_rfl) (by rw [hb25]) ?_
              refine CH.alt 31 (sV (.bool (!(qcForm b.f4 (wr .i64 (b.f2 - 1)) (wr .i64 (b.f0 - 1)))))) (sV (.bool true)) (by kernel_rfl) (by rw [hb25]) ?_
              replace hb25 := bnot_yes (hb25)
              refine CH.go 10 hτ (by kernel_rfl) ?_
              refine CH.endk ⟨[(1, .pt 64 0 0), (41, bV true)], [(64, some (.box (cD (d59 b))))], 704⟩ (by kernel_rfl) (by kernel_rfl) rfl ?_
              refine X.ifT (by kernel_rfl) ?_
              refine X.seq ?_
              refine X.rk ⟨[(2, bV false)], [], 720⟩ hτ hmix (by kernel_rfl) (by kernel_rfl) rfl ?_
              refine X.ret ?_
              exact ⟨trivial, _, _, ⟨false, (by (first | have hz := all_yes (p := txOk) (upto_all hA (by omega)) | have hz := all_no (p := txOk) ‹_› ‹_› | skip); rw [Bool.eq_iff_iff]; simp only [blockOk, Bool.and_eq_true, Bool.or_eq_true, inR_iff, decide_eq_true_eq, beq_iff_eq, Bool.false_eq_true, false_iff, true_iff, List.length_map]; first | (intro h; omega) | (intro h; simp_all; done) | (simp_all; done) | (simp_all; omega) | (constructor <;> intro h <;> (first | (simp_all; done) | (simp_all; omega) | omega))), rfl, rfl⟩, .inl (Ret.mk' [] (by kernel_rfl) (by kernel_rfl) (by kernel_rfl))⟩
            · refine CH.alt 29 (sV (.bool (!(qcForm b.f4 (wr .i64 (b.f2 - 1)) (wr .i64 (b.f0 - 1)))))) (sV (.bool false)) (by kernel_rfl) (by rw [hb25]) ?_
              refine CH.alt 30 (sV (.bool (!(qcForm b.f4 (wr .i64 (b.f2 - 1)) (wr .i64 (b.f0 - 1)))))) (sV (.bool false)) (by kernel_rfl) (by rw [hb25]) ?_
              refine CH.alt 31 (sV (.bool (!(qcForm b.f4 (wr .i64 (b.f2 - 1)) (wr .i64 (b.f0 - 1)))))) (sV (.bool false)) (by kernel_rfl) (by rw [hb25]) ?_
              replace hb25 := bnot_no (hb25)
              refine CH.go 1 hτ (by kernel_rfl) ?_
              obtain ⟨r26, hr28, hf27⟩ := s_l9Tc b (by assumption)
              replace hr28 := hr28.symm; subst hr28
              refine CH.call hf27 Try.func122 ⟨rfl, rfl⟩ [] (by kernel_rfl) (by kernel_rfl) (by kernel_rfl) (by kernel_rfl) ?_
              refine CH.go 3 hτ (by kernel_rfl) ?_
              rcases Bool.eq_false_or_eq_true (!(tcForm b.f5 (wr .i64 (b.f2 - 1)))) with hb30 | hb30
              · refine CH.alt 34 (sV (.bool (!(tcForm b.f5 (wr .i64 (b.f2 - 1)))))) (sV (.bool true)) (by kernel_rfl) (by rw [hb30]) ?_
                refine CH.alt 35 (sV (.bool (!(tcForm b.f5 (wr .i64 (b.f2 - 1)))))) (sV (.bool true)) (by kernel_rfl) (by rw [hb30]) ?_
                refine CH.alt 36 (sV (.bool (!(tcForm b.f5 (wr .i64 (b.f2 - 1)))))) (sV (.bool true)) (by kernel_rfl) (by rw [hb30]) ?_
                replace hb30 := bnot_yes (hb30)
                refine CH.go 5 hτ (by kernel_rfl) ?_
                refine CH.endk ⟨[(1, .pt 64 0 0), (41, bV true)], [(64, some (.box (cD (d59 b))))], 704⟩ (by kernel_rfl) (by kernel_rfl) rfl ?_
                refine X.ifT (by kernel_rfl) ?_
                refine X.seq ?_
                refine X.rk ⟨[(2, bV false)], [], 720⟩ hτ hmix (by kernel_rfl) (by kernel_rfl) rfl ?_
                refine X.ret ?_
                exact ⟨trivial, _, _, ⟨false, (by (first | have hz := all_yes (p := txOk) (upto_all hA (by omega)) | have hz := all_no (p := txOk) ‹_› ‹_› | skip); rw [Bool.eq_iff_iff]; simp only [blockOk, Bool.and_eq_true, Bool.or_eq_true, inR_iff, decide_eq_true_eq, beq_iff_eq, Bool.false_eq_true, false_iff, true_iff, List.length_map]; first | (intro h; omega) | (intro h; simp_all; done) | (simp_all; done) | (simp_all; omega) | (constructor <;> intro h <;> (first | (simp_all; done) | (simp_all; omega) | omega))), rfl, rfl⟩, .inl (Ret.mk' [] (by kernel_rfl) (by kernel_rfl) (by kernel_rfl))⟩
              · refine CH.alt 34 (sV (.bool (!(tcForm b.f5 (wr .i64 (b.f2 - 1)))))) (sV (.bool false)) (by kernel_rfl) (by rw [hb30]) ?_
                refine CH.alt 35 (sV (.bool (!(tcForm b.f5 (wr .i64 (b.f2 - 1)))))) (sV (.bool false)) (by kernel_rfl) (by rw [hb30]) ?_
                refine CH.alt 36 (sV (.bool (!(tcForm b.f5 (wr .i64 (b.f2 - 1)))))) (sV (.bool false)) (by kernel_rfl) (by rw [hb30]) ?_
                replace hb30 := bnot_no (hb30)
                refine CH.go 5 hτ (by kernel_rfl) ?_
                have el31 : (b.f6.map d120).length = b.f6.length := List.length_map ..
                refine CH.endk ⟨[(1, .pt 64 0 0), (41, bV (decide ((((b.f6.map d120).length : Int) : Int) > 4)))], [(64, some (.box (cD (d59 b))))], 704⟩ (by kernel_rfl) (by kernel_rfl) rfl ?_
                refine X.if_ (b := decide ((((b.f6.map d120).length : Int) : Int) > 4)) (by kernel_rfl) (fun hb32 => ?_) (fun hb32 => ?_)
                · replace hb32 := of_decide_eq_true (hb32)
                  refine X.seq ?_
                  refine X.rk ⟨[(2, bV false)], [], 720⟩ hτ hmix (by kernel_rfl) (by kernel_rfl) rfl ?_
                  refine X.ret ?_
                  exact ⟨trivial, _, _, ⟨false, (by (first | have hz := all_yes (p := txOk) (upto_all hA (by omega)) | have hz := all_no (p := txOk) ‹_› ‹_› | skip); rw [Bool.eq_iff_iff]; simp only [blockOk, Bool.and_eq_true, Bool.or_eq_true, inR_iff, decide_eq_true_eq, beq_iff_eq, Bool.false_eq_true, false_iff, true_iff, List.length_map]; first | (intro h; omega) | (intro h; simp_all; done) | (simp_all; done) | (simp_all; omega) | (constructor <;> intro h <;> (first | (simp_all; done) | (simp_all; omega) | omega))), rfl, rfl⟩, .inl (Ret.mk' [] (by kernel_rfl) (by kernel_rfl) (by kernel_rfl))⟩
                · replace hb32 := of_decide_eq_false (hb32)
                  refine X.skip ?_
                  refine X.seq ?_
                  refine X.seq ?_
                  refine X.rk ⟨[(1, .pt 64 0 0), (3, iV 0)], [(64, some (.box (cD (d59 b))))], 720⟩ hτ hmix (by kernel_rfl) (by kernel_rfl) rfl ?_
                  refine X.block ?_
                  -- 4: v3 : Int
                  refine X.loop (σ := { g : Int // (fun (v3 : Int) => 0 ≤ v3 ∧ v3 ≤ b.f6.length ∧ Upto (fun _ x => txOk x = true) (fun n => b.f6[n]?) v3) g }) (fun g => (fun (v3 : Int) => ⟨[(1, .pt 64 0 0), (3, iV v3)], [(64, some (.box (cD (d59 b))))], 720⟩) g.1) (fun g => (fun (v3 : Int) => (b.f6.length - v3).toNat) g.1) ⟨0, ⟨by first | omega | (dsimp only; omega), by first | omega | (dsimp only; omega), upto_zero⟩⟩ (Wk.less (by kernel_rfl)) (fun g => ?_)
                  obtain ⟨v3, hg34⟩ := g
                  have hg34 : 0 ≤ v3 ∧ v3 ≤ b.f6.length ∧ Upto (fun _ x => txOk x = true) (fun n => b.f6[n]?) v3 := hg34
                  obtain ⟨_, _, hA⟩ := hg34
                  refine X.seq ?_
                  refine X.seq ?_
                  have hm := hb.2.2.2.1.1
                  refine X.rk ⟨[(1, .pt 64 0 0), (3, iV v3), (46, bV (decide ((v3 : Int) < ((b.f6.map d120).length : Int))))], [(64, some (.box (cD (d59 b))))], 800⟩ hτ hmix (by kernel_rfl) (by kernel_rfl) rfl ?_
                  refine X.if_ (b := decide ((v3 : Int) < ((b.f6.map d120).length : Int))) (by kernel_rfl) (fun hb35 => ?_) (fun hb35 => ?_)
                  · replace hb35 := of_decide_eq_true (hb35)
                    refine X.skip ?_
                    refine X.seq ?_
                    refine X.block ?_
                    refine X.seq ?_
                    refine X.rs 3 hτ hmix (by kernel_rfl) ?_
                    obtain ⟨x36, hx36⟩ : ∃ x, b.f6[Int.toNat v3]? = some x := ⟨_, List.getElem?_eq_getElem (by first | omega | (simp; done) | (simp; omega))⟩
                    refine CH.idx hτ (d120 x36) (rows := (b.f6.map d120)) (n := v3) (sz := 5) (by kernel_rfl) (by kernel_rfl) (by first | omega | (simp; done) | (simp; omega)) (by rw [List.getElem?_map, hx36]; rfl) (by kernel_rfl) ?_
                    refine CH.go 1 hτ (by kernel_rfl) ?_
                    obtain ⟨r37, hr39, hf38⟩ := s_TxOk x36 (by exact all_at hb.2.2.2.1.2 ‹_›)
                    replace hr39 := hr39.symm; subst hr39
                    refine CH.call hf38 Try.func123 ⟨rfl, rfl⟩ [] (by kernel_rfl) (by kernel_rfl) (by kernel_rfl) (by kernel_rfl) ?_
                    refine CH.go 1 hτ (by kernel_rfl) ?_
                    refine CH.endk ⟨[(1, .pt 64 0 0), (3, iV v3), (55, bV (!(txOk x36)))], [(64, some (.box (cD (d59 b))))], 912⟩ (by kernel_rfl) (by kernel_rfl) rfl ?_
                    refine X.if_ (b := !(txOk x36)) (by kernel_rfl) (fun hb41 => ?_) (fun hb41 => ?_)
                    · replace hb41 := bnot_yes (hb41)
                      refine X.seq ?_
                      refine X.rk ⟨[(2, bV false)], [], 928⟩ hτ hmix (by kernel_rfl) (by kernel_rfl) rfl ?_
                      refine X.ret ?_
                      exact ⟨trivial, _, _, ⟨false, (by (first | have hz := all_yes (p := txOk) (upto_all hA (by omega)) | have hz := all_no (p := txOk) ‹_› ‹_› | skip); rw [Bool.eq_iff_iff]; simp only [blockOk, Bool.and_eq_true, Bool.or_eq_true, inR_iff, decide_eq_true_eq, beq_iff_eq, Bool.false_eq_true, false_iff, true_iff, List.length_map]; first | (intro h; omega) | (intro h; simp_all; done) | (simp_all; done) | (simp_all; omega) | (constructor <;> intro h <;> (first | (simp_all; done) | (simp_all; omega) | omega))), rfl, rfl⟩, .inl (Ret.mk' [] (by kernel_rfl) (by kernel_rfl) (by kernel_rfl))⟩
                    · replace hb41 := bnot_no (hb41)
                      refine X.skip ?_
                      refine X.rk ⟨[(1, .pt 64 0 0), (3, iV (wrap64 (v3 + 1)))], [(64, some (.box (cD (d59 b))))], 960⟩ hτ hmix (by kernel_rfl) (by kernel_rfl) (s2 := ⟨[(1, .pt 64 0 0), (3, iV (v3 + 1))], [(64, some (.box (cD (d59 b))))], 960⟩) (congrArg (fun z : Int => (⟨[(1, .pt 64 0 0), (3, iV z)], [(64, some (.box (cD (d59 b))))], 960⟩ : St)) (show wrap64 (v3 + 1) = (v3 + 1) by rw [w64 (n := (v3 + 1)) (by omega) (by omega)])) ?_
                      refine ⟨⟨(v3 + 1), ⟨by first | omega | (dsimp only; omega), by first | omega | (dsimp only; omega), upto_nx (by first | omega | (dsimp only; omega)) hA ‹_› (‹_›)⟩⟩, by first | exact rfl | omega | (dsimp only; omega) | (simp only [List.length_append, List.length_cons, List.length_nil, List.length_set]; omega) | (simp; done) | (simp; omega), Wk.mk' [(64, 64)] (by kernel_rfl) (by kernel_rfl) (by kernel_rfl)⟩
                  · replace hb35 := of_decide_eq_false (hb35)
                    refine X.exit ?_
                    refine X.seq ?_
                    refine X.seq ?_
                    refine X.rk ⟨[(1, .pt 64 0 0), (58, bV (!b.f7))], [(64, some (.box (cD (d59 b))))], 848⟩ hτ hmix (by kernel_rfl) (by kernel_rfl) rfl ?_
                    refine X.if_ (b := !b.f7) (by kernel_rfl) (fun hb42 => ?_) (fun hb42 => ?_)
                    · replace hb42 := bnot_yes (hb42)
                      refine X.seq ?_
                      have el43 : (b.f8.map d122).length = b.f8.length := List.length_map ..
                      refine X.rs 5 hτ hmix (by kernel_rfl) ?_
                      rcases Bool.eq_false_or_eq_true ((((b.f8.map d122).length : Int) == 0)) with hb44 | hb44
                      · refine CH.alt 62 (sV (.bool ((((b.f8.map d122).length : Int) == 0)))) (sV (.bool true)) (by kernel_rfl) (by rw [hb44]) ?_
                        refine CH.alt 63 (sV (.bool ((((b.f8.map d122).length : Int) == 0)))) (sV (.bool true)) (by kernel_rfl) (by rw [hb44]) ?_
                        replace hb44 := eq_of_beq (hb44)
                        refine CH.go 5 hτ (by kernel_rfl) ?_
                        refine CH.endk ⟨[(2, bV (b.f9.toList == (⟨#[]⟩ : ByteArray).toList))], [], 1008⟩ (by kernel_rfl) (by kernel_rfl) rfl ?_
                        refine X.ret ?_
                        exact ⟨trivial, _, _, ⟨(b.f9.toList == (⟨#[]⟩ : ByteArray).toList), (by (first | have hz := all_yes (p := txOk) (upto_all hA (by omega)) | have hz := all_no (p := txOk) ‹_› ‹_› | skip); rw [Bool.eq_iff_iff]; simp only [blockOk, Bool.and_eq_true, Bool.or_eq_true, inR_iff, decide_eq_true_eq, beq_iff_eq, Bool.false_eq_true, false_iff, true_iff, List.length_map]; first | (intro h; omega) | (intro h; simp_all; done) | (simp_all; done) | (simp_all; omega) | (constructor <;> intro h <;> (first | (simp_all; done) | (simp_all; omega) | omega))), rfl, rfl⟩, .inl (Ret.mk' [] (by kernel_rfl) (by kernel_rfl) (by kernel_rfl))⟩
                      · refine CH.alt 62 (sV (.bool ((((b.f8.map d122).length : Int) == 0)))) (sV (.bool false)) (by kernel_rfl) (by rw [hb44]) ?_
                        refine CH.alt 63 (sV (.bool ((((b.f8.map d122).length : Int) == 0)))) (sV (.bool false)) (by kernel_rfl) (by rw [hb44]) ?_
                        replace hb44 := beq_eq_false_iff_ne.1 (hb44)
                        refine CH.go 5 hτ (by kernel_rfl) ?_
                        refine CH.endk ⟨[(2, bV false)], [], 1008⟩ (by kernel_rfl) (by kernel_rfl) rfl ?_
                        refine X.ret ?_
                        exact ⟨trivial, _, _, ⟨false, (by (first | have hz := all_yes (p := txOk) (upto_all hA (by omega)) | have hz := all_no (p := txOk) ‹_› ‹_› | skip); rw [Bool.eq_iff_iff]; simp only [blockOk, Bool.and_eq_true, Bool.or_eq_true, inR_iff, decide_eq_true_eq, beq_iff_eq, Bool.false_eq_true, false_iff, true_iff, List.length_map]; first | (intro h; omega) | (intro h; simp_all; done) | (simp_all; done) | (simp_all; omega) | (constructor <;> intro h <;> (first | (simp_all; done) | (simp_all; omega) | omega))), rfl, rfl⟩, .inl (Ret.mk' [] (by kernel_rfl) (by kernel_rfl) (by kernel_rfl))⟩
                    · replace hb42 := bnot_no (hb42)
                      refine X.skip ?_
                      refine X.seq ?_
                      refine X.rs 2 hτ hmix (by kernel_rfl) ?_
                      obtain ⟨r45, hr47, hf46⟩ := s_SetOk b.f8 (by exact hb.2.2.2.2.1)
                      replace hr47 := hr47.symm; subst hr47
                      refine CH.call hf46 Try.func124 ⟨rfl, rfl⟩ [] (by kernel_rfl) (by kernel_rfl) (by kernel_rfl) (by kernel_rfl) ?_
                      refine CH.go 1 hτ (by kernel_rfl) ?_
                      rcases Bool.eq_false_or_eq_true ((setOk b.f8)) with hb49 | hb49
                      · refine CH.alt 70 (sV (.bool ((setOk b.f8)))) (sV (.bool true)) (by kernel_rfl) (by rw [hb49]) ?_
                        refine CH.alt 71 (sV (.bool ((setOk b.f8)))) (sV (.bool true)) (by kernel_rfl) (by rw [hb49]) ?_
                        refine CH.go 6 hτ (by kernel_rfl) ?_
                        refine CH.endk ⟨[(2, bV ((b.f9.size : Int) == 32))], [], 1008⟩ (by kernel_rfl) (by kernel_rfl) rfl ?_
                        refine X.ret ?_
                        exact ⟨trivial, _, _, ⟨((b.f9.size : Int) == 32), (by (first | have hz := all_yes (p := txOk) (upto_all hA (by omega)) | have hz := all_no (p := txOk) ‹_› ‹_› | skip); rw [Bool.eq_iff_iff]; simp only [blockOk, Bool.and_eq_true, Bool.or_eq_true, inR_iff, decide_eq_true_eq, beq_iff_eq, Bool.false_eq_true, false_iff, true_iff, List.length_map]; first | (intro h; omega) | (intro h; simp_all; done) | (simp_all; done) | (simp_all; omega) | (constructor <;> intro h <;> (first | (simp_all; done) | (simp_all; omega) | omega))), rfl, rfl⟩, .inl (Ret.mk' [] (by kernel_rfl) (by kernel_rfl) (by kernel_rfl))⟩
                      · refine CH.alt 70 (sV (.bool ((setOk b.f8)))) (sV (.bool false)) (by kernel_rfl) (by rw [hb49]) ?_
                        refine CH.alt 71 (sV (.bool ((setOk b.f8)))) (sV (.bool false)) (by kernel_rfl) (by rw [hb49]) ?_
                        refine CH.go 6 hτ (by kernel_rfl) ?_
                        refine CH.endk ⟨[(2, bV false)], [], 1008⟩ (by kernel_rfl) (by kernel_rfl) rfl ?_
                        refine X.ret ?_
                        exact ⟨trivial, _, _, ⟨false, (by (first | have hz := all_yes (p := txOk) (upto_all hA (by omega)) | have hz := all_no (p := txOk) ‹_› ‹_› | skip); rw [Bool.eq_iff_iff]; simp only [blockOk, Bool.and_eq_true, Bool.or_eq_true, inR_iff, decide_eq_true_eq, beq_iff_eq, Bool.false_eq_true, false_iff, true_iff, List.length_map]; first | (intro h; omega) | (intro h; simp_all; done) | (simp_all; done) | (simp_all; omega) | (constructor <;> intro h <;> (first | (simp_all; done) | (simp_all; omega) | omega))), rfl, rfl⟩, .inl (Ret.mk' [] (by kernel_rfl) (by kernel_rfl) (by kernel_rfl))⟩
  obtain ⟨_, _, ⟨r0, q1, rfl, rfl⟩, hf⟩ := key
  exact ⟨r0, q1, hf⟩

theorem i_BlockOk (b : S59) (hb : Sm59 b) : ∃ r0 : Bool, (r0 = blockOk b) ∧ Fn Try.prog 60 [.e (.agg (cD (d59 b)))] (lookH []) (bV r0) (lookH []) := by
  have key : ∃ x' h', ((fun x' h' => ∃ r0 : Bool, (r0 = blockOk b) ∧ x' = bV r0 ∧ h' = [])) x' h' ∧ Fn Try.prog 60 [.e (.agg (cD (d59 b)))] (lookH []) x' (lookH h') := by
    refine Fn.bodyX (N := 77) hτ Try.func60 rfl rfl rfl rfl ?_
    refine X.seq ?_
    refine X.rk ⟨[(1, .pt 64 0 0)], [(64, some (.box (cD (d59 b))))], 96⟩ hτ hmix (by kernel_rfl) (by kernel_rfl) rfl ?_
    refine X.seq ?_
    refine X.seq ?_
    refine X.rs 2 hτ hmix (by kernel_rfl) ?_
    obtain ⟨r1, hr3, hf2⟩ := i_inRange b.f0 0 100000
    replace hr3 := hr3.symm; subst hr3
    refine CH.call hf2 Try.func125 ⟨rfl, rfl⟩ [] (by kernel_rfl) (by kernel_rfl) (by kernel_rfl) (by kernel_rfl) ?_
    refine CH.go 2 hτ (by kernel_rfl) ?_
    rcases Bool.eq_false_or_eq_true (!(inR b.f0 0 100000)) with hb5 | hb5
    · refine CH.alt 6 (sV (.bool (!(inR b.f0 0 100000)))) (sV (.bool true)) (by kernel_rfl) (by rw [hb5]) ?_
      refine CH.alt 7 (sV (.bool (!(inR b.f0 0 100000)))) (sV (.bool true)) (by kernel_rfl) (by rw [hb5]) ?_
      replace hb5 := inR_no (bnot_yes (hb5))
      refine CH.go 17 hτ (by kernel_rfl) ?_
      refine CH.endk ⟨[(1, .pt 64 0 0), (24, bV true)], [(64, some (.box (cD (d59 b))))], 448⟩ (by kernel_rfl) (by kernel_rfl) rfl ?_
      refine X.ifT (by kernel_rfl) ?_
      refine X.seq ?_
      refine X.rk ⟨[(2, bV false)], [], 464⟩ hτ hmix (by kernel_rfl) (by kernel_rfl) rfl ?_
      refine X.ret ?_
      exact ⟨trivial, _, _, ⟨false, (by (first | have hz := all_yes (p := txOk) (upto_all hA (by omega)) | have hz := all_no (p := txOk) ‹_› ‹_› | skip); rw [Bool.eq_iff_iff]; simp only [blockOk, Bool.and_eq_true, Bool.or_eq_true, inR_iff, decide_eq_true_eq, beq_iff_eq, Bool.false_eq_true, false_iff, true_iff, List.length_map]; first | (intro h; omega) | (intro h; simp_all; done) | (simp_all; done) | (simp_all; omega) | (constructor <;> intro h <;> (first | (simp_all; done) | (simp_all; omega) | omega))), rfl, rfl⟩, .inl (Ret.mk' [] (by kernel_rfl) (by kernel_rfl) (by kernel_rfl))⟩
    · refine CH.alt 6 (sV (.bool (!(inR b.f0 0 100000)))) (sV (.bool false)) (by kernel_rfl) (by rw [hb5]) ?_
      refine CH.alt 7 (sV (.bool (!(inR b.f0 0 100000)))) (sV (.bool false)) (by kernel_rfl) (by rw [hb5]) ?_
      replace hb5 := inR_yes (bnot_no (hb5))
      refine CH.go 2 hτ (by kernel_rfl) ?_
      obtain ⟨r6, hr8, hf7⟩ := i_inRange b.f1 0 900
      replace hr8 := hr8.symm; subst hr8
      refine CH.call hf7 Try.func125 ⟨rfl, rfl⟩ [] (by kernel_rfl) (by kernel_rfl) (by kernel_rfl) (by kernel_rfl) ?_
      refine CH.go 3 hτ (by kernel_rfl) ?_
      rcases Bool.eq_false_or_eq_true (!(inR b.f1 0 900)) with hb10 | hb10
      · refine CH.alt 11 (sV (.bool (!(inR b.f1 0 900)))) (sV (.bool true)) (by kernel_rfl) (by rw [hb10]) ?_
        refine CH.alt 12 (sV (.bool (!(inR b.f1 0 900)))) (sV (.bool true)) (by kernel_rfl) (by rw [hb10]) ?_
        refine CH.alt 13 (sV (.bool (!(inR b.f1 0 900)))) (sV (.bool true)) (by kernel_rfl) (by rw [hb10]) ?_
        replace hb10 := inR_no (bnot_yes (hb10))
        refine CH.go 11 hτ (by kernel_rfl) ?_
        refine CH.endk ⟨[(1, .pt 64 0 0), (24, bV true)], [(64, some (.box (cD (d59 b))))], 448⟩ (by kernel_rfl) (by kernel_rfl) rfl ?_
        refine X.ifT (by kernel_rfl) ?_
        refine X.seq ?_
        refine X.rk ⟨[(2, bV false)], [], 464⟩ hτ hmix (by kernel_rfl) (by kernel_rfl) rfl ?_
        refine X.ret ?_
        exact ⟨trivial, _, _, ⟨false, (by (first | have hz := all_yes (p := txOk) (upto_all hA (by omega)) | have hz := all_no (p := txOk) ‹_› ‹_› | skip); rw [Bool.eq_iff_iff]; simp only [blockOk, Bool.and_eq_true, Bool.or_eq_true, inR_iff, decide_eq_true_eq, beq_iff_eq, Bool.false_eq_true, false_iff, true_iff, List.length_map]; first | (intro h; omega) | (intro h; simp_all; done) | (simp_all; done) | (simp_all; omega) | (constructor <;> intro h <;> (first | (simp_all; done) | (simp_all; omega) | omega))), rfl, rfl⟩, .inl (Ret.mk' [] (by kernel_rfl) (by kernel_rfl) (by kernel_rfl))⟩
      · refine CH.alt 11 (sV (.bool (!(inR b.f1 0 900)))) (sV (.bool false)) (by kernel_rfl) (by rw [hb10]) ?_
        refine CH.alt 12 (sV (.bool (!(inR b.f1 0 900)))) (sV (.bool false)) (by kernel_rfl) (by rw [hb10]) ?_
        refine CH.alt 13 (sV (.bool (!(inR b.f1 0 900)))) (sV (.bool false)) (by kernel_rfl) (by rw [hb10]) ?_
        replace hb10 := inR_yes (bnot_no (hb10))
        refine CH.go 2 hτ (by kernel_rfl) ?_
        obtain ⟨r11, hr13, hf12⟩ := i_inRange b.f2 1 10000
        replace hr13 := hr13.symm; subst hr13
        refine CH.call hf12 Try.func125 ⟨rfl, rfl⟩ [] (by kernel_rfl) (by kernel_rfl) (by kernel_rfl) (by kernel_rfl) ?_
        refine CH.go 3 hτ (by kernel_rfl) ?_
        rcases Bool.eq_false_or_eq_true (!(inR b.f2 1 10000)) with hb15 | hb15
        · refine CH.alt 17 (sV (.bool (!(inR b.f2 1 10000)))) (sV (.bool true)) (by kernel_rfl) (by rw [hb15]) ?_
          refine CH.alt 18 (sV (.bool (!(inR b.f2 1 10000)))) (sV (.bool true)) (by kernel_rfl) (by rw [hb15]) ?_
          refine CH.alt 19 (sV (.bool (!(inR b.f2 1 10000)))) (sV (.bool true)) (by kernel_rfl) (by rw [hb15]) ?_
          replace hb15 := inR_no (bnot_yes (hb15))
          refine CH.go 5 hτ (by kernel_rfl) ?_
          refine CH.endk ⟨[(1, .pt 64 0 0), (24, bV true)], [(64, some (.box (cD (d59 b))))], 448⟩ (by kernel_rfl) (by kernel_rfl) rfl ?_
          refine X.ifT (by kernel_rfl) ?_
          refine X.seq ?_
          refine X.rk ⟨[(2, bV false)], [], 464⟩ hτ hmix (by kernel_rfl) (by kernel_rfl) rfl ?_
          refine X.ret ?_
          exact ⟨trivial, _, _, ⟨false, (by (first | have hz := all_yes (p := txOk) (upto_all hA (by omega)) | have hz := all_no (p := txOk) ‹_› ‹_› | skip); rw [Bool.eq_iff_iff]; simp only [blockOk, Bool.and_eq_true, Bool.or_eq_true, inR_iff, decide_eq_true_eq, beq_iff_eq, Bool.false_eq_true, false_iff, true_iff, List.length_map]; first | (intro h; omega) | (intro h; simp_all; done) | (simp_all; done) | (simp_all; omega) | (constructor <;> intro h <;> (first | (simp_all; done) | (simp_all; omega) | omega))), rfl, rfl⟩, .inl (Ret.mk' [] (by kernel_rfl) (by kernel_rfl) (by kernel_rfl))⟩
        · refine CH.alt 17 (sV (.bool (!(inR b.f2 1 10000)))) (sV (.bool false)) (by kernel_rfl) (by rw [hb15]) ?_
          refine CH.alt 18 (sV (.bool (!(inR b.f2 1 10000)))) (sV (.bool false)) (by kernel_rfl) (by rw [hb15]) ?_
          refine CH.alt 19 (sV (.bool (!(inR b.f2 1 10000)))) (sV (.bool false)) (by kernel_rfl) (by rw [hb15]) ?_
          replace hb15 := inR_yes (bnot_no (hb15))
          refine CH.go 2 hτ (by kernel_rfl) ?_
          obtain ⟨r16, hr18, hf17⟩ := i_NameOk b.f3 (by exact hb.1)
          replace hr18 := hr18.symm; subst hr18
          refine CH.call hf17 Try.func126 ⟨rfl, rfl⟩ [] (by kernel_rfl) (by kernel_rfl) (by kernel_rfl) (by kernel_rfl) ?_
          refine CH.go 2 hτ (by kernel_rfl) ?_
          refine CH.endk ⟨[(1, .pt 64 0 0), (24, bV (!(nameOk b.f3)))], [(64, some (.box (cD (d59 b))))], 448⟩ (by kernel_rfl) (by kernel_rfl) rfl ?_
          refine X.if_ (b := !(nameOk b.f3)) (by kernel_rfl) (fun hb20 => ?_) (fun hb20 => ?_)
          · replace hb20 := bnot_yes (hb20)
            refine X.seq ?_
            refine X.rk ⟨[(2, bV false)], [], 464⟩ hτ hmix (by kernel_rfl) (by kernel_rfl) rfl ?_
            refine X.ret ?_
            exact ⟨trivial, _, _, ⟨false, (by (first | have hz := all_yes (p := txOk) (upto_all hA (by omega)) | have hz := all_no (p := txOk) ‹_› ‹_› | skip); rw [Bool.eq_iff_iff]; simp only [blockOk, Bool.and_eq_true, Bool.or_eq_true, inR_iff, decide_eq_true_eq, beq_iff_eq, Bool.false_eq_true, false_iff, true_iff, List.length_map]; first | (intro h; omega) | (intro h; simp_all; done) | (simp_all; done) | (simp_all; omega) | (constructor <;> intro h <;> (first | (simp_all; done) | (simp_all; omega) | omega))), rfl, rfl⟩, .inl (Ret.mk' [] (by kernel_rfl) (by kernel_rfl) (by kernel_rfl))⟩
          · replace hb20 := bnot_no (hb20)
            refine X.skip ?_
            refine X.seq ?_
            refine X.seq ?_
            have hm := hb.2.2.2.1.1
            refine X.rs 8 hτ hmix (by kernel_rfl) ?_
            obtain ⟨r21, hr23, hf22⟩ := i_qcForm b.f4 (wr .i64 (b.f2 - 1)) (wr .i64 (b.f0 - 1)) (by exact hb.2.1)
            replace hr23 := hr23.symm; subst hr23
            refine CH.call hf22 Try.func127 ⟨rfl, rfl⟩ [] (by kernel_rfl) (by kernel_rfl) (by kernel_rfl) (by kernel_rfl) ?_
            refine CH.go 2 hτ (by kernel_rfl) ?_
            rcases Bool.eq_false_or_eq_true (!(qcForm b.f4 (wr .i64 (b.f2 - 1)) (wr .i64 (b.f0 - 1)))) with hb25 | hb25
            · refine CH.alt 34 (sV (.bool (!(qcForm b.f4 (wr .i64 (b.f2 - 1)) (wr .i64 (b.f0 - 1)))))) (sV (.bool true)) (by kernel_rfl) (by rw [hb25]) ?_
              refine CH.alt 35 (sV (.bool (!(qcForm b.f4 (wr .i64 (b.f2 - 1)) (wr .i64 (b.f0 - 1)))))) (sV (.bool true)) (by kernel_rfl) (by rw [hb25]) ?_
              replace hb25 := bnot_yes (hb25)
              refine CH.go 20 hτ (by kernel_rfl) ?_
              refine CH.endk ⟨[(1, .pt 64 0 0), (55, bV true)], [(64, some (.box (cD (d59 b))))], 944⟩ (by kernel_rfl) (by kernel_rfl) rfl ?_
              refine X.ifT (by kernel_rfl) ?_
              refine X.seq ?_
              refine X.rk ⟨[(2, bV false)], [], 960⟩ hτ hmix (by kernel_rfl) (by kernel_rfl) rfl ?_
              refine X.ret ?_
              exact ⟨trivial, _, _, ⟨false, (by (first | have hz := all_yes (p := txOk) (upto_all hA (by omega)) | have hz := all_no (p := txOk) ‹_› ‹_› | skip); rw [Bool.eq_iff_iff]; simp only [blockOk, Bool.and_eq_true, Bool.or_eq_true, inR_iff, decide_eq_true_eq, beq_iff_eq, Bool.false_eq_true, false_iff, true_iff, List.length_map]; first | (intro h; omega) | (intro h; simp_all; done) | (simp_all; done) | (simp_all; omega) | (constructor <;> intro h <;> (first | (simp_all; done) | (simp_all; omega) | omega))), rfl, rfl⟩, .inl (Ret.mk' [] (by kernel_rfl) (by kernel_rfl) (by kernel_rfl))⟩
            · refine CH.alt 34 (sV (.bool (!(qcForm b.f4 (wr .i64 (b.f2 - 1)) (wr .i64 (b.f0 - 1)))))) (sV (.bool false)) (by kernel_rfl) (by rw [hb25]) ?_
              refine CH.alt 35 (sV (.bool (!(qcForm b.f4 (wr .i64 (b.f2 - 1)) (wr .i64 (b.f0 - 1)))))) (sV (.bool false)) (by kernel_rfl) (by rw [hb25]) ?_
              replace hb25 := bnot_no (hb25)
              refine CH.go 5 hτ (by kernel_rfl) ?_
              obtain ⟨r26, hr28, hf27⟩ := i_tcForm b.f5 (wr .i64 (b.f2 - 1)) (by exact hb.2.2.1)
              replace hr28 := hr28.symm; subst hr28
              refine CH.call hf27 Try.func128 ⟨rfl, rfl⟩ [] (by kernel_rfl) (by kernel_rfl) (by kernel_rfl) (by kernel_rfl) ?_
              refine CH.go 3 hτ (by kernel_rfl) ?_
              rcases Bool.eq_false_or_eq_true (!(tcForm b.f5 (wr .i64 (b.f2 - 1)))) with hb30 | hb30
              · refine CH.alt 42 (sV (.bool (!(tcForm b.f5 (wr .i64 (b.f2 - 1)))))) (sV (.bool true)) (by kernel_rfl) (by rw [hb30]) ?_
                refine CH.alt 43 (sV (.bool (!(tcForm b.f5 (wr .i64 (b.f2 - 1)))))) (sV (.bool true)) (by kernel_rfl) (by rw [hb30]) ?_
                refine CH.alt 44 (sV (.bool (!(tcForm b.f5 (wr .i64 (b.f2 - 1)))))) (sV (.bool true)) (by kernel_rfl) (by rw [hb30]) ?_
                replace hb30 := bnot_yes (hb30)
                refine CH.go 11 hτ (by kernel_rfl) ?_
                refine CH.endk ⟨[(1, .pt 64 0 0), (55, bV true)], [(64, some (.box (cD (d59 b))))], 944⟩ (by kernel_rfl) (by kernel_rfl) rfl ?_
                refine X.ifT (by kernel_rfl) ?_
                refine X.seq ?_
                refine X.rk ⟨[(2, bV false)], [], 960⟩ hτ hmix (by kernel_rfl) (by kernel_rfl) rfl ?_
                refine X.ret ?_
                exact ⟨trivial, _, _, ⟨false, (by (first | have hz := all_yes (p := txOk) (upto_all hA (by omega)) | have hz := all_no (p := txOk) ‹_› ‹_› | skip); rw [Bool.eq_iff_iff]; simp only [blockOk, Bool.and_eq_true, Bool.or_eq_true, inR_iff, decide_eq_true_eq, beq_iff_eq, Bool.false_eq_true, false_iff, true_iff, List.length_map]; first | (intro h; omega) | (intro h; simp_all; done) | (simp_all; done) | (simp_all; omega) | (constructor <;> intro h <;> (first | (simp_all; done) | (simp_all; omega) | omega))), rfl, rfl⟩, .inl (Ret.mk' [] (by kernel_rfl) (by kernel_rfl) (by kernel_rfl))⟩
              · refine CH.alt 42 (sV (.bool (!(tcForm b.f5 (wr .i64 (b.f2 - 1)))))) (sV (.bool false)) (by kernel_rfl) (by rw [hb30]) ?_
                refine CH.alt 43 (sV (.bool (!(tcForm b.f5 (wr .i64 (b.f2 - 1)))))) (sV (.bool false)) (by kernel_rfl) (by rw [hb30]) ?_
                refine CH.alt 44 (sV (.bool (!(tcForm b.f5 (wr .i64 (b.f2 - 1)))))) (sV (.bool false)) (by kernel_rfl) (by rw [hb30]) ?_
                replace hb30 := bnot_no (hb30)
                refine CH.go 6 hτ (by kernel_rfl) ?_
                have el31 : (b.f6.map d120).length = b.f6.length := List.length_map ..
                rcases Bool.eq_false_or_eq_true (decide ((((b.f6.map d120).length : Int) : Int) > 4)) with hb32 | hb32
                · refine CH.alt 48 (sV (.bool (decide ((((b.f6.map d120).length : Int) : Int) > 4)))) (sV (.bool true)) (by kernel_rfl) (by rw [hb32]) ?_
                  refine CH.alt 49 (sV (.bool (decide ((((b.f6.map d120).length : Int) : Int) > 4)))) (sV (.bool true)) (by kernel_rfl) (by rw [hb32]) ?_
                  refine CH.alt 50 (sV (.bool (decide ((((b.f6.map d120).length : Int) : Int) > 4)))) (sV (.bool true)) (by kernel_rfl) (by rw [hb32]) ?_
                  replace hb32 := of_decide_eq_true (hb32)
                  refine CH.go 5 hτ (by kernel_rfl) ?_
                  refine CH.endk ⟨[(1, .pt 64 0 0), (55, bV true)], [(64, some (.box (cD (d59 b))))], 944⟩ (by kernel_rfl) (by kernel_rfl) rfl ?_
                  refine X.ifT (by kernel_rfl) ?_
                  refine X.seq ?_
                  refine X.rk ⟨[(2, bV false)], [], 960⟩ hτ hmix (by kernel_rfl) (by kernel_rfl) rfl ?_
                  refine X.ret ?_
                  exact ⟨trivial, _, _, ⟨false, (by (first | have hz := all_yes (p := txOk) (upto_all hA (by omega)) | have hz := all_no (p := txOk) ‹_› ‹_› | skip); rw [Bool.eq_iff_iff]; simp only [blockOk, Bool.and_eq_true, Bool.or_eq_true, inR_iff, decide_eq_true_eq, beq_iff_eq, Bool.false_eq_true, false_iff, true_iff, List.length_map]; first | (intro h; omega) | (intro h; simp_all; done) | (simp_all; done) | (simp_all; omega) | (constructor <;> intro h <;> (first | (simp_all; done) | (simp_all; omega) | omega))), rfl, rfl⟩, .inl (Ret.mk' [] (by kernel_rfl) (by kernel_rfl) (by kernel_rfl))⟩
                · refine CH.alt 48 (sV (.bool (decide ((((b.f6.map d120).length : Int) : Int) > 4)))) (sV (.bool false)) (by kernel_rfl) (by rw [hb32]) ?_
                  refine CH.alt 49 (sV (.bool (decide ((((b.f6.map d120).length : Int) : Int) > 4)))) (sV (.bool false)) (by kernel_rfl) (by rw [hb32]) ?_
                  refine CH.alt 50 (sV (.bool (decide ((((b.f6.map d120).length : Int) : Int) > 4)))) (sV (.bool false)) (by kernel_rfl) (by rw [hb32]) ?_
                  replace hb32 := of_decide_eq_false (hb32)
                  refine CH.go 2 hτ (by kernel_rfl) ?_
                  obtain ⟨r33, hr35, hf34⟩ := i_txsOk b.f6 (by exact hb.2.2.2.1)
                  replace hr35 := hr35.symm; subst hr35
                  refine CH.call hf34 Try.func129 ⟨rfl, rfl⟩ [] (by kernel_rfl) (by kernel_rfl) (by kernel_rfl) (by kernel_rfl) ?_
                  refine CH.go 2 hτ (by kernel_rfl) ?_
                  refine CH.endk ⟨[(1, .pt 64 0 0), (55, bV (!(b.f6.all txOk)))], [(64, some (.box (cD (d59 b))))], 944⟩ (by kernel_rfl) (by kernel_rfl) rfl ?_
                  refine X.if_ (b := !(b.f6.all txOk)) (by kernel_rfl) (fun hb37 => ?_) (fun hb37 => ?_)
                  · replace hb37 := bnot_yes (hb37)
                    refine X.seq ?_
                    refine X.rk ⟨[(2, bV false)], [], 960⟩ hτ hmix (by kernel_rfl) (by kernel_rfl) rfl ?_
                    refine X.ret ?_
                    exact ⟨trivial, _, _, ⟨false, (by (first | have hz := all_yes (p := txOk) (upto_all hA (by omega)) | have hz := all_no (p := txOk) ‹_› ‹_› | skip); rw [Bool.eq_iff_iff]; simp only [blockOk, Bool.and_eq_true, Bool.or_eq_true, inR_iff, decide_eq_true_eq, beq_iff_eq, Bool.false_eq_true, false_iff, true_iff, List.length_map]; first | (intro h; omega) | (intro h; simp_all; done) | (simp_all; done) | (simp_all; omega) | (constructor <;> intro h <;> (first | (simp_all; done) | (simp_all; omega) | omega))), rfl, rfl⟩, .inl (Ret.mk' [] (by kernel_rfl) (by kernel_rfl) (by kernel_rfl))⟩
                  · replace hb37 := bnot_no (hb37)
                    refine X.skip ?_
                    refine X.seq ?_
                    refine X.seq ?_
                    refine X.rk ⟨[(1, .pt 64 0 0), (58, bV (!b.f7))], [(64, some (.box (cD (d59 b))))], 992⟩ hτ hmix (by kernel_rfl) (by kernel_rfl) rfl ?_
                    refine X.if_ (b := !b.f7) (by kernel_rfl) (fun hb38 => ?_) (fun hb38 => ?_)
                    · replace hb38 := bnot_yes (hb38)
                      refine X.seq ?_
                      have el39 : (b.f8.map d122).length = b.f8.length := List.length_map ..
                      refine X.rs 5 hτ hmix (by kernel_rfl) ?_
                      rcases Bool.eq_false_or_eq_true ((((b.f8.map d122).length : Int) == 0)) with hb40 | hb40
                      · refine CH.alt 62 (sV (.bool ((((b.f8.map d122).length : Int) == 0)))) (sV (.bool true)) (by kernel_rfl) (by rw [hb40]) ?_
                        refine CH.alt 63 (sV (.bool ((((b.f8.map d122).length : Int) == 0)))) (sV (.bool true)) (by kernel_rfl) (by rw [hb40]) ?_
                        replace hb40 := eq_of_beq (hb40)
                        refine CH.go 5 hτ (by kernel_rfl) ?_
                        refine CH.endk ⟨[(2, bV (b.f9.toList == (⟨#[]⟩ : ByteArray).toList))], [], 1152⟩ (by kernel_rfl) (by kernel_rfl) rfl ?_
                        refine X.ret ?_
                        exact ⟨trivial, _, _, ⟨(b.f9.toList == (⟨#[]⟩ : ByteArray).toList), (by (first | have hz := all_yes (p := txOk) (upto_all hA (by omega)) | have hz := all_no (p := txOk) ‹_› ‹_› | skip); rw [Bool.eq_iff_iff]; simp only [blockOk, Bool.and_eq_true, Bool.or_eq_true, inR_iff, decide_eq_true_eq, beq_iff_eq, Bool.false_eq_true, false_iff, true_iff, List.length_map]; first | (intro h; omega) | (intro h; simp_all; done) | (simp_all; done) | (simp_all; omega) | (constructor <;> intro h <;> (first | (simp_all; done) | (simp_all; omega) | omega))), rfl, rfl⟩, .inl (Ret.mk' [] (by kernel_rfl) (by kernel_rfl) (by kernel_rfl))⟩
                      · refine CH.alt 62 (sV (.bool ((((b.f8.map d122).length : Int) == 0)))) (sV (.bool false)) (by kernel_rfl) (by rw [hb40]) ?_
                        refine CH.alt 63 (sV (.bool ((((b.f8.map d122).length : Int) == 0)))) (sV (.bool false)) (by kernel_rfl) (by rw [hb40]) ?_
                        replace hb40 := beq_eq_false_iff_ne.1 (hb40)
                        refine CH.go 5 hτ (by kernel_rfl) ?_
                        refine CH.endk ⟨[(2, bV false)], [], 1152⟩ (by kernel_rfl) (by kernel_rfl) rfl ?_
                        refine X.ret ?_
                        exact ⟨trivial, _, _, ⟨false, (by (first | have hz := all_yes (p := txOk) (upto_all hA (by omega)) | have hz := all_no (p := txOk) ‹_› ‹_› | skip); rw [Bool.eq_iff_iff]; simp only [blockOk, Bool.and_eq_true, Bool.or_eq_true, inR_iff, decide_eq_true_eq, beq_iff_eq, Bool.false_eq_true, false_iff, true_iff, List.length_map]; first | (intro h; omega) | (intro h; simp_all; done) | (simp_all; done) | (simp_all; omega) | (constructor <;> intro h <;> (first | (simp_all; done) | (simp_all; omega) | omega))), rfl, rfl⟩, .inl (Ret.mk' [] (by kernel_rfl) (by kernel_rfl) (by kernel_rfl))⟩
                    · replace hb38 := bnot_no (hb38)
                      refine X.skip ?_
                      refine X.seq ?_
                      refine X.rs 2 hτ hmix (by kernel_rfl) ?_
                      obtain ⟨r41, hr43, hf42⟩ := i_SetOk b.f8 (by exact hb.2.2.2.2.1)
                      replace hr43 := hr43.symm; subst hr43
                      refine CH.call hf42 Try.func130 ⟨rfl, rfl⟩ [] (by kernel_rfl) (by kernel_rfl) (by kernel_rfl) (by kernel_rfl) ?_
                      refine CH.go 1 hτ (by kernel_rfl) ?_
                      rcases Bool.eq_false_or_eq_true ((setOk b.f8)) with hb45 | hb45
                      · refine CH.alt 70 (sV (.bool ((setOk b.f8)))) (sV (.bool true)) (by kernel_rfl) (by rw [hb45]) ?_
                        refine CH.alt 71 (sV (.bool ((setOk b.f8)))) (sV (.bool true)) (by kernel_rfl) (by rw [hb45]) ?_
                        refine CH.go 6 hτ (by kernel_rfl) ?_
                        refine CH.endk ⟨[(2, bV ((b.f9.size : Int) == 32))], [], 1152⟩ (by kernel_rfl) (by kernel_rfl) rfl ?_
                        refine X.ret ?_
                        exact ⟨trivial, _, _, ⟨((b.f9.size : Int) == 32), (by (first | have hz := all_yes (p := txOk) (upto_all hA (by omega)) | have hz := all_no (p := txOk) ‹_› ‹_› | skip); rw [Bool.eq_iff_iff]; simp only [blockOk, Bool.and_eq_true, Bool.or_eq_true, inR_iff, decide_eq_true_eq, beq_iff_eq, Bool.false_eq_true, false_iff, true_iff, List.length_map]; first | (intro h; omega) | (intro h; simp_all; done) | (simp_all; done) | (simp_all; omega) | (constructor <;> intro h <;> (first | (simp_all; done) | (simp_all; omega) | omega))), rfl, rfl⟩, .inl (Ret.mk' [] (by kernel_rfl) (by kernel_rfl) (by kernel_rfl))⟩
                      · refine CH.alt 70 (sV (.bool ((setOk b.f8)))) (sV (.bool false)) (by kernel_rfl) (by rw [hb45]) ?_
                        refine CH.alt 71 (sV (.bool ((setOk b.f8)))) (sV (.bool false)) (by kernel_rfl) (by rw [hb45]) ?_
                        refine CH.go 6 hτ (by kernel_rfl) ?_
                        refine CH.endk ⟨[(2, bV false)], [], 1152⟩ (by kernel_rfl) (by kernel_rfl) rfl ?_
                        refine X.ret ?_
                        exact ⟨trivial, _, _, ⟨false, (by (first | have hz := all_yes (p := txOk) (upto_all hA (by omega)) | have hz := all_no (p := txOk) ‹_› ‹_› | skip); rw [Bool.eq_iff_iff]; simp only [blockOk, Bool.and_eq_true, Bool.or_eq_true, inR_iff, decide_eq_true_eq, beq_iff_eq, Bool.false_eq_true, false_iff, true_iff, List.length_map]; first | (intro h; omega) | (intro h; simp_all; done) | (simp_all; done) | (simp_all; omega) | (constructor <;> intro h <;> (first | (simp_all; done) | (simp_all; omega) | omega))), rfl, rfl⟩, .inl (Ret.mk' [] (by kernel_rfl) (by kernel_rfl) (by kernel_rfl))⟩
  obtain ⟨_, _, ⟨r0, q1, rfl, rfl⟩, hf⟩ := key
  exact ⟨r0, q1, hf⟩

theorem s_TreeOk (l : List S59) (hl : SmL l) : ∃ r0 : Bool, (r0 = treeOk l) ∧ Fn Try.prog 21 [lV (l.map d59)] (lookH []) (bV r0) (lookH []) := by
  have key : ∃ x' h', ((fun x' h' => ∃ r0 : Bool, (r0 = treeOk l) ∧ x' = bV r0 ∧ h' = [])) x' h' ∧ Fn Try.prog 21 [lV (l.map d59)] (lookH []) x' (lookH h') := by
    refine Fn.bodyX (N := 70) hτ Try.func21 rfl rfl rfl rfl ?_
    refine X.seq ?_
    refine X.rk ⟨[(0, lV (l.map d59))], [], 80⟩ hτ hmix (by kernel_rfl) (by kernel_rfl) rfl ?_
    refine X.seq ?_
    refine X.seq ?_
    refine X.rk ⟨[(0, lV (l.map d59)), (3, iV 0)], [], 96⟩ hτ hmix (by kernel_rfl) (by kernel_rfl) rfl ?_
    refine X.block ?_
    -- 2: v3 : Int
    refine X.loop (σ := { g : Int // (fun (v3 : Int) => 0 ≤ v3 ∧ v3 ≤ l.length ∧ Upto (treeR l) (fun n => l[n]?) v3) g }) (fun g => (fun (v3 : Int) => ⟨[(0, lV (l.map d59)), (3, iV v3)], [], 96⟩) g.1) (fun g => (fun (v3 : Int) => (l.length - v3).toNat) g.1) ⟨0, ⟨by first | omega | (dsimp only; omega), by first | omega | (dsimp only; omega), upto_zero⟩⟩ (Wk.less (by kernel_rfl)) (fun g => ?_)
    obtain ⟨v3, hg2⟩ := g
    have hg2 : 0 ≤ v3 ∧ v3 ≤ l.length ∧ Upto (treeR l) (fun n => l[n]?) v3 := hg2
    obtain ⟨_, _, hA⟩ := hg2
    refine X.seq ?_
    refine X.seq ?_
    have hm := hl.1
    have el3 : (l.map d59).length = l.length := List.length_map ..
    refine X.rk ⟨[(0, lV (l.map d59)), (3, iV v3), (9, bV (decide ((v3 : Int) < ((l.map d59).length : Int))))], [], 160⟩ hτ hmix (by kernel_rfl) (by kernel_rfl) rfl ?_
    refine X.if_ (b := decide ((v3 : Int) < ((l.map d59).length : Int))) (by kernel_rfl) (fun hb4 => ?_) (fun hb4 => ?_)
    · replace hb4 := of_decide_eq_true (hb4)
      refine X.skip ?_
      refine X.seq ?_
      refine X.block ?_
      refine X.seq ?_
      refine X.rs 2 hτ hmix (by kernel_rfl) ?_
      obtain ⟨x5, hx5⟩ : ∃ x, l[Int.toNat v3]? = some x := ⟨_, List.getElem?_eq_getElem (by first | omega | (simp; done) | (simp; omega))⟩
      refine CH.idx hτ (d59 x5) (rows := (l.map d59)) (n := v3) (sz := 14) (by kernel_rfl) (by kernel_rfl) (by first | omega | (simp; done) | (simp; omega)) (by rw [List.getElem?_map, hx5]; rfl) (by kernel_rfl) ?_
      refine CH.go 3 hτ (by kernel_rfl) ?_
      refine CH.endk ⟨[(0, lV (l.map d59)), (3, iV v3), (4, .pt 224 0 0)], [(224, some (.box (cD (d59 x5))))], 256⟩ (by kernel_rfl) (by kernel_rfl) rfl ?_
      refine X.seq ?_
      refine X.seq ?_
      refine X.rs 1 hτ hmix (by kernel_rfl) ?_
      obtain ⟨r6, hr8, hf7⟩ := s_BlockOk x5 (by exact hl.at ‹_›)
      replace hr8 := hr8.symm; subst hr8
      refine CH.call hf7 Try.func58 ⟨rfl, rfl⟩ [] (by kernel_rfl) (by kernel_rfl) (by kernel_rfl) (by kernel_rfl) ?_
      refine CH.go 2 hτ (by kernel_rfl) ?_
      rcases Bool.eq_false_or_eq_true (!(blockOk x5)) with hb10 | hb10
      · refine CH.alt 18 (sV (.bool (!(blockOk x5)))) (sV (.bool true)) (by kernel_rfl) (by rw [hb10]) ?_
        refine CH.alt 19 (sV (.bool (!(blockOk x5)))) (sV (.bool true)) (by kernel_rfl) (by rw [hb10]) ?_
        replace hb10 := bnot_yes (hb10)
        refine CH.go 23 hτ (by kernel_rfl) ?_
        refine CH.endk ⟨[(0, lV (l.map d59)), (3, iV v3), (4, .pt 224 0 0), (42, bV true)], [(224, some (.box (cD (d59 x5))))], 688⟩ (by kernel_rfl) (by kernel_rfl) rfl ?_
        refine X.ifT (by kernel_rfl) ?_
        refine X.seq ?_
        refine X.rk ⟨[(2, bV false)], [], 704⟩ hτ hmix (by kernel_rfl) (by kernel_rfl) rfl ?_
        refine X.ret ?_
        exact ⟨trivial, _, _, ⟨false, (by first | exact (fls (fun h => upto_no (by omega) (by omega) ‹_› (fun hr => by first | exact tf hr.1 ‹_› | exact absurd (hr.2.1 _ ‹_›) ‹_› | (have := hr.2.2.1 _ (by omega) ‹_›; omega)) h.1)) | exact (fls (fun h => tk_no1 h (by omega) ‹_› ‹_› ‹_›)) | exact (fls (fun h => tk_no2 h (by omega) ‹_› ‹_› ‹_› ‹_› ‹_›)) | exact (dcd (by simp only [decide_eq_true_eq, List.length_map]; exact ⟨fun h => ⟨upto_all hA (by omega), by omega⟩, fun h => by have := h.2; omega⟩))), rfl, rfl⟩, .inl (Ret.mk' [] (by kernel_rfl) (by kernel_rfl) (by kernel_rfl))⟩
      · refine CH.alt 18 (sV (.bool (!(blockOk x5)))) (sV (.bool false)) (by kernel_rfl) (by rw [hb10]) ?_
        refine CH.alt 19 (sV (.bool (!(blockOk x5)))) (sV (.bool false)) (by kernel_rfl) (by rw [hb10]) ?_
        replace hb10 := bnot_no (hb10)
        refine CH.go 3 hτ (by kernel_rfl) ?_
        obtain ⟨x11, hx11⟩ : ∃ x, l[Int.toNat 0]? = some x := ⟨_, List.getElem?_eq_getElem (by first | omega | (simp; done) | (simp; omega))⟩
        refine CH.idx hτ (d59 x11) (rows := (l.map d59)) (n := 0) (sz := 14) (by kernel_rfl) (by kernel_rfl) (by first | omega | (simp; done) | (simp; omega)) (by rw [List.getElem?_map, hx11]; rfl) (by kernel_rfl) ?_
        refine CH.go 5 hτ (by kernel_rfl) ?_
        rcases Bool.eq_false_or_eq_true ((x5.f1 != x11.f1)) with hb12 | hb12
        · refine CH.alt 26 (sV (.bool ((x5.f1 != x11.f1)))) (sV (.bool true)) (by kernel_rfl) (by rw [hb12]) ?_
          refine CH.alt 27 (sV (.bool ((x5.f1 != x11.f1)))) (sV (.bool true)) (by kernel_rfl) (by rw [hb12]) ?_
          refine CH.alt 28 (sV (.bool ((x5.f1 != x11.f1)))) (sV (.bool true)) (by kernel_rfl) (by rw [hb12]) ?_
          replace hb12 := bne_iff_ne.1 (hb12)
          refine CH.go 14 hτ (by kernel_rfl) ?_
          refine CH.endk ⟨[(0, lV (l.map d59)), (3, iV v3), (4, .pt 224 0 0), (42, bV true)], [(224, some (.box (cD (d59 x5))))], 688⟩ (by kernel_rfl) (by kernel_rfl) rfl ?_
          refine X.ifT (by kernel_rfl) ?_
          refine X.seq ?_
          refine X.rk ⟨[(2, bV false)], [], 704⟩ hτ hmix (by kernel_rfl) (by kernel_rfl) rfl ?_
          refine X.ret ?_
          exact ⟨trivial, _, _, ⟨false, (by first | exact (fls (fun h => upto_no (by omega) (by omega) ‹_› (fun hr => by first | exact tf hr.1 ‹_› | exact absurd (hr.2.1 _ ‹_›) ‹_› | (have := hr.2.2.1 _ (by omega) ‹_›; omega)) h.1)) | exact (fls (fun h => tk_no1 h (by omega) ‹_› ‹_› ‹_›)) | exact (fls (fun h => tk_no2 h (by omega) ‹_› ‹_› ‹_› ‹_› ‹_›)) | exact (dcd (by simp only [decide_eq_true_eq, List.length_map]; exact ⟨fun h => ⟨upto_all hA (by omega), by omega⟩, fun h => by have := h.2; omega⟩))), rfl, rfl⟩, .inl (Ret.mk' [] (by kernel_rfl) (by kernel_rfl) (by kernel_rfl))⟩
        · refine CH.alt 26 (sV (.bool ((x5.f1 != x11.f1)))) (sV (.bool false)) (by kernel_rfl) (by rw [hb12]) ?_
          refine CH.alt 27 (sV (.bool ((x5.f1 != x11.f1)))) (sV (.bool false)) (by kernel_rfl) (by rw [hb12]) ?_
          refine CH.alt 28 (sV (.bool ((x5.f1 != x11.f1)))) (sV (.bool false)) (by kernel_rfl) (by rw [hb12]) ?_
          replace hb12 := bne_eq_false_iff_eq.1 (hb12)
          refine CH.go 3 hτ (by kernel_rfl) ?_
          rcases Bool.eq_false_or_eq_true (decide ((v3 : Int) > 0)) with hb13 | hb13
          · refine CH.alt 30 (sV (.bool (decide ((v3 : Int) > 0)))) (sV (.bool true)) (by kernel_rfl) (by rw [hb13]) ?_
            refine CH.alt 31 (sV (.bool (decide ((v3 : Int) > 0)))) (sV (.bool true)) (by kernel_rfl) (by rw [hb13]) ?_
            replace hb13 := of_decide_eq_true (hb13)
            refine CH.go 3 hτ (by kernel_rfl) ?_
            obtain ⟨x14, hx14⟩ : ∃ x, l[Int.toNat (v3 - 1)]? = some x := ⟨_, List.getElem?_eq_getElem (by first | omega | (simp; done) | (simp; omega))⟩
            refine CH.alt 34 (sV (.int .i64 (wrap64 (v3 - 1)))) (sV (.int .i64 ((v3 - 1)))) (by kernel_rfl) (by rw [w64 (n := (v3 - 1)) (by omega) (by omega)]) ?_
            refine CH.idx hτ (d59 x14) (rows := (l.map d59)) (n := (v3 - 1)) (sz := 14) (by kernel_rfl) (by kernel_rfl) (by first | omega | (simp; done) | (simp; omega)) (by rw [List.getElem?_map, hx14]; rfl) (by kernel_rfl) ?_
            refine CH.go 7 hτ (by kernel_rfl) ?_
            refine CH.endk ⟨[(0, lV (l.map d59)), (3, iV v3), (4, .pt 224 0 0), (42, bV (decide ((x14.f0 : Int) ≥ x5.f0)))], [(224, some (.box (cD (d59 x5))))], 688⟩ (by kernel_rfl) (by kernel_rfl) rfl ?_
            refine X.if_ (b := decide ((x14.f0 : Int) ≥ x5.f0)) (by kernel_rfl) (fun hb15 => ?_) (fun hb15 => ?_)
            · replace hb15 := of_decide_eq_true (hb15)
              refine X.seq ?_
              refine X.rk ⟨[(2, bV false)], [], 704⟩ hτ hmix (by kernel_rfl) (by kernel_rfl) rfl ?_
              refine X.ret ?_
              exact ⟨trivial, _, _, ⟨false, (by first | exact (fls (fun h => upto_no (by omega) (by omega) ‹_› (fun hr => by first | exact tf hr.1 ‹_› | exact absurd (hr.2.1 _ ‹_›) ‹_› | (have := hr.2.2.1 _ (by omega) ‹_›; omega)) h.1)) | exact (fls (fun h => tk_no1 h (by omega) ‹_› ‹_› ‹_›)) | exact (fls (fun h => tk_no2 h (by omega) ‹_› ‹_› ‹_› ‹_› ‹_›)) | exact (dcd (by simp only [decide_eq_true_eq, List.length_map]; exact ⟨fun h => ⟨upto_all hA (by omega), by omega⟩, fun h => by have := h.2; omega⟩))), rfl, rfl⟩, .inl (Ret.mk' [] (by kernel_rfl) (by kernel_rfl) (by kernel_rfl))⟩
            · replace hb15 := of_decide_eq_false (hb15)
              refine X.skip ?_
              refine X.seq ?_
              refine X.rs 2 hτ hmix (by kernel_rfl) ?_
              obtain ⟨r16, hr18, hf17⟩ := s_l8Root x5.f4
              replace hr18 := hr18.symm; subst hr18
              refine CH.call hf17 Try.func59 ⟨rfl, rfl⟩ [] (by kernel_rfl) (by kernel_rfl) (by kernel_rfl) (by kernel_rfl) ?_
              refine CH.go 1 hτ (by kernel_rfl) ?_
              refine CH.endk ⟨[(0, lV (l.map d59)), (3, iV v3), (4, .pt 224 0 0), (46, bV (!(rootQ x5.f4)))], [(224, some (.box (cD (d59 x5))))], 752⟩ (by kernel_rfl) (by kernel_rfl) rfl ?_
              refine X.if_ (b := !(rootQ x5.f4)) (by kernel_rfl) (fun hb20 => ?_) (fun hb20 => ?_)
              · replace hb20 := bnot_yes (hb20)
                refine X.seq ?_
                refine X.rs 2 hτ hmix (by kernel_rfl) ?_
                refine CH.cut hτ (cc := .d (.sl (l.map d59))) (rows := (l.map d59)) (sz := 14) (l := 0) (h := v3) (by kernel_rfl) (by kernel_rfl) (by first | omega | (simp; done) | (simp; omega)) (by first | omega | (simp; done) | (simp; omega)) (by first | omega | (simp only [List.length_map]; omega)) (flat_ok (f := d59) (fun x => rfl)) ?_
                refine CH.alt 49 (.e (.c (.d (.sl (((l.map d59).drop (Int.toNat 0)).take (Int.toNat v3 - Int.toNat 0)))))) (.e (.c (.d (.sl (((l.drop (Int.toNat 0)).take (Int.toNat v3 - Int.toNat 0)).map d59))))) (by kernel_rfl) (by rw [List.map_take, List.map_drop]) ?_
                refine CH.go 3 hτ (by kernel_rfl) ?_
                obtain ⟨r21, hr23, hf22⟩ := s_l10At ((l.drop (Int.toNat 0)).take (Int.toNat v3 - Int.toNat 0)) x5.f4.f1 (by first | (simp only [List.length_take, List.length_drop]; omega) | (simp; omega))
                replace hr23 := hr23.symm; subst hr23
                have hid := idAt_bd ((l.drop (Int.toNat 0)).take (Int.toNat v3 - Int.toNat 0)) x5.f4.f1
                have hid2 := hid
                simp only [List.length_take, List.length_drop] at hid2
                refine CH.call hf22 Try.func54 ⟨rfl, rfl⟩ [] (by kernel_rfl) (by kernel_rfl) (by kernel_rfl) (by kernel_rfl) ?_
                refine CH.go 1 hτ (by kernel_rfl) ?_
                refine CH.endk ⟨[(0, lV (l.map d59)), (3, iV v3), (4, .pt 224 0 0), (5, iV (idAt ((l.drop (Int.toNat 0)).take (Int.toNat v3 - Int.toNat 0)) x5.f4.f1))], [(224, some (.box (cD (d59 x5))))], 880⟩ (by kernel_rfl) (by kernel_rfl) rfl ?_
                refine X.seq ?_
                refine X.rs 3 hτ hmix (by kernel_rfl) ?_
                rcases Bool.eq_false_or_eq_true (decide (((idAt ((l.drop (Int.toNat 0)).take (Int.toNat v3 - Int.toNat 0)) x5.f4.f1) : Int) < 0)) with hb25 | hb25
                · refine CH.alt 55 (sV (.bool (decide (((idAt ((l.drop (Int.toNat 0)).take (Int.toNat v3 - Int.toNat 0)) x5.f4.f1) : Int) < 0)))) (sV (.bool true)) (by kernel_rfl) (by rw [hb25]) ?_
                  refine CH.alt 56 (sV (.bool (decide (((idAt ((l.drop (Int.toNat 0)).take (Int.toNat v3 - Int.toNat 0)) x5.f4.f1) : Int) < 0)))) (sV (.bool true)) (by kernel_rfl) (by rw [hb25]) ?_
                  replace hb25 := of_decide_eq_true (hb25)
                  refine CH.go 10 hτ (by kernel_rfl) ?_
                  refine CH.endk ⟨[(0, lV (l.map d59)), (3, iV v3), (66, bV true)], [], 1088⟩ (by kernel_rfl) (by kernel_rfl) rfl ?_
                  refine X.ifT (by kernel_rfl) ?_
                  refine X.seq ?_
                  refine X.rk ⟨[(2, bV false)], [], 1104⟩ hτ hmix (by kernel_rfl) (by kernel_rfl) rfl ?_
                  refine X.ret ?_
                  exact ⟨trivial, _, _, ⟨false, (by first | exact (fls (fun h => upto_no (by omega) (by omega) ‹_› (fun hr => by first | exact tf hr.1 ‹_› | exact absurd (hr.2.1 _ ‹_›) ‹_› | (have := hr.2.2.1 _ (by omega) ‹_›; omega)) h.1)) | exact (fls (fun h => tk_no1 h (by omega) ‹_› ‹_› ‹_›)) | exact (fls (fun h => tk_no2 h (by omega) ‹_› ‹_› ‹_› ‹_› ‹_›)) | exact (dcd (by simp only [decide_eq_true_eq, List.length_map]; exact ⟨fun h => ⟨upto_all hA (by omega), by omega⟩, fun h => by have := h.2; omega⟩))), rfl, rfl⟩, .inl (Ret.mk' [] (by kernel_rfl) (by kernel_rfl) (by kernel_rfl))⟩
                · refine CH.alt 55 (sV (.bool (decide (((idAt ((l.drop (Int.toNat 0)).take (Int.toNat v3 - Int.toNat 0)) x5.f4.f1) : Int) < 0)))) (sV (.bool false)) (by kernel_rfl) (by rw [hb25]) ?_
                  refine CH.alt 56 (sV (.bool (decide (((idAt ((l.drop (Int.toNat 0)).take (Int.toNat v3 - Int.toNat 0)) x5.f4.f1) : Int) < 0)))) (sV (.bool false)) (by kernel_rfl) (by rw [hb25]) ?_
                  replace hb25 := of_decide_eq_false (hb25)
                  refine CH.go 2 hτ (by kernel_rfl) ?_
                  obtain ⟨x26, hx26⟩ : ∃ x, l[Int.toNat (idAt ((l.drop (Int.toNat 0)).take (Int.toNat v3 - Int.toNat 0)) x5.f4.f1)]? = some x := ⟨_, List.getElem?_eq_getElem (by first | omega | (simp; done) | (simp; omega))⟩
                  refine CH.idx hτ (d59 x26) (rows := (l.map d59)) (n := (idAt ((l.drop (Int.toNat 0)).take (Int.toNat v3 - Int.toNat 0)) x5.f4.f1)) (sz := 14) (by kernel_rfl) (by kernel_rfl) (by first | omega | (simp; done) | (simp; omega)) (by rw [List.getElem?_map, hx26]; rfl) (by kernel_rfl) ?_
                  refine CH.go 7 hτ (by kernel_rfl) ?_
                  refine CH.endk ⟨[(0, lV (l.map d59)), (3, iV v3), (66, bV (x26.f2 != x5.f4.f0))], [], 1088⟩ (by kernel_rfl) (by kernel_rfl) rfl ?_
                  refine X.if_ (b := (x26.f2 != x5.f4.f0)) (by kernel_rfl) (fun hb27 => ?_) (fun hb27 => ?_)
                  · replace hb27 := bne_iff_ne.1 (hb27)
                    refine X.seq ?_
                    refine X.rk ⟨[(2, bV false)], [], 1104⟩ hτ hmix (by kernel_rfl) (by kernel_rfl) rfl ?_
                    refine X.ret ?_
                    exact ⟨trivial, _, _, ⟨false, (by first | exact (fls (fun h => upto_no (by omega) (by omega) ‹_› (fun hr => by first | exact tf hr.1 ‹_› | exact absurd (hr.2.1 _ ‹_›) ‹_› | (have := hr.2.2.1 _ (by omega) ‹_›; omega)) h.1)) | exact (fls (fun h => tk_no1 h (by omega) ‹_› ‹_› ‹_›)) | exact (fls (fun h => tk_no2 h (by omega) ‹_› ‹_› ‹_› ‹_› ‹_›)) | exact (dcd (by simp only [decide_eq_true_eq, List.length_map]; exact ⟨fun h => ⟨upto_all hA (by omega), by omega⟩, fun h => by have := h.2; omega⟩))), rfl, rfl⟩, .inl (Ret.mk' [] (by kernel_rfl) (by kernel_rfl) (by kernel_rfl))⟩
                  · replace hb27 := bne_eq_false_iff_eq.1 (hb27)
                    refine X.skip ?_
                    refine X.rk ⟨[(0, lV (l.map d59)), (3, iV (wrap64 (v3 + 1)))], [], 1136⟩ hτ hmix (by kernel_rfl) (by kernel_rfl) (s2 := ⟨[(0, lV (l.map d59)), (3, iV (v3 + 1))], [], 1136⟩) (congrArg (fun z : Int => (⟨[(0, lV (l.map d59)), (3, iV z)], [], 1136⟩ : St)) (show wrap64 (v3 + 1) = (v3 + 1) by rw [w64 (n := (v3 + 1)) (by omega) (by omega)])) ?_
                    refine ⟨⟨(v3 + 1), ⟨by first | omega | (dsimp only; omega), by first | omega | (dsimp only; omega), upto_nx (by first | omega | (dsimp only; omega)) hA ‹_› (⟨‹_›, at_fn ‹_› ‹_›, (by first | exact fun y h0 hy => absurd h0 (by first | omega | (dsimp only; omega)) | exact prev_fn ‹_› (by first | omega | (dsimp only; omega))), (by first | exact .inl ‹_› | exact .inr ⟨_, tk_find ‹_› ‹_›, ‹_›⟩)⟩)⟩⟩, by first | exact rfl | omega | (dsimp only; omega) | (simp only [List.length_append, List.length_cons, List.length_nil, List.length_set]; omega) | (simp; done) | (simp; omega), Wk.mk' [] (by kernel_rfl) (by kernel_rfl) (by kernel_rfl)⟩
              · replace hb20 := bnot_no (hb20)
                refine X.skip ?_
                refine X.rk ⟨[(0, lV (l.map d59)), (3, iV (wrap64 (v3 + 1)))], [], 800⟩ hτ hmix (by kernel_rfl) (by kernel_rfl) (s2 := ⟨[(0, lV (l.map d59)), (3, iV (v3 + 1))], [], 800⟩) (congrArg (fun z : Int => (⟨[(0, lV (l.map d59)), (3, iV z)], [], 800⟩ : St)) (show wrap64 (v3 + 1) = (v3 + 1) by rw [w64 (n := (v3 + 1)) (by omega) (by omega)])) ?_
                refine ⟨⟨(v3 + 1), ⟨by first | omega | (dsimp only; omega), by first | omega | (dsimp only; omega), upto_nx (by first | omega | (dsimp only; omega)) hA ‹_› (⟨‹_›, at_fn ‹_› ‹_›, (by first | exact fun y h0 hy => absurd h0 (by first | omega | (dsimp only; omega)) | exact prev_fn ‹_› (by first | omega | (dsimp only; omega))), (by first | exact .inl ‹_› | exact .inr ⟨_, tk_find ‹_› ‹_›, ‹_›⟩)⟩)⟩⟩, by first | exact rfl | omega | (dsimp only; omega) | (simp only [List.length_append, List.length_cons, List.length_nil, List.length_set]; omega) | (simp; done) | (simp; omega), Wk.mk' [] (by kernel_rfl) (by kernel_rfl) (by kernel_rfl)⟩
          · refine CH.alt 30 (sV (.bool (decide ((v3 : Int) > 0)))) (sV (.bool false)) (by kernel_rfl) (by rw [hb13]) ?_
            refine CH.alt 31 (sV (.bool (decide ((v3 : Int) > 0)))) (sV (.bool false)) (by kernel_rfl) (by rw [hb13]) ?_
            replace hb13 := of_decide_eq_false (hb13)
            refine CH.go 11 hτ (by kernel_rfl) ?_
            refine CH.endk ⟨[(0, lV (l.map d59)), (3, iV v3), (4, .pt 224 0 0), (42, bV false)], [(224, some (.box (cD (d59 x5))))], 688⟩ (by kernel_rfl) (by kernel_rfl) rfl ?_
            refine X.ifF (by kernel_rfl) ?_
            refine X.skip ?_
            refine X.seq ?_
            refine X.rs 2 hτ hmix (by kernel_rfl) ?_
            obtain ⟨r28, hr30, hf29⟩ := s_l8Root x5.f4
            replace hr30 := hr30.symm; subst hr30
            refine CH.call hf29 Try.func59 ⟨rfl, rfl⟩ [] (by kernel_rfl) (by kernel_rfl) (by kernel_rfl) (by kernel_rfl) ?_
            refine CH.go 1 hτ (by kernel_rfl) ?_
            refine CH.endk ⟨[(0, lV (l.map d59)), (3, iV v3), (4, .pt 224 0 0), (46, bV (!(rootQ x5.f4)))], [(224, some (.box (cD (d59 x5))))], 752⟩ (by kernel_rfl) (by kernel_rfl) rfl ?_
            refine X.if_ (b := !(rootQ x5.f4)) (by kernel_rfl) (fun hb32 => ?_) (fun hb32 => ?_)
            · replace hb32 := bnot_yes (hb32)
              refine X.seq ?_
              refine X.rs 2 hτ hmix (by kernel_rfl) ?_
              refine CH.cut hτ (cc := .d (.sl (l.map d59))) (rows := (l.map d59)) (sz := 14) (l := 0) (h := v3) (by kernel_rfl) (by kernel_rfl) (by first | omega | (simp; done) | (simp; omega)) (by first | omega | (simp; done) | (simp; omega)) (by first | omega | (simp only [List.length_map]; omega)) (flat_ok (f := d59) (fun x => rfl)) ?_
              refine CH.alt 49 (.e (.c (.d (.sl (((l.map d59).drop (Int.toNat 0)).take (Int.toNat v3 - Int.toNat 0)))))) (.e (.c (.d (.sl (((l.drop (Int.toNat 0)).take (Int.toNat v3 - Int.toNat 0)).map d59))))) (by kernel_rfl) (by rw [List.map_take, List.map_drop]) ?_
              refine CH.go 3 hτ (by kernel_rfl) ?_
              obtain ⟨r33, hr35, hf34⟩ := s_l10At ((l.drop (Int.toNat 0)).take (Int.toNat v3 - Int.toNat 0)) x5.f4.f1 (by first | (simp only [List.length_take, List.length_drop]; omega) | (simp; omega))
              replace hr35 := hr35.symm; subst hr35
              have hid := idAt_bd ((l.drop (Int.toNat 0)).take (Int.toNat v3 - Int.toNat 0)) x5.f4.f1
              have hid2 := hid
              simp only [List.length_take, List.length_drop] at hid2
              refine CH.call hf34 Try.func54 ⟨rfl, rfl⟩ [] (by kernel_rfl) (by kernel_rfl) (by kernel_rfl) (by kernel_rfl) ?_
              refine CH.go 1 hτ (by kernel_rfl) ?_
              refine CH.endk ⟨[(0, lV (l.map d59)), (3, iV v3), (4, .pt 224 0 0), (5, iV (idAt ((l.drop (Int.toNat 0)).take (Int.toNat v3 - Int.toNat 0)) x5.f4.f1))], [(224, some (.box (cD (d59 x5))))], 880⟩ (by kernel_rfl) (by kernel_rfl) rfl ?_
              refine X.seq ?_
              refine X.rs 3 hτ hmix (by kernel_rfl) ?_
              rcases Bool.eq_false_or_eq_true (decide (((idAt ((l.drop (Int.toNat 0)).take (Int.toNat v3 - Int.toNat 0)) x5.f4.f1) : Int) < 0)) with hb37 | hb37
              · refine CH.alt 55 (sV (.bool (decide (((idAt ((l.drop (Int.toNat 0)).take (Int.toNat v3 - Int.toNat 0)) x5.f4.f1) : Int) < 0)))) (sV (.bool true)) (by kernel_rfl) (by rw [hb37]) ?_
                refine CH.alt 56 (sV (.bool (decide (((idAt ((l.drop (Int.toNat 0)).take (Int.toNat v3 - Int.toNat 0)) x5.f4.f1) : Int) < 0)))) (sV (.bool true)) (by kernel_rfl) (by rw [hb37]) ?_
                replace hb37 := of_decide_eq_true (hb37)
                refine CH.go 10 hτ (by kernel_rfl) ?_
                refine CH.endk ⟨[(0, lV (l.map d59)), (3, iV v3), (66, bV true)], [], 1088⟩ (by kernel_rfl) (by kernel_rfl) rfl ?_
                refine X.ifT (by kernel_rfl) ?_
                refine X.seq ?_
                refine X.rk ⟨[(2, bV false)], [], 1104⟩ hτ hmix (by kernel_rfl) (by kernel_rfl) rfl ?_
                refine X.ret ?_
                exact ⟨trivial, _, _, ⟨false, (by first | exact (fls (fun h => upto_no (by omega) (by omega) ‹_› (fun hr => by first | exact tf hr.1 ‹_› | exact absurd (hr.2.1 _ ‹_›) ‹_› | (have := hr.2.2.1 _ (by omega) ‹_›; omega)) h.1)) | exact (fls (fun h => tk_no1 h (by omega) ‹_› ‹_› ‹_›)) | exact (fls (fun h => tk_no2 h (by omega) ‹_› ‹_› ‹_› ‹_› ‹_›)) | exact (dcd (by simp only [decide_eq_true_eq, List.length_map]; exact ⟨fun h => ⟨upto_all hA (by omega), by omega⟩, fun h => by have := h.2; omega⟩))), rfl, rfl⟩, .inl (Ret.mk' [] (by kernel_rfl) (by kernel_rfl) (by kernel_rfl))⟩
              · refine CH.alt 55 (sV (.bool (decide (((idAt ((l.drop (Int.toNat 0)).take (Int.toNat v3 - Int.toNat 0)) x5.f4.f1) : Int) < 0)))) (sV (.bool false)) (by kernel_rfl) (by rw [hb37]) ?_
                refine CH.alt 56 (sV (.bool (decide (((idAt ((l.drop (Int.toNat 0)).take (Int.toNat v3 - Int.toNat 0)) x5.f4.f1) : Int) < 0)))) (sV (.bool false)) (by kernel_rfl) (by rw [hb37]) ?_
                replace hb37 := of_decide_eq_false (hb37)
                refine CH.go 2 hτ (by kernel_rfl) ?_
                obtain ⟨x38, hx38⟩ : ∃ x, l[Int.toNat (idAt ((l.drop (Int.toNat 0)).take (Int.toNat v3 - Int.toNat 0)) x5.f4.f1)]? = some x := ⟨_, List.getElem?_eq_getElem (by first | omega | (simp; done) | (simp; omega))⟩
                refine CH.idx hτ (d59 x38) (rows := (l.map d59)) (n := (idAt ((l.drop (Int.toNat 0)).take (Int.toNat v3 - Int.toNat 0)) x5.f4.f1)) (sz := 14) (by kernel_rfl) (by kernel_rfl) (by first | omega | (simp; done) | (simp; omega)) (by rw [List.getElem?_map, hx38]; rfl) (by kernel_rfl) ?_
                refine CH.go 7 hτ (by kernel_rfl) ?_
                refine CH.endk ⟨[(0, lV (l.map d59)), (3, iV v3), (66, bV (x38.f2 != x5.f4.f0))], [], 1088⟩ (by kernel_rfl) (by kernel_rfl) rfl ?_
                refine X.if_ (b := (x38.f2 != x5.f4.f0)) (by kernel_rfl) (fun hb39 => ?_) (fun hb39 => ?_)
                · replace hb39 := bne_iff_ne.1 (hb39)
                  refine X.seq ?_
                  refine X.rk ⟨[(2, bV false)], [], 1104⟩ hτ hmix (by kernel_rfl) (by kernel_rfl) rfl ?_
                  refine X.ret ?_
                  exact ⟨trivial, _, _, ⟨false, (by first | exact (fls (fun h => upto_no (by omega) (by omega) ‹_› (fun hr => by first | exact tf hr.1 ‹_› | exact absurd (hr.2.1 _ ‹_›) ‹_› | (have := hr.2.2.1 _ (by omega) ‹_›; omega)) h.1)) | exact (fls (fun h => tk_no1 h (by omega) ‹_› ‹_› ‹_›)) | exact (fls (fun h => tk_no2 h (by omega) ‹_› ‹_› ‹_› ‹_› ‹_›)) | exact (dcd (by simp only [decide_eq_true_eq, List.length_map]; exact ⟨fun h => ⟨upto_all hA (by omega), by omega⟩, fun h => by have := h.2; omega⟩))), rfl, rfl⟩, .inl (Ret.mk' [] (by kernel_rfl) (by kernel_rfl) (by kernel_rfl))⟩
                · replace hb39 := bne_eq_false_iff_eq.1 (hb39)
                  refine X.skip ?_
                  refine X.rk ⟨[(0, lV (l.map d59)), (3, iV (wrap64 (v3 + 1)))], [], 1136⟩ hτ hmix (by kernel_rfl) (by kernel_rfl) (s2 := ⟨[(0, lV (l.map d59)), (3, iV (v3 + 1))], [], 1136⟩) (congrArg (fun z : Int => (⟨[(0, lV (l.map d59)), (3, iV z)], [], 1136⟩ : St)) (show wrap64 (v3 + 1) = (v3 + 1) by rw [w64 (n := (v3 + 1)) (by omega) (by omega)])) ?_
                  refine ⟨⟨(v3 + 1), ⟨by first | omega | (dsimp only; omega), by first | omega | (dsimp only; omega), upto_nx (by first | omega | (dsimp only; omega)) hA ‹_› (⟨‹_›, at_fn ‹_› ‹_›, (by first | exact fun y h0 hy => absurd h0 (by first | omega | (dsimp only; omega)) | exact prev_fn ‹_› (by first | omega | (dsimp only; omega))), (by first | exact .inl ‹_› | exact .inr ⟨_, tk_find ‹_› ‹_›, ‹_›⟩)⟩)⟩⟩, by first | exact rfl | omega | (dsimp only; omega) | (simp only [List.length_append, List.length_cons, List.length_nil, List.length_set]; omega) | (simp; done) | (simp; omega), Wk.mk' [] (by kernel_rfl) (by kernel_rfl) (by kernel_rfl)⟩
            · replace hb32 := bnot_no (hb32)
              refine X.skip ?_
              refine X.rk ⟨[(0, lV (l.map d59)), (3, iV (wrap64 (v3 + 1)))], [], 800⟩ hτ hmix (by kernel_rfl) (by kernel_rfl) (s2 := ⟨[(0, lV (l.map d59)), (3, iV (v3 + 1))], [], 800⟩) (congrArg (fun z : Int => (⟨[(0, lV (l.map d59)), (3, iV z)], [], 800⟩ : St)) (show wrap64 (v3 + 1) = (v3 + 1) by rw [w64 (n := (v3 + 1)) (by omega) (by omega)])) ?_
              refine ⟨⟨(v3 + 1), ⟨by first | omega | (dsimp only; omega), by first | omega | (dsimp only; omega), upto_nx (by first | omega | (dsimp only; omega)) hA ‹_› (⟨‹_›, at_fn ‹_› ‹_›, (by first | exact fun y h0 hy => absurd h0 (by first | omega | (dsimp only; omega)) | exact prev_fn ‹_› (by first | omega | (dsimp only; omega))), (by first | exact .inl ‹_› | exact .inr ⟨_, tk_find ‹_› ‹_›, ‹_›⟩)⟩)⟩⟩, by first | exact rfl | omega | (dsimp only; omega) | (simp only [List.length_append, List.length_cons, List.length_nil, List.length_set]; omega) | (simp; done) | (simp; omega), Wk.mk' [] (by kernel_rfl) (by kernel_rfl) (by kernel_rfl)⟩
    · replace hb4 := of_decide_eq_false (hb4)
      refine X.exit ?_
      refine X.seq ?_
      refine X.rk ⟨[(2, bV (decide ((((l.map d59).length : Int) : Int) ≤ 400)))], [], 224⟩ hτ hmix (by kernel_rfl) (by kernel_rfl) rfl ?_
      refine X.ret ?_
      exact ⟨trivial, _, _, ⟨decide ((((l.map d59).length : Int) : Int) ≤ 400), (by first | exact (fls (fun h => upto_no (by omega) (by omega) ‹_› (fun hr => by first | exact tf hr.1 ‹_› | exact absurd (hr.2.1 _ ‹_›) ‹_› | (have := hr.2.2.1 _ (by omega) ‹_›; omega)) h.1)) | exact (fls (fun h => tk_no1 h (by omega) ‹_› ‹_› ‹_›)) | exact (fls (fun h => tk_no2 h (by omega) ‹_› ‹_› ‹_› ‹_› ‹_›)) | exact (dcd (by simp only [decide_eq_true_eq, List.length_map]; exact ⟨fun h => ⟨upto_all hA (by omega), by omega⟩, fun h => by have := h.2; omega⟩))), rfl, rfl⟩, .inl (Ret.mk' [] (by kernel_rfl) (by kernel_rfl) (by kernel_rfl))⟩
  obtain ⟨_, _, ⟨r0, q1, rfl, rfl⟩, hf⟩ := key
  exact ⟨r0, q1, hf⟩

theorem s_AddTo (l : List S59) (b : S59) (hl : SmL l) (hb : Sm59 b) (hs : l.length < 2000000) : ∃ r0 : List S59, ∃ r1 : Bool, (r0.length ≤ l.length + 1 ∧ (∀ x, x ∈ r0 → Sm59 x ∧ (x ∈ l ∨ x = b)) ∧ (r1 = true → treeOk r0 = true) ∧ r1 = addOk l b ∧ (r1 = true → r0 = addTo l b) ∧ (r1 = false → r0 = l)) ∧ Fn Try.prog 32 [lV (l.map d59), .e (.agg (cD (d59 b)))] (lookH []) (.tup [.c (.ref 64), .c (.d (.v (.bool r1)))]) (lookH [(64, some (.row 14 59 (r0.map d59) false true))]) := by
  have key : ∃ x' h', ((fun x' h' => ∃ r0 : List S59, ∃ r1 : Bool, (r0.length ≤ l.length + 1 ∧ (∀ x, x ∈ r0 → Sm59 x ∧ (x ∈ l ∨ x = b)) ∧ (r1 = true → treeOk r0 = true) ∧ r1 = addOk l b ∧ (r1 = true → r0 = addTo l b) ∧ (r1 = false → r0 = l)) ∧ x' = .tup [.c (.ref 64), .c (.d (.v (.bool r1)))] ∧ h' = [(64, some (.row 14 59 (r0.map d59) false true))])) x' h' ∧ Fn Try.prog 32 [lV (l.map d59), .e (.agg (cD (d59 b)))] (lookH []) x' (lookH h') := by
    refine Fn.bodyX (N := 63) hτ Try.func32 rfl rfl rfl rfl ?_
    refine X.seq ?_
    refine X.rk ⟨[(0, lV (l.map d59)), (3, .pt 64 0 0)], [(64, some (.box (cD (d59 b))))], 112⟩ hτ hmix (by kernel_rfl) (by kernel_rfl) rfl ?_
    refine X.seq ?_
    refine X.seq ?_
    have hm := hl.1
    refine X.rs 3 hτ hmix (by kernel_rfl) ?_
    obtain ⟨r1, hr3, hf2⟩ := s_l10At l b.f0 (by omega)
    replace hr3 := hr3.symm; subst hr3
    have hid := idAt_bd l b.f0
    refine CH.call hf2 Try.func54 ⟨rfl, rfl⟩ [] (by kernel_rfl) (by kernel_rfl) (by kernel_rfl) (by kernel_rfl) ?_
    refine CH.go 1 hτ (by kernel_rfl) ?_
    refine CH.endk ⟨[(0, lV (l.map d59)), (3, .pt 64 0 0), (13, bV (decide (((idAt l b.f0) : Int) ≥ 0)))], [(64, some (.box (cD (d59 b))))], 192⟩ (by kernel_rfl) (by kernel_rfl) rfl ?_
    refine X.if_ (b := decide (((idAt l b.f0) : Int) ≥ 0)) (by kernel_rfl) (fun hb5 => ?_) (fun hb5 => ?_)
    · replace hb5 := of_decide_eq_true (hb5)
      refine X.seq ?_
      refine X.rs 1 hτ hmix (by kernel_rfl) ?_
      obtain ⟨r6, hr8, hf7⟩ := s_l10Copy l (by assumption)
      replace hr8 := hr8.symm; subst hr8
      refine CH.call hf7 Try.func73 ⟨rfl, rfl⟩ [] (by kernel_rfl) (by kernel_rfl) (by kernel_rfl) (by kernel_rfl) ?_
      refine CH.go 2 hτ (by kernel_rfl) ?_
      refine CH.endk ⟨[(4, rV 208), (5, bV false)], [(208, some (.row 14 59 (l.map d59) false true))], 256⟩ (by kernel_rfl) (by kernel_rfl) rfl ?_
      refine X.ret ?_
      exact ⟨trivial, _, _, ⟨l, false, (by first | exact ⟨by omega, fun x hx => ⟨hl.2 x hx, .inl hx⟩, (fun h => by cases h), addOk_id ‹_›, (fun h => by cases h), fun _ => rfl⟩ | exact ⟨by omega, fun x hx => ⟨hl.2 x hx, .inl hx⟩, (fun h => by cases h), addOk_no (by omega) (by omega) hE hG (.inl ‹_›) ‹_›, (fun h => by cases h), fun _ => rfl⟩ | exact ⟨by omega, fun x hx => ⟨hl.2 x hx, .inl hx⟩, (fun h => by cases h), addOk_no (by omega) (by omega) hE hG (.inr ⟨_, ‹_›, ‹_›⟩) ‹_›, (fun h => by cases h), fun _ => rfl⟩ | exact (have q := addOk_yes ‹_› (by omega) hE ‹_›; ⟨by omega, hA, fun _ => ‹_›, q.1, fun _ => q.2, fun h => by cases h⟩)), rfl, rfl⟩, .inl (Ret.mk' [(64, 208)] (by kernel_rfl) (by kernel_rfl) (by kernel_rfl))⟩
    · replace hb5 := of_decide_eq_false (hb5)
      refine X.skip ?_
      refine X.seq ?_
      refine X.rs 1 hτ hmix (by kernel_rfl) ?_
      obtain ⟨r10, hr12, hf11⟩ := s_l10Copy l (by assumption)
      replace hr12 := hr12.symm; subst hr12
      refine CH.call hf11 Try.func73 ⟨rfl, rfl⟩ [] (by kernel_rfl) (by kernel_rfl) (by kernel_rfl) (by kernel_rfl) ?_
      refine CH.go 1 hτ (by kernel_rfl) ?_
      obtain ⟨r14, hr16, hf15⟩ := s_l9Copy b (by assumption)
      replace hr16 := hr16.symm; subst hr16
      refine CH.call hf15 Try.func74 ⟨rfl, rfl⟩ [] (by kernel_rfl) (by kernel_rfl) (by kernel_rfl) (by kernel_rfl) ?_
      refine CH.go 1 hτ (by kernel_rfl) ?_
      have el18 : (l.map d59).length = l.length := List.length_map ..
      have el19 : (([b] : List S59).map d59).length = ([b] : List S59).length := List.length_map ..
      have el20 : ([b] : List S59).length = 1 := rfl
      refine CH.app hτ (rows := (l.map d59)) (rows2 := (([b] : List S59).map d59)) (sz := 14) (bys := 208) false (by kernel_rfl) (by kernel_rfl) (fun h => by cases h) (flat_ok (f := d59) (fun x => rfl)) (by simp only [List.length_map] <;> (first | done | omega | (simp; done) | (simp; omega))) (by kernel_rfl) ?_
      refine CH.go 1 hτ (by kernel_rfl) ?_
      refine CH.endk ⟨[(0, lV (l.map d59)), (3, .pt 64 0 0), (6, rV 272)], [(64, some (.box (cD (d59 b)))), (272, some (.row 14 59 ((l.map d59) ++ (([b] : List S59).map d59)) false true))], 304⟩ (by kernel_rfl) (by kernel_rfl) (s2 := ⟨[(0, lV (l.map d59)), (3, .pt 64 0 0), (6, rV 272)], [(64, some (.box (cD (d59 b)))), (272, some (.row 14 59 ((l ++ ([b] : List S59)).map d59) false true))], 304⟩) (congrArg (fun z : List (List D) => (⟨[(0, lV (l.map d59)), (3, .pt 64 0 0), (6, rV 272)], [(64, some (.box (cD (d59 b)))), (272, some (.row 14 59 z false true))], 304⟩ : St)) (show (l.map d59) ++ (([b] : List S59).map d59) = ((l ++ ([b] : List S59)).map d59) from List.map_append.symm)) ?_
      refine X.seq ?_
      have el21 : ((l ++ ([b] : List S59)).map d59).length = (l ++ ([b] : List S59)).length := List.length_map ..
      have el22 : (l ++ ([b] : List S59)).length = l.length + ([b] : List S59).length := List.length_append
      have el23 : ([b] : List S59).length = 1 := rfl
      refine X.rk ⟨[(0, lV (l.map d59)), (3, .pt 64 0 0), (6, rV 272), (7, iV (wrap64 ((((l ++ ([b] : List S59)).map d59).length : Int) - 1)))], [(64, some (.box (cD (d59 b)))), (272, some (.row 14 59 ((l ++ ([b] : List S59)).map d59) false true))], 368⟩ hτ hmix (by kernel_rfl) (by kernel_rfl) (s2 := ⟨[(0, lV (l.map d59)), (3, .pt 64 0 0), (6, rV 272), (7, iV ((((l ++ ([b] : List S59)).map d59).length : Int) - 1))], [(64, some (.box (cD (d59 b)))), (272, some (.row 14 59 ((l ++ ([b] : List S59)).map d59) false true))], 368⟩) (congrArg (fun z : Int => (⟨[(0, lV (l.map d59)), (3, .pt 64 0 0), (6, rV 272), (7, iV z)], [(64, some (.box (cD (d59 b)))), (272, some (.row 14 59 ((l ++ ([b] : List S59)).map d59) false true))], 368⟩ : St)) (show wrap64 ((((l ++ ([b] : List S59)).map d59).length : Int) - 1) = ((((l ++ ([b] : List S59)).map d59).length : Int) - 1) by rw [w64 (n := ((((l ++ ([b] : List S59)).map d59).length : Int) - 1)) (by omega) (by omega)])) ?_
      refine X.seq ?_
      refine X.block ?_
      -- 5: Lv6 : List S59, v7 : Int
      refine X.loop (σ := { g : (List S59) × Int // (fun (Lv6 : List S59) (v7 : Int) => 0 ≤ v7 ∧ v7 ≤ (l.length : Int) ∧ Lv6 = insAt l [b] v7.toNat ∧ (∀ (j : Nat) (x : S59), v7.toNat ≤ j → l[j]? = some x → b.f0 < x.f0) ∧ Lv6.length = l.length + 1 ∧ ∀ x, x ∈ Lv6 → Sm59 x ∧ (x ∈ l ∨ x = b)) g.1 g.2 }) (fun g => (fun (Lv6 : List S59) (v7 : Int) => ⟨[(0, lV (l.map d59)), (3, .pt 64 0 0), (6, rV 272), (7, iV v7)], [(64, some (.box (cD (d59 b)))), (272, some (.row 14 59 (Lv6.map d59) false true))], 368⟩) g.1.1 g.1.2) (fun g => (fun (Lv6 : List S59) (v7 : Int) => v7.toNat) g.1.1 g.1.2) ⟨((l ++ ([b] : List S59)), ((((l ++ ([b] : List S59)).map d59).length : Int) - 1)), ⟨by first | omega | (simp; done) | (simp; omega), by first | omega | (simp; done) | (simp; omega), by simp [insAt], fun j x h hx => by have := (List.getElem?_eq_some_iff.1 hx).1; simp at h; omega, by simp, all_app (fun x hx => ⟨hl.2 x hx, .inl hx⟩) (all_one ⟨hb, .inr rfl⟩)⟩⟩ (Wk.less (by kernel_rfl)) (fun g => ?_)
      obtain ⟨⟨Lv6, v7⟩, hg25⟩ := g
      have hg25 : 0 ≤ v7 ∧ v7 ≤ (l.length : Int) ∧ Lv6 = insAt l [b] v7.toNat ∧ (∀ (j : Nat) (x : S59), v7.toNat ≤ j → l[j]? = some x → b.f0 < x.f0) ∧ Lv6.length = l.length + 1 ∧ ∀ x, x ∈ Lv6 → Sm59 x ∧ (x ∈ l ∨ x = b) := hg25
      obtain ⟨_, _, hE, hG, hlen, hA⟩ := hg25
      refine X.seq ?_
      refine X.seq ?_
      refine X.rs 3 hτ hmix (by kernel_rfl) ?_
      rcases Bool.eq_false_or_eq_true (decide ((v7 : Int) > 0)) with hb26 | hb26
      · refine CH.alt 26 (sV (.bool (decide ((v7 : Int) > 0)))) (sV (.bool true)) (by kernel_rfl) (by rw [hb26]) ?_
        refine CH.alt 27 (sV (.bool (decide ((v7 : Int) > 0)))) (sV (.bool true)) (by kernel_rfl) (by rw [hb26]) ?_
        replace hb26 := of_decide_eq_true (hb26)
        refine CH.go 3 hτ (by kernel_rfl) ?_
        refine CH.alt 30 (sV (.int .i64 (wrap64 (v7 - 1)))) (sV (.int .i64 ((v7 - 1)))) (by kernel_rfl) (by rw [w64 (n := (v7 - 1)) (by omega) (by omega)]) ?_
        refine CH.idxR hτ (rows := (Lv6.map d59)) (n := (v7 - 1)) (b := 272) (by kernel_rfl) (by kernel_rfl) (by first | omega | (simp; done) | (simp; omega)) (by simp only [List.length_map, List.length_set]; first | omega | (simp; done) | (simp; omega)) (by kernel_rfl) ?_
        refine CH.go 1 hτ (by kernel_rfl) ?_
        obtain ⟨x27, hx27⟩ : ∃ x, Lv6[Int.toNat (v7 - 1)]? = some x := ⟨_, List.getElem?_eq_getElem (by first | omega | (simp; done) | (simp; omega))⟩
        refine CH.row hτ (d59 x27) (by kernel_rfl) (by kernel_rfl) (by rw [List.getElem?_map, hx27]; rfl) (by kernel_rfl) ?_
        refine CH.go 4 hτ (by kernel_rfl) ?_
        refine CH.endk ⟨[(0, lV (l.map d59)), (3, .pt 64 0 0), (6, rV 272), (7, iV v7), (37, bV (decide ((x27.f0 : Int) > b.f0)))], [(64, some (.box (cD (d59 b)))), (272, some (.row 14 59 (Lv6.map d59) false true))], 576⟩ (by kernel_rfl) (by kernel_rfl) rfl ?_
        refine X.if_ (b := decide ((x27.f0 : Int) > b.f0)) (by kernel_rfl) (fun hb28 => ?_) (fun hb28 => ?_)
        · replace hb28 := of_decide_eq_true (hb28)
          refine X.skip ?_
          refine X.block ?_
          refine X.seq ?_
          refine X.rs 3 hτ hmix (by kernel_rfl) ?_
          refine CH.alt 40 (sV (.int .i64 (wrap64 (v7 - 1)))) (sV (.int .i64 ((v7 - 1)))) (by kernel_rfl) (by rw [w64 (n := (v7 - 1)) (by omega) (by omega)]) ?_
          refine CH.idxR hτ (rows := (Lv6.map d59)) (n := (v7 - 1)) (b := 272) (by kernel_rfl) (by kernel_rfl) (by first | omega | (simp; done) | (simp; omega)) (by simp only [List.length_map, List.length_set]; first | omega | (simp; done) | (simp; omega)) (by kernel_rfl) ?_
          refine CH.row hτ (d59 x27) (by kernel_rfl) (by kernel_rfl) (by rw [List.getElem?_map, hx27]; rfl) (by kernel_rfl) ?_
          refine CH.go 2 hτ (by kernel_rfl) ?_
          refine CH.endk ⟨[(0, lV (l.map d59)), (3, .pt 64 0 0), (6, rV 272), (7, iV v7), (8, .pt 656 0 0)], [(64, some (.box (cD (d59 b)))), (272, some (.row 14 59 (Lv6.map d59) false true)), (656, some (.box (cF (d59 x27))))], 688⟩ (by kernel_rfl) (by kernel_rfl) rfl ?_
          refine X.seq ?_
          refine X.rs 5 hτ hmix (by kernel_rfl) ?_
          refine CH.idxR hτ (rows := (Lv6.map d59)) (n := v7) (b := 272) (by kernel_rfl) (by kernel_rfl) (by first | omega | (simp; done) | (simp; omega)) (by simp only [List.length_map, List.length_set]; first | omega | (simp; done) | (simp; omega)) (by kernel_rfl) ?_
          obtain ⟨x29, hx29⟩ : ∃ x, Lv6[Int.toNat v7]? = some x := ⟨_, List.getElem?_eq_getElem (by first | omega | (simp; done) | (simp; omega))⟩
          refine CH.row hτ (d59 x29) (by kernel_rfl) (by kernel_rfl) (by rw [List.getElem?_map, hx29]; rfl) (by kernel_rfl) ?_
          refine CH.alt 45 (sV (.int .i64 (wrap64 (v7 - 1)))) (sV (.int .i64 ((v7 - 1)))) (by kernel_rfl) (by rw [w64 (n := (v7 - 1)) (by omega) (by omega)]) ?_
          refine CH.idxR hτ (rows := (Lv6.map d59)) (n := (v7 - 1)) (b := 272) (by kernel_rfl) (by kernel_rfl) (by first | omega | (simp; done) | (simp; omega)) (by simp only [List.length_map, List.length_set]; first | omega | (simp; done) | (simp; omega)) (by kernel_rfl) ?_
          refine CH.row hτ (d59 x27) (by kernel_rfl) (by kernel_rfl) (by rw [List.getElem?_map, hx27]; rfl) (by kernel_rfl) ?_
          refine CH.endk ⟨[(0, lV (l.map d59)), (3, .pt 64 0 0), (6, rV 272), (7, iV v7), (8, .pt 656 0 0)], [(64, some (.box (cD (d59 b)))), (272, some (.row 14 59 ((Lv6.map d59).set (Int.toNat (v7 - 1)) (d59 x29)) false true)), (656, some (.box (cF (d59 x27))))], 832⟩ (by kernel_rfl) (by kernel_rfl) (s2 := ⟨[(0, lV (l.map d59)), (3, .pt 64 0 0), (6, rV 272), (7, iV v7), (8, .pt 656 0 0)], [(64, some (.box (cD (d59 b)))), (272, some (.row 14 59 ((Lv6.set (Int.toNat (v7 - 1)) x29).map d59) false true)), (656, some (.box (cF (d59 x27))))], 832⟩) (congrArg (fun z : List (List D) => (⟨[(0, lV (l.map d59)), (3, .pt 64 0 0), (6, rV 272), (7, iV v7), (8, .pt 656 0 0)], [(64, some (.box (cD (d59 b)))), (272, some (.row 14 59 z false true)), (656, some (.box (cF (d59 x27))))], 832⟩ : St)) (show ((Lv6.map d59).set (Int.toNat (v7 - 1)) (d59 x29)) = ((Lv6.set (Int.toNat (v7 - 1)) x29).map d59) from List.map_set.symm)) ?_
          refine X.seq ?_
          refine X.rs 3 hτ hmix (by kernel_rfl) ?_
          refine CH.idxR hτ (rows := ((Lv6.set (Int.toNat (v7 - 1)) x29).map d59)) (n := v7) (b := 272) (by kernel_rfl) (by kernel_rfl) (by first | omega | (simp; done) | (simp; omega)) (by simp only [List.length_map, List.length_set]; first | omega | (simp; done) | (simp; omega)) (by kernel_rfl) ?_
          obtain ⟨x30, hx30⟩ : ∃ x, (Lv6.set (Int.toNat (v7 - 1)) x29)[Int.toNat v7]? = some x := ⟨_, List.getElem?_eq_getElem (by first | omega | (simp; done) | (simp; omega))⟩
          refine CH.row hτ (d59 x30) (by kernel_rfl) (by kernel_rfl) (by rw [List.getElem?_map, hx30]; rfl) (by kernel_rfl) ?_
          refine CH.endk ⟨[(0, lV (l.map d59)), (3, .pt 64 0 0), (6, rV 272), (7, iV v7)], [(64, some (.box (cD (d59 b)))), (272, some (.row 14 59 (((Lv6.set (Int.toNat (v7 - 1)) x29).map d59).set (Int.toNat v7) (d59 x27)) false true))], 912⟩ (by kernel_rfl) (by kernel_rfl) (s2 := ⟨[(0, lV (l.map d59)), (3, .pt 64 0 0), (6, rV 272), (7, iV v7)], [(64, some (.box (cD (d59 b)))), (272, some (.row 14 59 (((Lv6.set (Int.toNat (v7 - 1)) x29).set (Int.toNat v7) x27).map d59) false true))], 912⟩) (congrArg (fun z : List (List D) => (⟨[(0, lV (l.map d59)), (3, .pt 64 0 0), (6, rV 272), (7, iV v7)], [(64, some (.box (cD (d59 b)))), (272, some (.row 14 59 z false true))], 912⟩ : St)) (show (((Lv6.set (Int.toNat (v7 - 1)) x29).map d59).set (Int.toNat v7) (d59 x27)) = (((Lv6.set (Int.toNat (v7 - 1)) x29).set (Int.toNat v7) x27).map d59) from List.map_set.symm)) ?_
          refine X.rk ⟨[(0, lV (l.map d59)), (3, .pt 64 0 0), (6, rV 272), (7, iV (wrap64 (v7 - 1)))], [(64, some (.box (cD (d59 b)))), (272, some (.row 14 59 (((Lv6.set (Int.toNat (v7 - 1)) x29).set (Int.toNat v7) x27).map d59) false true))], 960⟩ hτ hmix (by kernel_rfl) (by kernel_rfl) (s2 := ⟨[(0, lV (l.map d59)), (3, .pt 64 0 0), (6, rV 272), (7, iV (v7 - 1))], [(64, some (.box (cD (d59 b)))), (272, some (.row 14 59 (((Lv6.set (Int.toNat (v7 - 1)) x29).set (Int.toNat v7) x27).map d59) false true))], 960⟩) (congrArg (fun z : Int => (⟨[(0, lV (l.map d59)), (3, .pt 64 0 0), (6, rV 272), (7, iV z)], [(64, some (.box (cD (d59 b)))), (272, some (.row 14 59 (((Lv6.set (Int.toNat (v7 - 1)) x29).set (Int.toNat v7) x27).map d59) false true))], 960⟩ : St)) (show wrap64 (v7 - 1) = (v7 - 1) by rw [w64 (n := (v7 - 1)) (by omega) (by omega)])) ?_
          refine ⟨⟨(((Lv6.set (Int.toNat (v7 - 1)) x29).set (Int.toNat v7) x27), (v7 - 1)), ⟨by first | omega | (dsimp only; omega), by first | omega | (dsimp only; omega), bub_next (by first | omega | (dsimp only; omega)) (by first | omega | (dsimp only; omega)) hE ‹_› ‹_›, bub_gt (by first | omega | (dsimp only; omega)) (by first | omega | (dsimp only; omega)) hE hG ‹_› ‹_›, by simp; omega, all_set (all_set hA (all_at hA ‹_›)) (all_at hA ‹_›)⟩⟩, by first | exact rfl | omega | (dsimp only; omega) | (simp only [List.length_append, List.length_cons, List.length_nil, List.length_set]; omega) | (simp; done) | (simp; omega), Wk.mk' [(64, 64), (272, 272)] (by kernel_rfl) (by kernel_rfl) (by kernel_rfl)⟩
        · replace hb28 := of_decide_eq_false (hb28)
          refine X.exit ?_
          refine X.seq ?_
          refine X.seq ?_
          refine X.rs 1 hτ hmix (by kernel_rfl) ?_
          obtain ⟨r31, hr33, hf32⟩ := s_TreeOk Lv6 (by exact ⟨by omega, fun x hx => (hA x hx).1⟩)
          replace hr33 := hr33.symm; subst hr33
          refine CH.call hf32 Try.func21 ⟨rfl, rfl⟩ [] (by kernel_rfl) (by kernel_rfl) (by kernel_rfl) (by kernel_rfl) ?_
          refine CH.go 1 hτ (by kernel_rfl) ?_
          refine CH.endk ⟨[(0, lV (l.map d59)), (6, rV 272), (59, bV (!(treeOk Lv6)))], [(272, some (.row 14 59 (Lv6.map d59) false true))], 624⟩ (by kernel_rfl) (by kernel_rfl) rfl ?_
          refine X.if_ (b := !(treeOk Lv6)) (by kernel_rfl) (fun hb35 => ?_) (fun hb35 => ?_)
          · replace hb35 := bnot_yes (hb35)
            refine X.seq ?_
            refine X.rs 1 hτ hmix (by kernel_rfl) ?_
            obtain ⟨r36, hr38, hf37⟩ := s_l10Copy l (by assumption)
            replace hr38 := hr38.symm; subst hr38
            refine CH.call hf37 Try.func73 ⟨rfl, rfl⟩ [] (by kernel_rfl) (by kernel_rfl) (by kernel_rfl) (by kernel_rfl) ?_
            refine CH.go 2 hτ (by kernel_rfl) ?_
            refine CH.endk ⟨[(4, rV 640), (5, bV false)], [(640, some (.row 14 59 (l.map d59) false true))], 688⟩ (by kernel_rfl) (by kernel_rfl) rfl ?_
            refine X.ret ?_
            exact ⟨trivial, _, _, ⟨l, false, (by first | exact ⟨by omega, fun x hx => ⟨hl.2 x hx, .inl hx⟩, (fun h => by cases h), addOk_id ‹_›, (fun h => by cases h), fun _ => rfl⟩ | exact ⟨by omega, fun x hx => ⟨hl.2 x hx, .inl hx⟩, (fun h => by cases h), addOk_no (by omega) (by omega) hE hG (.inl ‹_›) ‹_›, (fun h => by cases h), fun _ => rfl⟩ | exact ⟨by omega, fun x hx => ⟨hl.2 x hx, .inl hx⟩, (fun h => by cases h), addOk_no (by omega) (by omega) hE hG (.inr ⟨_, ‹_›, ‹_›⟩) ‹_›, (fun h => by cases h), fun _ => rfl⟩ | exact (have q := addOk_yes ‹_› (by omega) hE ‹_›; ⟨by omega, hA, fun _ => ‹_›, q.1, fun _ => q.2, fun h => by cases h⟩)), rfl, rfl⟩, .inl (Ret.mk' [(64, 640)] (by kernel_rfl) (by kernel_rfl) (by kernel_rfl))⟩
          · replace hb35 := bnot_no (hb35)
            refine X.skip ?_
            refine X.seq ?_
            refine X.rk ⟨[(4, rV 272), (5, bV true)], [(272, some (.row 14 59 (Lv6.map d59) false true))], 672⟩ hτ hmix (by kernel_rfl) (by kernel_rfl) rfl ?_
            refine X.ret ?_
            exact ⟨trivial, _, _, ⟨Lv6, true, (by first | exact ⟨by omega, fun x hx => ⟨hl.2 x hx, .inl hx⟩, (fun h => by cases h), addOk_id ‹_›, (fun h => by cases h), fun _ => rfl⟩ | exact ⟨by omega, fun x hx => ⟨hl.2 x hx, .inl hx⟩, (fun h => by cases h), addOk_no (by omega) (by omega) hE hG (.inl ‹_›) ‹_›, (fun h => by cases h), fun _ => rfl⟩ | exact ⟨by omega, fun x hx => ⟨hl.2 x hx, .inl hx⟩, (fun h => by cases h), addOk_no (by omega) (by omega) hE hG (.inr ⟨_, ‹_›, ‹_›⟩) ‹_›, (fun h => by cases h), fun _ => rfl⟩ | exact (have q := addOk_yes ‹_› (by omega) hE ‹_›; ⟨by omega, hA, fun _ => ‹_›, q.1, fun _ => q.2, fun h => by cases h⟩)), rfl, rfl⟩, .inl (Ret.mk' [(64, 272)] (by kernel_rfl) (by kernel_rfl) (by kernel_rfl))⟩
      · refine CH.alt 26 (sV (.bool (decide ((v7 : Int) > 0)))) (sV (.bool false)) (by kernel_rfl) (by rw [hb26]) ?_
        refine CH.alt 27 (sV (.bool (decide ((v7 : Int) > 0)))) (sV (.bool false)) (by kernel_rfl) (by rw [hb26]) ?_
        replace hb26 := of_decide_eq_false (hb26)
        refine CH.go 10 hτ (by kernel_rfl) ?_
        refine CH.endk ⟨[(0, lV (l.map d59)), (3, .pt 64 0 0), (6, rV 272), (7, iV v7), (37, bV false)], [(64, some (.box (cD (d59 b)))), (272, some (.row 14 59 (Lv6.map d59) false true))], 576⟩ (by kernel_rfl) (by kernel_rfl) rfl ?_
        refine X.ifF (by kernel_rfl) ?_
        refine X.exit ?_
        refine X.seq ?_
        refine X.seq ?_
        refine X.rs 1 hτ hmix (by kernel_rfl) ?_
        obtain ⟨r40, hr42, hf41⟩ := s_TreeOk Lv6 (by exact ⟨by omega, fun x hx => (hA x hx).1⟩)
        replace hr42 := hr42.symm; subst hr42
        refine CH.call hf41 Try.func21 ⟨rfl, rfl⟩ [] (by kernel_rfl) (by kernel_rfl) (by kernel_rfl) (by kernel_rfl) ?_
        refine CH.go 1 hτ (by kernel_rfl) ?_
        refine CH.endk ⟨[(0, lV (l.map d59)), (6, rV 272), (59, bV (!(treeOk Lv6)))], [(272, some (.row 14 59 (Lv6.map d59) false true))], 624⟩ (by kernel_rfl) (by kernel_rfl) rfl ?_
        refine X.if_ (b := !(treeOk Lv6)) (by kernel_rfl) (fun hb44 => ?_) (fun hb44 => ?_)
        · replace hb44 := bnot_yes (hb44)
          refine X.seq ?_
          refine X.rs 1 hτ hmix (by kernel_rfl) ?_
          obtain ⟨r45, hr47, hf46⟩ := s_l10Copy l (by assumption)
          replace hr47 := hr47.symm; subst hr47
          refine CH.call hf46 Try.func73 ⟨rfl, rfl⟩ [] (by kernel_rfl) (by kernel_rfl) (by kernel_rfl) (by kernel_rfl) ?_
          refine CH.go 2 hτ (by kernel_rfl) ?_
          refine CH.endk ⟨[(4, rV 640), (5, bV false)], [(640, some (.row 14 59 (l.map d59) false true))], 688⟩ (by kernel_rfl) (by kernel_rfl) rfl ?_
          refine X.ret ?_
          exact ⟨trivial, _, _, ⟨l, false, (by first | exact ⟨by omega, fun x hx => ⟨hl.2 x hx, .inl hx⟩, (fun h => by cases h), addOk_id ‹_›, (fun h => by cases h), fun _ => rfl⟩ | exact ⟨by omega, fun x hx => ⟨hl.2 x hx, .inl hx⟩, (fun h => by cases h), addOk_no (by omega) (by omega) hE hG (.inl ‹_›) ‹_›, (fun h => by cases h), fun _ => rfl⟩ | exact ⟨by omega, fun x hx => ⟨hl.2 x hx, .inl hx⟩, (fun h => by cases h), addOk_no (by omega) (by omega) hE hG (.inr ⟨_, ‹_›, ‹_›⟩) ‹_›, (fun h => by cases h), fun _ => rfl⟩ | exact (have q := addOk_yes ‹_› (by omega) hE ‹_›; ⟨by omega, hA, fun _ => ‹_›, q.1, fun _ => q.2, fun h => by cases h⟩)), rfl, rfl⟩, .inl (Ret.mk' [(64, 640)] (by kernel_rfl) (by kernel_rfl) (by kernel_rfl))⟩
        · replace hb44 := bnot_no (hb44)
          refine X.skip ?_
          refine X.seq ?_
          refine X.rk ⟨[(4, rV 272), (5, bV true)], [(272, some (.row 14 59 (Lv6.map d59) false true))], 672⟩ hτ hmix (by kernel_rfl) (by kernel_rfl) rfl ?_
          refine X.ret ?_
          exact ⟨trivial, _, _, ⟨Lv6, true, (by first | exact ⟨by omega, fun x hx => ⟨hl.2 x hx, .inl hx⟩, (fun h => by cases h), addOk_id ‹_›, (fun h => by cases h), fun _ => rfl⟩ | exact ⟨by omega, fun x hx => ⟨hl.2 x hx, .inl hx⟩, (fun h => by cases h), addOk_no (by omega) (by omega) hE hG (.inl ‹_›) ‹_›, (fun h => by cases h), fun _ => rfl⟩ | exact ⟨by omega, fun x hx => ⟨hl.2 x hx, .inl hx⟩, (fun h => by cases h), addOk_no (by omega) (by omega) hE hG (.inr ⟨_, ‹_›, ‹_›⟩) ‹_›, (fun h => by cases h), fun _ => rfl⟩ | exact (have q := addOk_yes ‹_› (by omega) hE ‹_›; ⟨by omega, hA, fun _ => ‹_›, q.1, fun _ => q.2, fun h => by cases h⟩)), rfl, rfl⟩, .inl (Ret.mk' [(64, 272)] (by kernel_rfl) (by kernel_rfl) (by kernel_rfl))⟩
  obtain ⟨_, _, ⟨r0, r1, q1, rfl, rfl⟩, hf⟩ := key
  exact ⟨r0, r1, q1, hf⟩
end Go.Proofs.Ytnldeeefiidcaaa.Av
