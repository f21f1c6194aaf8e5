/-
What functions of the program come to, walked one by one.
Conditions: none beside those that each theorem names.
-/
import Derived.Test.YtggmeldoecnkaaaAvK
set_option linter.unusedVariables false
set_option linter.unusedSimpArgs false
namespace Go.Proofs.Ytggmeldoecnkaaa.Av
open Go.RowKit
set_option maxRecDepth 20000
set_option maxHeartbeats 4000000

/-- Put in ahead of place k. -/
def insAt {α : Type} (l m : List α) (k : Nat) : List α := l.take k ++ m ++ l.drop k
section
variable {α : Type} {l L : List α} {b : α} {k : Nat}
theorem ins_len (hk : k ≤ l.length) : (insAt l [b] k).length = l.length + 1 := by simp [insAt]; omega
theorem ins_mem {x : α} (h : x ∈ insAt l [b] k) : x ∈ l ∨ x = b := by
  simp only [insAt, List.mem_append, List.mem_singleton] at h
  rcases h with (h | h) | h
  · exact .inl (List.mem_of_mem_take h)
  · exact .inr h
  · exact .inl (List.mem_of_mem_drop h)
theorem ins_lo (hk : k ≤ l.length) {j : Nat} (hj : j < k) : (insAt l [b] k)[j]? = l[j]? := by
  unfold insAt
  rw [List.append_assoc, List.getElem?_append_left (by rw [List.length_take]; omega), List.getElem?_take, if_pos hj]
theorem ins_k (hk : k ≤ l.length) : (insAt l [b] k)[k]? = some b := by
  unfold insAt
  rw [List.append_assoc, List.getElem?_append_right (by rw [List.length_take]; omega), List.length_take, Nat.min_eq_left hk, Nat.sub_self]
  rfl
theorem ins_hi (hk : k ≤ l.length) {j : Nat} (hj : k ≤ j) : (insAt l [b] k)[j + 1]? = l[j]? := by
  unfold insAt
  rw [List.getElem?_append_right (by rw [List.length_append, List.length_take]; simp; omega), List.length_append, List.length_take, Nat.min_eq_left hk, List.getElem?_drop]
  congr 1
  simp
  omega
theorem bub_next {i : Int} {x y : α} (h0 : i > 0) (hk : i ≤ (l.length : Int)) (e : L = insAt l [b] i.toNat) (hx : L[(i - 1).toNat]? = some x) (hy : L[i.toNat]? = some y) : (L.set (i - 1).toNat y).set i.toNat x = insAt l [b] (i - 1).toNat := by
  subst e
  obtain ⟨n, rfl⟩ : ∃ n : Nat, i = n + 1 := ⟨(i - 1).toNat, by omega⟩
  have e1 : ((n : Int) + 1).toNat = n + 1 := by omega
  have e2 : ((n : Int) + 1 - 1).toNat = n := by omega
  rw [e1] at hx hy ⊢
  rw [e2] at hx ⊢
  rw [ins_k (by omega)] at hy
  cases hy
  rw [ins_lo (by omega) (by omega)] at hx
  apply List.ext_getElem?
  intro j
  have hl := ins_len (l := l) (b := b) (k := n + 1) (by omega)
  rw [List.getElem?_set, List.getElem?_set]
  simp only [List.length_set, hl]
  rcases Nat.lt_trichotomy j n with q | q | q
  · rw [if_neg (by omega), if_neg (by omega), ins_lo (by omega) (by omega), ins_lo (by omega) q]
  · subst q
    rw [if_neg (by omega), if_pos rfl, if_pos (by omega), ins_k (by omega)]
  · rcases Nat.lt_or_ge (n + 1) j with q2 | q2
    · obtain ⟨m, rfl⟩ : ∃ m, j = m + 1 := ⟨j - 1, by omega⟩
      rw [if_neg (by omega), if_neg (by omega), ins_hi (by omega) (by omega), ins_hi (by omega) (by omega)]
    · obtain rfl : j = n + 1 := by omega
      rw [if_pos rfl, if_pos (by omega), ins_hi (by omega) (Nat.le_refl _), hx]
end

def atOf (l : List S72) (b : S72) : Nat := (l.takeWhile fun x => decide (x.f0 < b.f0)).length
def addTo (l : List S72) (b : S72) : List S72 := insAt l [b] (atOf l b)
noncomputable def addOk (l : List S72) (b : S72) : Bool := decide (idAt l b.f0 < 0) && treeOk (addTo l b)
section
variable {l L : List S72} {b : S72} {k : Nat}
theorem atOf_le : atOf l b ≤ l.length := (List.takeWhile_prefix _).length_le
theorem atOf_is (hk : k ≤ l.length) (h1 : ∀ (j : Nat) (x : S72), j < k → l[j]? = some x → x.f0 < b.f0) (h2 : ∀ x, l[k]? = some x → ¬ x.f0 < b.f0) : atOf l b = k := by
  unfold atOf
  have e : l = l.take k ++ l.drop k := (List.take_append_drop k l).symm
  rw [e, List.takeWhile_append_of_pos (by
    intro x hx
    obtain ⟨j, hj⟩ := List.mem_iff_getElem?.1 hx
    rw [List.getElem?_take] at hj
    split at hj
    · exact decide_eq_true (h1 j x ‹_› hj)
    · cases hj)]
  have : (l.drop k).takeWhile (fun x => decide (x.f0 < b.f0)) = [] := by
    cases hd : l.drop k with
    | nil => rfl
    | cons y t =>
      have hy : l[k]? = some y := by
        have := List.getElem?_drop (xs := l) (i := k) (j := 0)
        rw [hd] at this
        simpa using this.symm
      rw [List.takeWhile_cons_of_neg]
      simpa using h2 y hy
  rw [this, List.append_nil, List.length_take]
  omega
theorem tree_lo (h : treeP (insAt l [b] k)) (hk : k ≤ l.length) {j : Nat} {x : S72} (hj : j < k) (hx : l[j]? = some x) : x.f0 < b.f0 :=
  asc_lt h (k - j - 1) j x b ((ins_lo hk hj).trans hx) (by rw [show j + 1 + (k - j - 1) = k by omega]; exact ins_k hk)
theorem tree_hi (h : treeP (insAt l [b] k)) (hk : k ≤ l.length) {j : Nat} {x : S72} (hj : k ≤ j) (hx : l[j]? = some x) : b.f0 < x.f0 :=
  asc_lt h (j - k) k b x (ins_k hk) (by rw [show k + 1 + (j - k) = j + 1 by omega]; exact (ins_hi hk hj).trans hx)
theorem ins_addTo (h : treeP (insAt l [b] k)) (hk : k ≤ l.length) : insAt l [b] k = addTo l b := by
  unfold addTo
  rw [atOf_is hk (fun j x hj hx => tree_lo h hk hj hx) (fun x hx => by have := tree_hi h hk (Nat.le_refl _) hx; omega)]
theorem bub_end (hk : k ≤ l.length) (hgt : ∀ (j : Nat) (x : S72), k ≤ j → l[j]? = some x → b.f0 < x.f0) (hst : ∀ x, 0 < k → l[k - 1]? = some x → x.f0 ≤ b.f0) (h : treeP (addTo l b)) : addTo l b = insAt l [b] k := by
  have ha : atOf l b ≤ l.length := atOf_le
  have e : atOf l b = k := by
    rcases Nat.lt_trichotomy (atOf l b) k with q | q | q
    · have hx : l[k - 1]? = some (l[k - 1]'(by omega)) := List.getElem?_eq_getElem _
      have h1 := tree_hi h ha (j := k - 1) (by omega) hx
      have h2 := hst _ (by omega) hx
      omega
    · exact q
    · have hx : l[k]? = some (l[k]'(by omega)) := List.getElem?_eq_getElem _
      have h1 := tree_lo h ha q hx
      have h2 := hgt _ _ (Nat.le_refl _) hx
      omega
  unfold addTo
  rw [e]
theorem addOk_id (h : idAt l b.f0 ≥ 0) : false = addOk l b := by
  unfold addOk
  rw [decide_eq_false (by omega), Bool.false_and]
theorem addOk_yes (hid : ¬ idAt l b.f0 ≥ 0) (hk : k ≤ l.length) (e : L = insAt l [b] k) (h : treeOk L = true) : true = addOk l b ∧ L = addTo l b := by
  subst e
  have q := ins_addTo (treeOk_iff.1 h) hk
  refine ⟨?_, q⟩
  unfold addOk
  rw [← q, h, decide_eq_true (by omega)]
  rfl
theorem addOk_no {i : Int} (h0 : 0 ≤ i) (hk : i ≤ (l.length : Int)) (e : L = insAt l [b] i.toNat) (hgt : ∀ (j : Nat) (x : S72), i.toNat ≤ j → l[j]? = some x → b.f0 < x.f0) (hst : ¬ i > 0 ∨ ∃ x, L[(i - 1).toNat]? = some x ∧ ¬ x.f0 > b.f0) (h : treeOk L = false) : false = addOk l b := by
  subst e
  unfold addOk
  cases hq : treeOk (addTo l b) with
  | false => simp
  | true =>
    have := bub_end (k := i.toNat) (by omega) hgt (fun x hp hx => by
      rcases hst with q | ⟨y, hy, hy2⟩
      · omega
      · rw [ins_lo (by omega) (by omega), show (i - 1).toNat = i.toNat - 1 by omega, hx] at hy
        cases hy
        omega) (treeOk_iff.1 hq)
    rw [this, h] at hq
    cases hq
theorem bub_gt {i : Int} {x : S72} (h0 : i > 0) (hk : i ≤ (l.length : Int)) (e : L = insAt l [b] i.toNat) (hgt : ∀ (j : Nat) (x : S72), i.toNat ≤ j → l[j]? = some x → b.f0 < x.f0) (hx : L[(i - 1).toNat]? = some x) (hg : x.f0 > b.f0) : ∀ (j : Nat) (x : S72), (i - 1).toNat ≤ j → l[j]? = some x → b.f0 < x.f0 := by
  subst e
  intro j y hj hy
  rw [ins_lo (by omega) (by omega)] at hx
  by_cases q : j = (i - 1).toNat
  · subst q
    rw [hx] at hy
    cases hy
    exact hg
  · exact hgt j y (by omega) hy
end
theorem s_SetOk (l : List S165) (hl : SmV l) : ∃ r0 : Bool, (r0 = setOk l) ∧ Fn Try.prog 171 [lV (l.map d165)] (lookH []) (bV r0) (lookH []) := by
 have key : ∃ x' h', ((fun x' h' => ∃ r0 : Bool, (r0 = setOk l) ∧ x' = bV r0 ∧ h' = [])) x' h' ∧ Fn Try.prog 171 [lV (l.map d165)] (lookH []) x' (lookH h') := by
  refine Fn.bodyX (N := 47) hτ Try.func171 rfl rfl rfl rfl ?_
  refine sk ⟨[(0, lV (l.map d165))], [], 80⟩ ?_
  refine X.seq ?_
  refine sk ⟨[(0, lV (l.map d165)), (3, iV 0)], [], 96⟩ ?_
  refine X.block ?_
  -- 2: v3 : Int
  refine X.loop (σ := { g : Int // (fun (v3 : Int) => 0 ≤ v3 ∧ v3 ≤ l.length ∧ Upto (setR l) (fun n => l[n]?) v3) g }) (fun g => (fun (v3 : Int) => ⟨[(0, lV (l.map d165)), (3, iV v3)], [], 96⟩) g.1) (fun g => (fun (v3 : Int) => (l.length - v3).toNat) g.1) ⟨0, ⟨by first | omega | (dsimp only; omega), by first | omega | (dsimp only; omega), upto_zero⟩⟩ (Wk.less (by kernel_rfl)) (fun g => ?_)
  obtain ⟨v3, hg2⟩ := g
  have hg2 : 0 ≤ v3 ∧ v3 ≤ l.length ∧ Upto (setR l) (fun n => l[n]?) v3 := hg2
  obtain ⟨_, _, hA⟩ := hg2
  refine X.seq ?_
  refine X.seq ?_
  have hm := hl.1
  have el3 : (l.map d165).length = l.length := List.length_map ..
  refine rk ⟨[(0, lV (l.map d165)), (3, iV v3), (7, bV (decide ((v3 : Int) < ((l.map d165).length : Int))))], [], 160⟩ ?_
  refine if_ (b := decide ((v3 : Int) < ((l.map d165).length : Int))) (fun hb4 => ?_) (fun hb4 => ?_)
  ·replace hb4 := of_decide_eq_true (hb4)
   refine X.skip ?_
   refine X.seq ?_
   refine X.block ?_
   refine X.seq (rs 2 ?_)
   obtain ⟨x5, hx5⟩ : ∃ x, l[Int.toNat v3]? = some x := ⟨_, List.getElem?_eq_getElem (by first | omega | (simp; done) | (simp; omega))⟩
   refine CH.idx hτ (d165 x5) (rows := (l.map d165)) (n := v3) (sz := 2) (by kernel_rfl) (by kernel_rfl) (by first | omega | (simp; done) | (simp; omega)) (by rw [List.getElem?_map, hx5]; rfl) (by kernel_rfl) ?_
   refine go 2 ?_
   obtain ⟨r6, hr8, hf7⟩ := s_NameOk x5.f0 (by exact all_at hl.2 ‹_›)
   replace hr8 := hr8.symm; subst hr8
   refine ca hf7 Try.func86 ?_
   refine go 2 ?_
   rcases Bool.eq_false_or_eq_true (!(nameOk x5.f0)) with hb10 | hb10
   ·refine aT 16 hb10 ?_
    refine aT 17 hb10 ?_
    replace hb10 := bnot_yes (hb10)
    refine go 26 ?_
    refine ek ⟨[(0, lV (l.map d165)), (3, iV v3), (43, bV true)], [], 704⟩ ?_
    refine X.ifT (by kernel_rfl) ?_
    refine sk ⟨[(2, bV false)], [], 720⟩ ?_
    refine X.ret ?_
    exact ⟨trivial, _, _, ⟨false, (by first | exact (fls (fun h => upto_no (by omega) (by omega) ‹_› (fun hr => by first | exact tf hr.1 ‹_› | exact absurd hr.2.1 ‹_› | exact tf (hr.2.2 _ (by omega) ‹_›) ‹_›) h.1)) | exact (dcd (by rw [inR_iff]; simp only [List.length_map]; exact ⟨fun h => ⟨upto_all hA (by omega), h⟩, fun h => h.2⟩))), rfl, rfl⟩, mkr⟩
   ·refine aF 16 hb10 ?_
    refine aF 17 hb10 ?_
    replace hb10 := bnot_no (hb10)
    refine go 2 ?_
    refine CH.idx hτ (d165 x5) (rows := (l.map d165)) (n := v3) (sz := 2) (by kernel_rfl) (by kernel_rfl) (by first | omega | (simp; done) | (simp; omega)) (by rw [List.getElem?_map, hx5]; rfl) (by kernel_rfl) ?_
    refine go 2 ?_
    obtain ⟨r11, hr13, hf12⟩ := s_l1In x5.f1 1 1000000
    replace hr13 := hr13.symm; subst hr13
    refine ca hf12 Try.func146 ?_
    refine go 3 ?_
    rcases Bool.eq_false_or_eq_true (!(inR x5.f1 1 1000000)) with hb15 | hb15
    ·refine aT 24 hb15 ?_
     refine aT 25 hb15 ?_
     refine aT 26 hb15 ?_
     replace hb15 := inR_no (bnot_yes (hb15))
     refine go 17 ?_
     refine ek ⟨[(0, lV (l.map d165)), (3, iV v3), (43, bV true)], [], 704⟩ ?_
     refine X.ifT (by kernel_rfl) ?_
     refine sk ⟨[(2, bV false)], [], 720⟩ ?_
     refine X.ret ?_
     exact ⟨trivial, _, _, ⟨false, (by first | exact (fls (fun h => upto_no (by omega) (by omega) ‹_› (fun hr => by first | exact tf hr.1 ‹_› | exact absurd hr.2.1 ‹_› | exact tf (hr.2.2 _ (by omega) ‹_›) ‹_›) h.1)) | exact (dcd (by rw [inR_iff]; simp only [List.length_map]; exact ⟨fun h => ⟨upto_all hA (by omega), h⟩, fun h => h.2⟩))), rfl, rfl⟩, mkr⟩
    ·refine aF 24 hb15 ?_
     refine aF 25 hb15 ?_
     refine aF 26 hb15 ?_
     replace hb15 := inR_yes (bnot_no (hb15))
     refine go 3 ?_
     rcases Bool.eq_false_or_eq_true (decide ((v3 : Int) > 0)) with hb16 | hb16
     ·refine aT 28 hb16 ?_
      refine aT 29 hb16 ?_
      replace hb16 := of_decide_eq_true (hb16)
      refine go 3 ?_
      obtain ⟨x17, hx17⟩ : ∃ x, l[Int.toNat (v3 - 1)]? = some x := ⟨_, List.getElem?_eq_getElem (by first | omega | (simp; done) | (simp; omega))⟩
      refine CH.alt 32 (sV (.int .i64 (wrap64 (v3 - 1)))) (sV (.int .i64 ((v3 - 1)))) (by kernel_rfl) (by rw [w64 (n := (v3 - 1)) (by omega) (by omega)]) ?_
      refine CH.idx hτ (d165 x17) (rows := (l.map d165)) (n := (v3 - 1)) (sz := 2) (by kernel_rfl) (by kernel_rfl) (by first | omega | (simp; done) | (simp; omega)) (by rw [List.getElem?_map, hx17]; rfl) (by kernel_rfl) ?_
      refine go 4 ?_
      refine CH.idx hτ (d165 x5) (rows := (l.map d165)) (n := v3) (sz := 2) (by kernel_rfl) (by kernel_rfl) (by first | omega | (simp; done) | (simp; omega)) (by rw [List.getElem?_map, hx5]; rfl) (by kernel_rfl) ?_
      refine go 5 ?_
      refine ek ⟨[(0, lV (l.map d165)), (3, iV v3), (43, bV (!(Op.bytesLess x17.f0.toList x5.f0.toList)))], [], 704⟩ ?_
      refine if_ (b := !(Op.bytesLess x17.f0.toList x5.f0.toList)) (fun hb18 => ?_) (fun hb18 => ?_)
      ·replace hb18 := bnot_yes (hb18)
       refine sk ⟨[(2, bV false)], [], 720⟩ ?_
       refine X.ret ?_
       exact ⟨trivial, _, _, ⟨false, (by first | exact (fls (fun h => upto_no (by omega) (by omega) ‹_› (fun hr => by first | exact tf hr.1 ‹_› | exact absurd hr.2.1 ‹_› | exact tf (hr.2.2 _ (by omega) ‹_›) ‹_›) h.1)) | exact (dcd (by rw [inR_iff]; simp only [List.length_map]; exact ⟨fun h => ⟨upto_all hA (by omega), h⟩, fun h => h.2⟩))), rfl, rfl⟩, mkr⟩
      ·replace hb18 := bnot_no (hb18)
       refine X.skip ?_
       refine X.rk ⟨[(0, lV (l.map d165)), (3, iV (wrap64 (v3 + 1)))], [], 752⟩ hτ hmix (by kernel_rfl) (by kernel_rfl) (s2 := ⟨[(0, lV (l.map d165)), (3, iV (v3 + 1))], [], 752⟩) (congrArg (fun z : Int => (⟨[(0, lV (l.map d165)), (3, iV z)], [], 752⟩ : St)) (show wrap64 (v3 + 1) = (v3 + 1) by rw [w64 (n := (v3 + 1)) (by omega) (by omega)])) ?_
       refine ⟨⟨(v3 + 1), ⟨by first | omega | (dsimp only; omega), by first | omega | (dsimp only; omega), upto_nx (by first | omega | (dsimp only; omega)) hA ‹_› (⟨‹_›, ‹_›, (by first | exact fun y h0 hy => absurd h0 (by first | omega | (dsimp only; omega)) | exact prev_fn ‹_› ‹_›)⟩)⟩⟩, by first | exact rfl | omega | (dsimp only; omega) | (simp only [List.length_append, List.length_cons, List.length_nil, List.length_set]; omega) | (simp; done) | (simp; omega), Wk.mk' [] (by kernel_rfl) (by kernel_rfl) (by kernel_rfl)⟩
     ·refine aF 28 hb16 ?_
      refine aF 29 hb16 ?_
      replace hb16 := of_decide_eq_false (hb16)
      refine go 14 ?_
      refine ek ⟨[(0, lV (l.map d165)), (3, iV v3), (43, bV false)], [], 704⟩ ?_
      refine X.ifF (by kernel_rfl) ?_
      refine X.skip ?_
      refine X.rk ⟨[(0, lV (l.map d165)), (3, iV (wrap64 (v3 + 1)))], [], 752⟩ hτ hmix (by kernel_rfl) (by kernel_rfl) (s2 := ⟨[(0, lV (l.map d165)), (3, iV (v3 + 1))], [], 752⟩) (congrArg (fun z : Int => (⟨[(0, lV (l.map d165)), (3, iV z)], [], 752⟩ : St)) (show wrap64 (v3 + 1) = (v3 + 1) by rw [w64 (n := (v3 + 1)) (by omega) (by omega)])) ?_
      refine ⟨⟨(v3 + 1), ⟨by first | omega | (dsimp only; omega), by first | omega | (dsimp only; omega), upto_nx (by first | omega | (dsimp only; omega)) hA ‹_› (⟨‹_›, ‹_›, (by first | exact fun y h0 hy => absurd h0 (by first | omega | (dsimp only; omega)) | exact prev_fn ‹_› ‹_›)⟩)⟩⟩, by first | exact rfl | omega | (dsimp only; omega) | (simp only [List.length_append, List.length_cons, List.length_nil, List.length_set]; omega) | (simp; done) | (simp; omega), Wk.mk' [] (by kernel_rfl) (by kernel_rfl) (by kernel_rfl)⟩
  ·replace hb4 := of_decide_eq_false (hb4)
   refine X.exit ?_
   refine X.seq (rs 2 ?_)
   obtain ⟨r19, hr21, hf20⟩ := s_l1In ((l.map d165).length : Int) 1 12
   replace hr21 := hr21.symm; subst hr21
   refine ca hf20 Try.func146 ?_
   refine go 1 ?_
   refine ek ⟨[(2, bV (inR ((l.map d165).length : Int) 1 12))], [], 224⟩ ?_
   refine X.ret ?_
   exact ⟨trivial, _, _, ⟨(inR ((l.map d165).length : Int) 1 12), (by first | exact (fls (fun h => upto_no (by omega) (by omega) ‹_› (fun hr => by first | exact tf hr.1 ‹_› | exact absurd hr.2.1 ‹_› | exact tf (hr.2.2 _ (by omega) ‹_›) ‹_›) h.1)) | exact (dcd (by rw [inR_iff]; simp only [List.length_map]; exact ⟨fun h => ⟨upto_all hA (by omega), h⟩, fun h => h.2⟩))), rfl, rfl⟩, mkr⟩
 obtain ⟨_, _, ⟨r0, h1_, rfl, rfl⟩, hf⟩ := key
 exact ⟨r0, h1_, hf⟩

theorem i_SetOk (l : List S165) (hl : SmV l) : ∃ r0 : Bool, (r0 = setOk l) ∧ Fn Try.prog 178 [lV (l.map d165)] (lookH []) (bV r0) (lookH []) := by
 have key : ∃ x' h', ((fun x' h' => ∃ r0 : Bool, (r0 = setOk l) ∧ x' = bV r0 ∧ h' = [])) x' h' ∧ Fn Try.prog 178 [lV (l.map d165)] (lookH []) x' (lookH h') := by
  refine Fn.bodyX (N := 41) hτ Try.func178 rfl rfl rfl rfl ?_
  refine sk ⟨[(0, lV (l.map d165))], [], 80⟩ ?_
  refine X.seq ?_
  refine X.seq ?_
  have el1 : (l.map d165).length = l.length := List.length_map ..
  refine rk ⟨[(0, lV (l.map d165)), (5, lV (l.map d165)), (6, iV ((l.map d165).length : Int)), (7, iV 0)], [], 128⟩ ?_
  refine X.block ?_
  -- 2: v7 : Int
  refine X.loop (σ := { g : Int // (fun (v7 : Int) => 0 ≤ v7 ∧ v7 ≤ l.length ∧ Upto (setR l) (fun n => l[n]?) v7) g }) (fun g => (fun (v7 : Int) => ⟨[(0, lV (l.map d165)), (5, lV (l.map d165)), (6, iV ((l.map d165).length : Int)), (7, iV v7)], [], 128⟩) g.1) (fun g => (fun (v7 : Int) => (l.length - v7).toNat) g.1) ⟨0, ⟨by first | omega | (dsimp only; omega), by first | omega | (dsimp only; omega), upto_zero⟩⟩ (Wk.less (by kernel_rfl)) (fun g => ?_)
  obtain ⟨v7, hg3⟩ := g
  have hg3 : 0 ≤ v7 ∧ v7 ≤ l.length ∧ Upto (setR l) (fun n => l[n]?) v7 := hg3
  obtain ⟨_, _, hA⟩ := hg3
  refine X.seq ?_
  have hm := hl.1
  refine rk ⟨[(0, lV (l.map d165)), (5, lV (l.map d165)), (6, iV ((l.map d165).length : Int)), (7, iV v7), (8, bV (decide ((v7 : Int) < ((l.map d165).length : Int))))], [], 144⟩ ?_
  refine X.seq ?_
  refine if_ (b := decide ((v7 : Int) < ((l.map d165).length : Int))) (fun hb4 => ?_) (fun hb4 => ?_)
  ·replace hb4 := of_decide_eq_true (hb4)
   refine X.skip ?_
   refine X.seq ?_
   refine X.block ?_
   refine X.seq (rs 1 ?_)
   obtain ⟨x5, hx5⟩ : ∃ x, l[Int.toNat v7]? = some x := ⟨_, List.getElem?_eq_getElem (by first | omega | (simp; done) | (simp; omega))⟩
   refine CH.idx hτ (d165 x5) (rows := (l.map d165)) (n := v7) (sz := 2) (by kernel_rfl) (by kernel_rfl) (by first | omega | (simp; done) | (simp; omega)) (by rw [List.getElem?_map, hx5]; rfl) (by kernel_rfl) ?_
   refine go 4 ?_
   refine ek ⟨[(0, lV (l.map d165)), (3, iV v7), (4, .pt 192 0 0), (5, lV (l.map d165)), (6, iV ((l.map d165).length : Int)), (7, iV v7)], [(192, some (.box [.d (.v (.string x5.f0)), .d (.v (.int .i64 x5.f1))]))], 240⟩ ?_
   refine X.seq (rs 2 ?_)
   obtain ⟨r6, hr8, hf7⟩ := i_NameOk x5.f0 (by exact all_at hl.2 ‹_›)
   replace hr8 := hr8.symm; subst hr8
   refine ca hf7 Try.func90 ?_
   refine go 2 ?_
   rcases Bool.eq_false_or_eq_true (!(nameOk x5.f0)) with hb10 | hb10
   ·refine aT 15 hb10 ?_
    refine aT 16 hb10 ?_
    replace hb10 := bnot_yes (hb10)
    refine go 20 ?_
    refine ek ⟨[(0, lV (l.map d165)), (5, lV (l.map d165)), (6, iV ((l.map d165).length : Int)), (7, iV v7), (36, bV true)], [], 640⟩ ?_
    refine X.ifT (by kernel_rfl) ?_
    refine sk ⟨[(2, bV false)], [], 656⟩ ?_
    refine X.ret ?_
    exact ⟨trivial, _, _, ⟨false, (by first | exact (fls (fun h => upto_no (by omega) (by omega) ‹_› (fun hr => by first | exact tf hr.1 ‹_› | exact absurd hr.2.1 ‹_› | exact tf (hr.2.2 _ (by omega) ‹_›) ‹_›) h.1)) | exact (dcd (by rw [inR_iff]; simp only [List.length_map]; exact ⟨fun h => ⟨upto_all hA (by omega), h⟩, fun h => h.2⟩))), rfl, rfl⟩, mkr⟩
   ·refine aF 15 hb10 ?_
    refine aF 16 hb10 ?_
    replace hb10 := bnot_no (hb10)
    refine go 2 ?_
    obtain ⟨r11, hr13, hf12⟩ := i_inRange x5.f1 1 1000000
    replace hr13 := hr13.symm; subst hr13
    refine ca hf12 Try.func149 ?_
    refine go 3 ?_
    rcases Bool.eq_false_or_eq_true (!(inR x5.f1 1 1000000)) with hb15 | hb15
    ·refine aT 20 hb15 ?_
     refine aT 21 hb15 ?_
     refine aT 22 hb15 ?_
     replace hb15 := inR_no (bnot_yes (hb15))
     refine go 14 ?_
     refine ek ⟨[(0, lV (l.map d165)), (5, lV (l.map d165)), (6, iV ((l.map d165).length : Int)), (7, iV v7), (36, bV true)], [], 640⟩ ?_
     refine X.ifT (by kernel_rfl) ?_
     refine sk ⟨[(2, bV false)], [], 656⟩ ?_
     refine X.ret ?_
     exact ⟨trivial, _, _, ⟨false, (by first | exact (fls (fun h => upto_no (by omega) (by omega) ‹_› (fun hr => by first | exact tf hr.1 ‹_› | exact absurd hr.2.1 ‹_› | exact tf (hr.2.2 _ (by omega) ‹_›) ‹_›) h.1)) | exact (dcd (by rw [inR_iff]; simp only [List.length_map]; exact ⟨fun h => ⟨upto_all hA (by omega), h⟩, fun h => h.2⟩))), rfl, rfl⟩, mkr⟩
    ·refine aF 20 hb15 ?_
     refine aF 21 hb15 ?_
     refine aF 22 hb15 ?_
     replace hb15 := inR_yes (bnot_no (hb15))
     refine go 3 ?_
     rcases Bool.eq_false_or_eq_true (decide ((v7 : Int) > 0)) with hb16 | hb16
     ·refine aT 24 hb16 ?_
      refine aT 25 hb16 ?_
      replace hb16 := of_decide_eq_true (hb16)
      refine go 5 ?_
      obtain ⟨x17, hx17⟩ : ∃ x, l[Int.toNat (v7 - 1)]? = some x := ⟨_, List.getElem?_eq_getElem (by first | omega | (simp; done) | (simp; omega))⟩
      refine CH.alt 30 (sV (.int .i64 (wrap64 (v7 - 1)))) (sV (.int .i64 ((v7 - 1)))) (by kernel_rfl) (by rw [w64 (n := (v7 - 1)) (by omega) (by omega)]) ?_
      refine CH.idx hτ (d165 x17) (rows := (l.map d165)) (n := (v7 - 1)) (sz := 2) (by kernel_rfl) (by kernel_rfl) (by first | omega | (simp; done) | (simp; omega)) (by rw [List.getElem?_map, hx17]; rfl) (by kernel_rfl) ?_
      refine go 5 ?_
      refine ek ⟨[(0, lV (l.map d165)), (5, lV (l.map d165)), (6, iV ((l.map d165).length : Int)), (7, iV v7), (36, bV (Op.bytesLess x5.f0.toList x17.f0.toList || x5.f0.toList == x17.f0.toList))], [], 640⟩ ?_
      refine if_ (b := (Op.bytesLess x5.f0.toList x17.f0.toList || x5.f0.toList == x17.f0.toList)) (fun hb18 => ?_) (fun hb18 => ?_)
      ·replace hb18 := leq_yes (hb18)
       refine sk ⟨[(2, bV false)], [], 656⟩ ?_
       refine X.ret ?_
       exact ⟨trivial, _, _, ⟨false, (by first | exact (fls (fun h => upto_no (by omega) (by omega) ‹_› (fun hr => by first | exact tf hr.1 ‹_› | exact absurd hr.2.1 ‹_› | exact tf (hr.2.2 _ (by omega) ‹_›) ‹_›) h.1)) | exact (dcd (by rw [inR_iff]; simp only [List.length_map]; exact ⟨fun h => ⟨upto_all hA (by omega), h⟩, fun h => h.2⟩))), rfl, rfl⟩, mkr⟩
      ·replace hb18 := leq_no (hb18)
       refine X.skip ?_
       refine X.rk ⟨[(0, lV (l.map d165)), (5, lV (l.map d165)), (6, iV ((l.map d165).length : Int)), (7, iV (wrap64 (v7 + 1)))], [], 672⟩ hτ hmix (by kernel_rfl) (by kernel_rfl) (s2 := ⟨[(0, lV (l.map d165)), (5, lV (l.map d165)), (6, iV ((l.map d165).length : Int)), (7, iV (v7 + 1))], [], 672⟩) (congrArg (fun z : Int => (⟨[(0, lV (l.map d165)), (5, lV (l.map d165)), (6, iV ((l.map d165).length : Int)), (7, iV z)], [], 672⟩ : St)) (show wrap64 (v7 + 1) = (v7 + 1) by rw [w64 (n := (v7 + 1)) (by omega) (by omega)])) ?_
       refine ⟨⟨(v7 + 1), ⟨by first | omega | (dsimp only; omega), by first | omega | (dsimp only; omega), upto_nx (by first | omega | (dsimp only; omega)) hA ‹_› (⟨‹_›, ‹_›, (by first | exact fun y h0 hy => absurd h0 (by first | omega | (dsimp only; omega)) | exact prev_fn ‹_› ‹_›)⟩)⟩⟩, by first | exact rfl | omega | (dsimp only; omega) | (simp only [List.length_append, List.length_cons, List.length_nil, List.length_set]; omega) | (simp; done) | (simp; omega), Wk.mk' [] (by kernel_rfl) (by kernel_rfl) (by kernel_rfl)⟩
     ·refine aF 24 hb16 ?_
      refine aF 25 hb16 ?_
      replace hb16 := of_decide_eq_false (hb16)
      refine go 11 ?_
      refine ek ⟨[(0, lV (l.map d165)), (5, lV (l.map d165)), (6, iV ((l.map d165).length : Int)), (7, iV v7), (36, bV false)], [], 640⟩ ?_
      refine X.ifF (by kernel_rfl) ?_
      refine X.skip ?_
      refine X.rk ⟨[(0, lV (l.map d165)), (5, lV (l.map d165)), (6, iV ((l.map d165).length : Int)), (7, iV (wrap64 (v7 + 1)))], [], 672⟩ hτ hmix (by kernel_rfl) (by kernel_rfl) (s2 := ⟨[(0, lV (l.map d165)), (5, lV (l.map d165)), (6, iV ((l.map d165).length : Int)), (7, iV (v7 + 1))], [], 672⟩) (congrArg (fun z : Int => (⟨[(0, lV (l.map d165)), (5, lV (l.map d165)), (6, iV ((l.map d165).length : Int)), (7, iV z)], [], 672⟩ : St)) (show wrap64 (v7 + 1) = (v7 + 1) by rw [w64 (n := (v7 + 1)) (by omega) (by omega)])) ?_
      refine ⟨⟨(v7 + 1), ⟨by first | omega | (dsimp only; omega), by first | omega | (dsimp only; omega), upto_nx (by first | omega | (dsimp only; omega)) hA ‹_› (⟨‹_›, ‹_›, (by first | exact fun y h0 hy => absurd h0 (by first | omega | (dsimp only; omega)) | exact prev_fn ‹_› ‹_›)⟩)⟩⟩, by first | exact rfl | omega | (dsimp only; omega) | (simp only [List.length_append, List.length_cons, List.length_nil, List.length_set]; omega) | (simp; done) | (simp; omega), Wk.mk' [] (by kernel_rfl) (by kernel_rfl) (by kernel_rfl)⟩
  ·replace hb4 := of_decide_eq_false (hb4)
   refine X.exit ?_
   refine X.seq (rs 2 ?_)
   obtain ⟨r19, hr21, hf20⟩ := i_inRange ((l.map d165).length : Int) 1 12
   replace hr21 := hr21.symm; subst hr21
   refine ca hf20 Try.func149 ?_
   refine go 1 ?_
   refine ek ⟨[(2, bV (inR ((l.map d165).length : Int) 1 12))], [], 208⟩ ?_
   refine X.ret ?_
   exact ⟨trivial, _, _, ⟨(inR ((l.map d165).length : Int) 1 12), (by first | exact (fls (fun h => upto_no (by omega) (by omega) ‹_› (fun hr => by first | exact tf hr.1 ‹_› | exact absurd hr.2.1 ‹_› | exact tf (hr.2.2 _ (by omega) ‹_›) ‹_›) h.1)) | exact (dcd (by rw [inR_iff]; simp only [List.length_map]; exact ⟨fun h => ⟨upto_all hA (by omega), h⟩, fun h => h.2⟩))), rfl, rfl⟩, mkr⟩
 obtain ⟨_, _, ⟨r0, h1_, rfl, rfl⟩, hf⟩ := key
 exact ⟨r0, h1_, hf⟩

theorem s_BlockOk (b : S72) (hb : Sm72 b) : ∃ r0 : Bool, (r0 = blockOk b) ∧ Fn Try.prog 129 [.e (.agg (cD (d72 b)))] (lookH []) (bV r0) (lookH []) := by
 have key : ∃ x' h', ((fun x' h' => ∃ r0 : Bool, (r0 = blockOk b) ∧ x' = bV r0 ∧ h' = [])) x' h' ∧ Fn Try.prog 129 [.e (.agg (cD (d72 b)))] (lookH []) x' (lookH h') := by
  refine Fn.bodyX (N := 77) hτ Try.func129 rfl rfl rfl rfl ?_
  refine sk ⟨[(1, .pt 64 0 0)], [(64, some (.box (cD (d72 b))))], 96⟩ ?_
  refine X.seq ?_
  refine X.seq (rs 2 ?_)
  obtain ⟨r1, hr3, hf2⟩ := s_l1In b.f0 0 100000
  replace hr3 := hr3.symm; subst hr3
  refine ca hf2 Try.func146 ?_
  refine go 2 ?_
  rcases Bool.eq_false_or_eq_true (!(inR b.f0 0 100000)) with hb5 | hb5
  ·refine aT 7 hb5 ?_
   refine aT 8 hb5 ?_
   replace hb5 := inR_no (bnot_yes (hb5))
   refine go 33 ?_
   refine ek ⟨[(1, .pt 64 0 0), (41, bV true)], [(64, some (.box (cD (d72 b))))], 704⟩ ?_
   refine X.ifT (by kernel_rfl) ?_
   refine sk ⟨[(2, bV false)], [], 720⟩ ?_
   refine X.ret ?_
   exact ⟨trivial, _, _, ⟨false, (by (first | have hz := all_yes (p := txOk) (upto_all hA (by omega)) | have hz := all_no (p := txOk) ‹_› ‹_› | skip); rw [Bool.eq_iff_iff]; simp only [blockOk, Bool.and_eq_true, Bool.or_eq_true, inR_iff, decide_eq_true_eq, beq_iff_eq, Bool.false_eq_true, false_iff, true_iff, List.length_map]; first | (intro h; omega) | (intro h; simp_all; done) | (simp_all; done) | (simp_all; omega) | (constructor <;> intro h <;> (first | (simp_all; done) | (simp_all; omega) | omega))), rfl, rfl⟩, mkr⟩
  ·refine aF 7 hb5 ?_
   refine aF 8 hb5 ?_
   replace hb5 := inR_yes (bnot_no (hb5))
   refine go 2 ?_
   obtain ⟨r6, hr8, hf7⟩ := s_l1In b.f1 0 900
   replace hr8 := hr8.symm; subst hr8
   refine ca hf7 Try.func146 ?_
   refine go 3 ?_
   rcases Bool.eq_false_or_eq_true (!(inR b.f1 0 900)) with hb10 | hb10
   ·refine aT 12 hb10 ?_
    refine aT 13 hb10 ?_
    refine aT 14 hb10 ?_
    replace hb10 := inR_no (bnot_yes (hb10))
    refine go 27 ?_
    refine ek ⟨[(1, .pt 64 0 0), (41, bV true)], [(64, some (.box (cD (d72 b))))], 704⟩ ?_
    refine X.ifT (by kernel_rfl) ?_
    refine sk ⟨[(2, bV false)], [], 720⟩ ?_
    refine X.ret ?_
    exact ⟨trivial, _, _, ⟨false, (by (first | have hz := all_yes (p := txOk) (upto_all hA (by omega)) | have hz := all_no (p := txOk) ‹_› ‹_› | skip); rw [Bool.eq_iff_iff]; simp only [blockOk, Bool.and_eq_true, Bool.or_eq_true, inR_iff, decide_eq_true_eq, beq_iff_eq, Bool.false_eq_true, false_iff, true_iff, List.length_map]; first | (intro h; omega) | (intro h; simp_all; done) | (simp_all; done) | (simp_all; omega) | (constructor <;> intro h <;> (first | (simp_all; done) | (simp_all; omega) | omega))), rfl, rfl⟩, mkr⟩
   ·refine aF 12 hb10 ?_
    refine aF 13 hb10 ?_
    refine aF 14 hb10 ?_
    replace hb10 := inR_yes (bnot_no (hb10))
    refine go 2 ?_
    obtain ⟨r11, hr13, hf12⟩ := s_l1In b.f2 1 10000
    replace hr13 := hr13.symm; subst hr13
    refine ca hf12 Try.func146 ?_
    refine go 3 ?_
    rcases Bool.eq_false_or_eq_true (!(inR b.f2 1 10000)) with hb15 | hb15
    ·refine aT 18 hb15 ?_
     refine aT 19 hb15 ?_
     refine aT 20 hb15 ?_
     replace hb15 := inR_no (bnot_yes (hb15))
     refine go 21 ?_
     refine ek ⟨[(1, .pt 64 0 0), (41, bV true)], [(64, some (.box (cD (d72 b))))], 704⟩ ?_
     refine X.ifT (by kernel_rfl) ?_
     refine sk ⟨[(2, bV false)], [], 720⟩ ?_
     refine X.ret ?_
     exact ⟨trivial, _, _, ⟨false, (by (first | have hz := all_yes (p := txOk) (upto_all hA (by omega)) | have hz := all_no (p := txOk) ‹_› ‹_› | skip); rw [Bool.eq_iff_iff]; simp only [blockOk, Bool.and_eq_true, Bool.or_eq_true, inR_iff, decide_eq_true_eq, beq_iff_eq, Bool.false_eq_true, false_iff, true_iff, List.length_map]; first | (intro h; omega) | (intro h; simp_all; done) | (simp_all; done) | (simp_all; omega) | (constructor <;> intro h <;> (first | (simp_all; done) | (simp_all; omega) | omega))), rfl, rfl⟩, mkr⟩
    ·refine aF 18 hb15 ?_
     refine aF 19 hb15 ?_
     refine aF 20 hb15 ?_
     replace hb15 := inR_yes (bnot_no (hb15))
     refine go 2 ?_
     obtain ⟨r16, hr18, hf17⟩ := s_NameOk b.f3 (by exact hb.1)
     replace hr18 := hr18.symm; subst hr18
     refine ca hf17 Try.func86 ?_
     refine go 3 ?_
     rcases Bool.eq_false_or_eq_true (!(nameOk b.f3)) with hb20 | hb20
     ·refine aT 24 hb20 ?_
      refine aT 25 hb20 ?_
      refine aT 26 hb20 ?_
      replace hb20 := bnot_yes (hb20)
      refine go 15 ?_
      refine ek ⟨[(1, .pt 64 0 0), (41, bV true)], [(64, some (.box (cD (d72 b))))], 704⟩ ?_
      refine X.ifT (by kernel_rfl) ?_
      refine sk ⟨[(2, bV false)], [], 720⟩ ?_
      refine X.ret ?_
      exact ⟨trivial, _, _, ⟨false, (by (first | have hz := all_yes (p := txOk) (upto_all hA (by omega)) | have hz := all_no (p := txOk) ‹_› ‹_› | skip); rw [Bool.eq_iff_iff]; simp only [blockOk, Bool.and_eq_true, Bool.or_eq_true, inR_iff, decide_eq_true_eq, beq_iff_eq, Bool.false_eq_true, false_iff, true_iff, List.length_map]; first | (intro h; omega) | (intro h; simp_all; done) | (simp_all; done) | (simp_all; omega) | (constructor <;> intro h <;> (first | (simp_all; done) | (simp_all; omega) | omega))), rfl, rfl⟩, mkr⟩
     ·refine aF 24 hb20 ?_
      refine aF 25 hb20 ?_
      refine aF 26 hb20 ?_
      replace hb20 := bnot_no (hb20)
      refine go 1 ?_
      obtain ⟨r21, hr23, hf22⟩ := s_l9Qc b (by assumption)
      replace hr23 := hr23.symm; subst hr23
      refine ca hf22 Try.func169 ?_
      refine go 3 ?_
      rcases Bool.eq_false_or_eq_true (!(qcForm b.f4 (wr .i64 (b.f2 - 1)) (wr .i64 (b.f0 - 1)))) with hb25 | hb25
      ·refine aT 29 hb25 ?_
       refine aT 30 hb25 ?_
       refine aT 31 hb25 ?_
       replace hb25 := bnot_yes (hb25)
       refine go 10 ?_
       refine ek ⟨[(1, .pt 64 0 0), (41, bV true)], [(64, some (.box (cD (d72 b))))], 704⟩ ?_
       refine X.ifT (by kernel_rfl) ?_
       refine sk ⟨[(2, bV false)], [], 720⟩ ?_
       refine X.ret ?_
       exact ⟨trivial, _, _, ⟨false, (by (first | have hz := all_yes (p := txOk) (upto_all hA (by omega)) | have hz := all_no (p := txOk) ‹_› ‹_› | skip); rw [Bool.eq_iff_iff]; simp only [blockOk, Bool.and_eq_true, Bool.or_eq_true, inR_iff, decide_eq_true_eq, beq_iff_eq, Bool.false_eq_true, false_iff, true_iff, List.length_map]; first | (intro h; omega) | (intro h; simp_all; done) | (simp_all; done) | (simp_all; omega) | (constructor <;> intro h <;> (first | (simp_all; done) | (simp_all; omega) | omega))), rfl, rfl⟩, mkr⟩
      ·refine aF 29 hb25 ?_
       refine aF 30 hb25 ?_
       refine aF 31 hb25 ?_
       replace hb25 := bnot_no (hb25)
       refine go 1 ?_
       obtain ⟨r26, hr28, hf27⟩ := s_l9Tc b (by assumption)
       replace hr28 := hr28.symm; subst hr28
       refine ca hf27 Try.func170 ?_
       refine go 3 ?_
       rcases Bool.eq_false_or_eq_true (!(tcForm b.f5 (wr .i64 (b.f2 - 1)))) with hb30 | hb30
       ·refine aT 34 hb30 ?_
        refine aT 35 hb30 ?_
        refine aT 36 hb30 ?_
        replace hb30 := bnot_yes (hb30)
        refine go 5 ?_
        refine ek ⟨[(1, .pt 64 0 0), (41, bV true)], [(64, some (.box (cD (d72 b))))], 704⟩ ?_
        refine X.ifT (by kernel_rfl) ?_
        refine sk ⟨[(2, bV false)], [], 720⟩ ?_
        refine X.ret ?_
        exact ⟨trivial, _, _, ⟨false, (by (first | have hz := all_yes (p := txOk) (upto_all hA (by omega)) | have hz := all_no (p := txOk) ‹_› ‹_› | skip); rw [Bool.eq_iff_iff]; simp only [blockOk, Bool.and_eq_true, Bool.or_eq_true, inR_iff, decide_eq_true_eq, beq_iff_eq, Bool.false_eq_true, false_iff, true_iff, List.length_map]; first | (intro h; omega) | (intro h; simp_all; done) | (simp_all; done) | (simp_all; omega) | (constructor <;> intro h <;> (first | (simp_all; done) | (simp_all; omega) | omega))), rfl, rfl⟩, mkr⟩
       ·refine aF 34 hb30 ?_
        refine aF 35 hb30 ?_
        refine aF 36 hb30 ?_
        replace hb30 := bnot_no (hb30)
        refine go 5 ?_
        have el31 : (b.f6.map d35).length = b.f6.length := List.length_map ..
        refine ek ⟨[(1, .pt 64 0 0), (41, bV (decide ((((b.f6.map d35).length : Int) : Int) > 4)))], [(64, some (.box (cD (d72 b))))], 704⟩ ?_
        refine if_ (b := decide ((((b.f6.map d35).length : Int) : Int) > 4)) (fun hb32 => ?_) (fun hb32 => ?_)
        ·replace hb32 := of_decide_eq_true (hb32)
         refine sk ⟨[(2, bV false)], [], 720⟩ ?_
         refine X.ret ?_
         exact ⟨trivial, _, _, ⟨false, (by (first | have hz := all_yes (p := txOk) (upto_all hA (by omega)) | have hz := all_no (p := txOk) ‹_› ‹_› | skip); rw [Bool.eq_iff_iff]; simp only [blockOk, Bool.and_eq_true, Bool.or_eq_true, inR_iff, decide_eq_true_eq, beq_iff_eq, Bool.false_eq_true, false_iff, true_iff, List.length_map]; first | (intro h; omega) | (intro h; simp_all; done) | (simp_all; done) | (simp_all; omega) | (constructor <;> intro h <;> (first | (simp_all; done) | (simp_all; omega) | omega))), rfl, rfl⟩, mkr⟩
        ·replace hb32 := of_decide_eq_false (hb32)
         refine X.skip ?_
         refine X.seq ?_
         refine sk ⟨[(1, .pt 64 0 0), (3, iV 0)], [(64, some (.box (cD (d72 b))))], 720⟩ ?_
         refine X.block ?_
         -- 4: v3 : Int
         refine X.loop (σ := { g : Int // (fun (v3 : Int) => 0 ≤ v3 ∧ v3 ≤ b.f6.length ∧ Upto (fun _ x => txOk x = true) (fun n => b.f6[n]?) v3) g }) (fun g => (fun (v3 : Int) => ⟨[(1, .pt 64 0 0), (3, iV v3)], [(64, some (.box (cD (d72 b))))], 720⟩) g.1) (fun g => (fun (v3 : Int) => (b.f6.length - v3).toNat) g.1) ⟨0, ⟨by first | omega | (dsimp only; omega), by first | omega | (dsimp only; omega), upto_zero⟩⟩ (Wk.less (by kernel_rfl)) (fun g => ?_)
         obtain ⟨v3, hg34⟩ := g
         have hg34 : 0 ≤ v3 ∧ v3 ≤ b.f6.length ∧ Upto (fun _ x => txOk x = true) (fun n => b.f6[n]?) v3 := hg34
         obtain ⟨_, _, hA⟩ := hg34
         refine X.seq ?_
         refine X.seq ?_
         have hm := hb.2.2.2.1.1
         refine rk ⟨[(1, .pt 64 0 0), (3, iV v3), (46, bV (decide ((v3 : Int) < ((b.f6.map d35).length : Int))))], [(64, some (.box (cD (d72 b))))], 800⟩ ?_
         refine if_ (b := decide ((v3 : Int) < ((b.f6.map d35).length : Int))) (fun hb35 => ?_) (fun hb35 => ?_)
         ·replace hb35 := of_decide_eq_true (hb35)
          refine X.skip ?_
          refine X.seq ?_
          refine X.block ?_
          refine X.seq (rs 3 ?_)
          obtain ⟨x36, hx36⟩ : ∃ x, b.f6[Int.toNat v3]? = some x := ⟨_, List.getElem?_eq_getElem (by first | omega | (simp; done) | (simp; omega))⟩
          refine CH.idx hτ (d35 x36) (rows := (b.f6.map d35)) (n := v3) (sz := 5) (by kernel_rfl) (by kernel_rfl) (by first | omega | (simp; done) | (simp; omega)) (by rw [List.getElem?_map, hx36]; rfl) (by kernel_rfl) ?_
          refine go 1 ?_
          obtain ⟨r37, hr39, hf38⟩ := s_TxOk x36 (by exact all_at hb.2.2.2.1.2 ‹_›)
          replace hr39 := hr39.symm; subst hr39
          refine ca hf38 Try.func119 ?_
          refine go 1 ?_
          refine ek ⟨[(1, .pt 64 0 0), (3, iV v3), (55, bV (!(txOk x36)))], [(64, some (.box (cD (d72 b))))], 912⟩ ?_
          refine if_ (b := !(txOk x36)) (fun hb41 => ?_) (fun hb41 => ?_)
          ·replace hb41 := bnot_yes (hb41)
           refine sk ⟨[(2, bV false)], [], 928⟩ ?_
           refine X.ret ?_
           exact ⟨trivial, _, _, ⟨false, (by (first | have hz := all_yes (p := txOk) (upto_all hA (by omega)) | have hz := all_no (p := txOk) ‹_› ‹_› | skip); rw [Bool.eq_iff_iff]; simp only [blockOk, Bool.and_eq_true, Bool.or_eq_true, inR_iff, decide_eq_true_eq, beq_iff_eq, Bool.false_eq_true, false_iff, true_iff, List.length_map]; first | (intro h; omega) | (intro h; simp_all; done) | (simp_all; done) | (simp_all; omega) | (constructor <;> intro h <;> (first | (simp_all; done) | (simp_all; omega) | omega))), rfl, rfl⟩, mkr⟩
          ·replace hb41 := bnot_no (hb41)
           refine X.skip ?_
           refine X.rk ⟨[(1, .pt 64 0 0), (3, iV (wrap64 (v3 + 1)))], [(64, some (.box (cD (d72 b))))], 960⟩ hτ hmix (by kernel_rfl) (by kernel_rfl) (s2 := ⟨[(1, .pt 64 0 0), (3, iV (v3 + 1))], [(64, some (.box (cD (d72 b))))], 960⟩) (congrArg (fun z : Int => (⟨[(1, .pt 64 0 0), (3, iV z)], [(64, some (.box (cD (d72 b))))], 960⟩ : St)) (show wrap64 (v3 + 1) = (v3 + 1) by rw [w64 (n := (v3 + 1)) (by omega) (by omega)])) ?_
           refine ⟨⟨(v3 + 1), ⟨by first | omega | (dsimp only; omega), by first | omega | (dsimp only; omega), upto_nx (by first | omega | (dsimp only; omega)) hA ‹_› (‹_›)⟩⟩, by first | exact rfl | omega | (dsimp only; omega) | (simp only [List.length_append, List.length_cons, List.length_nil, List.length_set]; omega) | (simp; done) | (simp; omega), Wk.mk' [(64, 64)] (by kernel_rfl) (by kernel_rfl) (by kernel_rfl)⟩
         ·replace hb35 := of_decide_eq_false (hb35)
          refine X.exit ?_
          refine X.seq ?_
          refine sk ⟨[(1, .pt 64 0 0), (58, bV (!b.f7))], [(64, some (.box (cD (d72 b))))], 848⟩ ?_
          refine if_ (b := !b.f7) (fun hb42 => ?_) (fun hb42 => ?_)
          ·replace hb42 := bnot_yes (hb42)
           refine X.seq ?_
           have el43 : (b.f8.map d165).length = b.f8.length := List.length_map ..
           refine rs 5 ?_
           rcases Bool.eq_false_or_eq_true ((((b.f8.map d165).length : Int) == 0)) with hb44 | hb44
           ·refine aT 62 hb44 ?_
            refine aT 63 hb44 ?_
            replace hb44 := eq_of_beq (hb44)
            refine go 5 ?_
            refine ek ⟨[(2, bV (b.f9.toList == (⟨#[]⟩ : ByteArray).toList))], [], 1008⟩ ?_
            refine X.ret ?_
            exact ⟨trivial, _, _, ⟨(b.f9.toList == (⟨#[]⟩ : ByteArray).toList), (by (first | have hz := all_yes (p := txOk) (upto_all hA (by omega)) | have hz := all_no (p := txOk) ‹_› ‹_› | skip); rw [Bool.eq_iff_iff]; simp only [blockOk, Bool.and_eq_true, Bool.or_eq_true, inR_iff, decide_eq_true_eq, beq_iff_eq, Bool.false_eq_true, false_iff, true_iff, List.length_map]; first | (intro h; omega) | (intro h; simp_all; done) | (simp_all; done) | (simp_all; omega) | (constructor <;> intro h <;> (first | (simp_all; done) | (simp_all; omega) | omega))), rfl, rfl⟩, mkr⟩
           ·refine aF 62 hb44 ?_
            refine aF 63 hb44 ?_
            replace hb44 := beq_eq_false_iff_ne.1 (hb44)
            refine go 5 ?_
            refine ek ⟨[(2, bV false)], [], 1008⟩ ?_
            refine X.ret ?_
            exact ⟨trivial, _, _, ⟨false, (by (first | have hz := all_yes (p := txOk) (upto_all hA (by omega)) | have hz := all_no (p := txOk) ‹_› ‹_› | skip); rw [Bool.eq_iff_iff]; simp only [blockOk, Bool.and_eq_true, Bool.or_eq_true, inR_iff, decide_eq_true_eq, beq_iff_eq, Bool.false_eq_true, false_iff, true_iff, List.length_map]; first | (intro h; omega) | (intro h; simp_all; done) | (simp_all; done) | (simp_all; omega) | (constructor <;> intro h <;> (first | (simp_all; done) | (simp_all; omega) | omega))), rfl, rfl⟩, mkr⟩
          ·replace hb42 := bnot_no (hb42)
           refine X.skip ?_
           refine X.seq (rs 2 ?_)
           obtain ⟨r45, hr47, hf46⟩ := s_SetOk b.f8 (by exact hb.2.2.2.2.1)
           replace hr47 := hr47.symm; subst hr47
           refine ca hf46 Try.func171 ?_
           refine go 1 ?_
           rcases Bool.eq_false_or_eq_true ((setOk b.f8)) with hb49 | hb49
           ·refine aT 70 hb49 ?_
            refine aT 71 hb49 ?_
            refine go 6 ?_
            refine ek ⟨[(2, bV ((b.f9.size : Int) == 32))], [], 1008⟩ ?_
            refine X.ret ?_
            exact ⟨trivial, _, _, ⟨((b.f9.size : Int) == 32), (by (first | have hz := all_yes (p := txOk) (upto_all hA (by omega)) | have hz := all_no (p := txOk) ‹_› ‹_› | skip); rw [Bool.eq_iff_iff]; simp only [blockOk, Bool.and_eq_true, Bool.or_eq_true, inR_iff, decide_eq_true_eq, beq_iff_eq, Bool.false_eq_true, false_iff, true_iff, List.length_map]; first | (intro h; omega) | (intro h; simp_all; done) | (simp_all; done) | (simp_all; omega) | (constructor <;> intro h <;> (first | (simp_all; done) | (simp_all; omega) | omega))), rfl, rfl⟩, mkr⟩
           ·refine aF 70 hb49 ?_
            refine aF 71 hb49 ?_
            refine go 6 ?_
            refine ek ⟨[(2, bV false)], [], 1008⟩ ?_
            refine X.ret ?_
            exact ⟨trivial, _, _, ⟨false, (by (first | have hz := all_yes (p := txOk) (upto_all hA (by omega)) | have hz := all_no (p := txOk) ‹_› ‹_› | skip); rw [Bool.eq_iff_iff]; simp only [blockOk, Bool.and_eq_true, Bool.or_eq_true, inR_iff, decide_eq_true_eq, beq_iff_eq, Bool.false_eq_true, false_iff, true_iff, List.length_map]; first | (intro h; omega) | (intro h; simp_all; done) | (simp_all; done) | (simp_all; omega) | (constructor <;> intro h <;> (first | (simp_all; done) | (simp_all; omega) | omega))), rfl, rfl⟩, mkr⟩
 obtain ⟨_, _, ⟨r0, h1_, rfl, rfl⟩, hf⟩ := key
 exact ⟨r0, h1_, hf⟩

theorem i_BlockOk (b : S72) (hb : Sm72 b) : ∃ r0 : Bool, (r0 = blockOk b) ∧ Fn Try.prog 142 [.e (.agg (cD (d72 b)))] (lookH []) (bV r0) (lookH []) := by
 have key : ∃ x' h', ((fun x' h' => ∃ r0 : Bool, (r0 = blockOk b) ∧ x' = bV r0 ∧ h' = [])) x' h' ∧ Fn Try.prog 142 [.e (.agg (cD (d72 b)))] (lookH []) x' (lookH h') := by
  refine Fn.bodyX (N := 77) hτ Try.func142 rfl rfl rfl rfl ?_
  refine sk ⟨[(1, .pt 64 0 0)], [(64, some (.box (cD (d72 b))))], 96⟩ ?_
  refine X.seq ?_
  refine X.seq (rs 2 ?_)
  obtain ⟨r1, hr3, hf2⟩ := i_inRange b.f0 0 100000
  replace hr3 := hr3.symm; subst hr3
  refine ca hf2 Try.func149 ?_
  refine go 2 ?_
  rcases Bool.eq_false_or_eq_true (!(inR b.f0 0 100000)) with hb5 | hb5
  ·refine aT 6 hb5 ?_
   refine aT 7 hb5 ?_
   replace hb5 := inR_no (bnot_yes (hb5))
   refine go 17 ?_
   refine ek ⟨[(1, .pt 64 0 0), (24, bV true)], [(64, some (.box (cD (d72 b))))], 448⟩ ?_
   refine X.ifT (by kernel_rfl) ?_
   refine sk ⟨[(2, bV false)], [], 464⟩ ?_
   refine X.ret ?_
   exact ⟨trivial, _, _, ⟨false, (by (first | have hz := all_yes (p := txOk) (upto_all hA (by omega)) | have hz := all_no (p := txOk) ‹_› ‹_› | skip); rw [Bool.eq_iff_iff]; simp only [blockOk, Bool.and_eq_true, Bool.or_eq_true, inR_iff, decide_eq_true_eq, beq_iff_eq, Bool.false_eq_true, false_iff, true_iff, List.length_map]; first | (intro h; omega) | (intro h; simp_all; done) | (simp_all; done) | (simp_all; omega) | (constructor <;> intro h <;> (first | (simp_all; done) | (simp_all; omega) | omega))), rfl, rfl⟩, mkr⟩
  ·refine aF 6 hb5 ?_
   refine aF 7 hb5 ?_
   replace hb5 := inR_yes (bnot_no (hb5))
   refine go 2 ?_
   obtain ⟨r6, hr8, hf7⟩ := i_inRange b.f1 0 900
   replace hr8 := hr8.symm; subst hr8
   refine ca hf7 Try.func149 ?_
   refine go 3 ?_
   rcases Bool.eq_false_or_eq_true (!(inR b.f1 0 900)) with hb10 | hb10
   ·refine aT 11 hb10 ?_
    refine aT 12 hb10 ?_
    refine aT 13 hb10 ?_
    replace hb10 := inR_no (bnot_yes (hb10))
    refine go 11 ?_
    refine ek ⟨[(1, .pt 64 0 0), (24, bV true)], [(64, some (.box (cD (d72 b))))], 448⟩ ?_
    refine X.ifT (by kernel_rfl) ?_
    refine sk ⟨[(2, bV false)], [], 464⟩ ?_
    refine X.ret ?_
    exact ⟨trivial, _, _, ⟨false, (by (first | have hz := all_yes (p := txOk) (upto_all hA (by omega)) | have hz := all_no (p := txOk) ‹_› ‹_› | skip); rw [Bool.eq_iff_iff]; simp only [blockOk, Bool.and_eq_true, Bool.or_eq_true, inR_iff, decide_eq_true_eq, beq_iff_eq, Bool.false_eq_true, false_iff, true_iff, List.length_map]; first | (intro h; omega) | (intro h; simp_all; done) | (simp_all; done) | (simp_all; omega) | (constructor <;> intro h <;> (first | (simp_all; done) | (simp_all; omega) | omega))), rfl, rfl⟩, mkr⟩
   ·refine aF 11 hb10 ?_
    refine aF 12 hb10 ?_
    refine aF 13 hb10 ?_
    replace hb10 := inR_yes (bnot_no (hb10))
    refine go 2 ?_
    obtain ⟨r11, hr13, hf12⟩ := i_inRange b.f2 1 10000
    replace hr13 := hr13.symm; subst hr13
    refine ca hf12 Try.func149 ?_
    refine go 3 ?_
    rcases Bool.eq_false_or_eq_true (!(inR b.f2 1 10000)) with hb15 | hb15
    ·refine aT 17 hb15 ?_
     refine aT 18 hb15 ?_
     refine aT 19 hb15 ?_
     replace hb15 := inR_no (bnot_yes (hb15))
     refine go 5 ?_
     refine ek ⟨[(1, .pt 64 0 0), (24, bV true)], [(64, some (.box (cD (d72 b))))], 448⟩ ?_
     refine X.ifT (by kernel_rfl) ?_
     refine sk ⟨[(2, bV false)], [], 464⟩ ?_
     refine X.ret ?_
     exact ⟨trivial, _, _, ⟨false, (by (first | have hz := all_yes (p := txOk) (upto_all hA (by omega)) | have hz := all_no (p := txOk) ‹_› ‹_› | skip); rw [Bool.eq_iff_iff]; simp only [blockOk, Bool.and_eq_true, Bool.or_eq_true, inR_iff, decide_eq_true_eq, beq_iff_eq, Bool.false_eq_true, false_iff, true_iff, List.length_map]; first | (intro h; omega) | (intro h; simp_all; done) | (simp_all; done) | (simp_all; omega) | (constructor <;> intro h <;> (first | (simp_all; done) | (simp_all; omega) | omega))), rfl, rfl⟩, mkr⟩
    ·refine aF 17 hb15 ?_
     refine aF 18 hb15 ?_
     refine aF 19 hb15 ?_
     replace hb15 := inR_yes (bnot_no (hb15))
     refine go 2 ?_
     obtain ⟨r16, hr18, hf17⟩ := i_NameOk b.f3 (by exact hb.1)
     replace hr18 := hr18.symm; subst hr18
     refine ca hf17 Try.func90 ?_
     refine go 2 ?_
     refine ek ⟨[(1, .pt 64 0 0), (24, bV (!(nameOk b.f3)))], [(64, some (.box (cD (d72 b))))], 448⟩ ?_
     refine if_ (b := !(nameOk b.f3)) (fun hb20 => ?_) (fun hb20 => ?_)
     ·replace hb20 := bnot_yes (hb20)
      refine sk ⟨[(2, bV false)], [], 464⟩ ?_
      refine X.ret ?_
      exact ⟨trivial, _, _, ⟨false, (by (first | have hz := all_yes (p := txOk) (upto_all hA (by omega)) | have hz := all_no (p := txOk) ‹_› ‹_› | skip); rw [Bool.eq_iff_iff]; simp only [blockOk, Bool.and_eq_true, Bool.or_eq_true, inR_iff, decide_eq_true_eq, beq_iff_eq, Bool.false_eq_true, false_iff, true_iff, List.length_map]; first | (intro h; omega) | (intro h; simp_all; done) | (simp_all; done) | (simp_all; omega) | (constructor <;> intro h <;> (first | (simp_all; done) | (simp_all; omega) | omega))), rfl, rfl⟩, mkr⟩
     ·replace hb20 := bnot_no (hb20)
      refine X.skip ?_
      refine X.seq ?_
      refine X.seq ?_
      have hm := hb.2.2.2.1.1
      refine rs 8 ?_
      obtain ⟨r21, hr23, hf22⟩ := i_qcForm b.f4 (wr .i64 (b.f2 - 1)) (wr .i64 (b.f0 - 1)) (by exact hb.2.1)
      replace hr23 := hr23.symm; subst hr23
      refine ca hf22 Try.func175 ?_
      refine go 2 ?_
      rcases Bool.eq_false_or_eq_true (!(qcForm b.f4 (wr .i64 (b.f2 - 1)) (wr .i64 (b.f0 - 1)))) with hb25 | hb25
      ·refine aT 34 hb25 ?_
       refine aT 35 hb25 ?_
       replace hb25 := bnot_yes (hb25)
       refine go 20 ?_
       refine ek ⟨[(1, .pt 64 0 0), (55, bV true)], [(64, some (.box (cD (d72 b))))], 944⟩ ?_
       refine X.ifT (by kernel_rfl) ?_
       refine sk ⟨[(2, bV false)], [], 960⟩ ?_
       refine X.ret ?_
       exact ⟨trivial, _, _, ⟨false, (by (first | have hz := all_yes (p := txOk) (upto_all hA (by omega)) | have hz := all_no (p := txOk) ‹_› ‹_› | skip); rw [Bool.eq_iff_iff]; simp only [blockOk, Bool.and_eq_true, Bool.or_eq_true, inR_iff, decide_eq_true_eq, beq_iff_eq, Bool.false_eq_true, false_iff, true_iff, List.length_map]; first | (intro h; omega) | (intro h; simp_all; done) | (simp_all; done) | (simp_all; omega) | (constructor <;> intro h <;> (first | (simp_all; done) | (simp_all; omega) | omega))), rfl, rfl⟩, mkr⟩
      ·refine aF 34 hb25 ?_
       refine aF 35 hb25 ?_
       replace hb25 := bnot_no (hb25)
       refine go 5 ?_
       obtain ⟨r26, hr28, hf27⟩ := i_tcForm b.f5 (wr .i64 (b.f2 - 1)) (by exact hb.2.2.1)
       replace hr28 := hr28.symm; subst hr28
       refine ca hf27 Try.func176 ?_
       refine go 3 ?_
       rcases Bool.eq_false_or_eq_true (!(tcForm b.f5 (wr .i64 (b.f2 - 1)))) with hb30 | hb30
       ·refine aT 42 hb30 ?_
        refine aT 43 hb30 ?_
        refine aT 44 hb30 ?_
        replace hb30 := bnot_yes (hb30)
        refine go 11 ?_
        refine ek ⟨[(1, .pt 64 0 0), (55, bV true)], [(64, some (.box (cD (d72 b))))], 944⟩ ?_
        refine X.ifT (by kernel_rfl) ?_
        refine sk ⟨[(2, bV false)], [], 960⟩ ?_
        refine X.ret ?_
        exact ⟨trivial, _, _, ⟨false, (by (first | have hz := all_yes (p := txOk) (upto_all hA (by omega)) | have hz := all_no (p := txOk) ‹_› ‹_› | skip); rw [Bool.eq_iff_iff]; simp only [blockOk, Bool.and_eq_true, Bool.or_eq_true, inR_iff, decide_eq_true_eq, beq_iff_eq, Bool.false_eq_true, false_iff, true_iff, List.length_map]; first | (intro h; omega) | (intro h; simp_all; done) | (simp_all; done) | (simp_all; omega) | (constructor <;> intro h <;> (first | (simp_all; done) | (simp_all; omega) | omega))), rfl, rfl⟩, mkr⟩
       ·refine aF 42 hb30 ?_
        refine aF 43 hb30 ?_
        refine aF 44 hb30 ?_
        replace hb30 := bnot_no (hb30)
        refine go 6 ?_
        have el31 : (b.f6.map d35).length = b.f6.length := List.length_map ..
        rcases Bool.eq_false_or_eq_true (decide ((((b.f6.map d35).length : Int) : Int) > 4)) with hb32 | hb32
        ·refine aT 48 hb32 ?_
         refine aT 49 hb32 ?_
         refine aT 50 hb32 ?_
         replace hb32 := of_decide_eq_true (hb32)
         refine go 5 ?_
         refine ek ⟨[(1, .pt 64 0 0), (55, bV true)], [(64, some (.box (cD (d72 b))))], 944⟩ ?_
         refine X.ifT (by kernel_rfl) ?_
         refine sk ⟨[(2, bV false)], [], 960⟩ ?_
         refine X.ret ?_
         exact ⟨trivial, _, _, ⟨false, (by (first | have hz := all_yes (p := txOk) (upto_all hA (by omega)) | have hz := all_no (p := txOk) ‹_› ‹_› | skip); rw [Bool.eq_iff_iff]; simp only [blockOk, Bool.and_eq_true, Bool.or_eq_true, inR_iff, decide_eq_true_eq, beq_iff_eq, Bool.false_eq_true, false_iff, true_iff, List.length_map]; first | (intro h; omega) | (intro h; simp_all; done) | (simp_all; done) | (simp_all; omega) | (constructor <;> intro h <;> (first | (simp_all; done) | (simp_all; omega) | omega))), rfl, rfl⟩, mkr⟩
        ·refine aF 48 hb32 ?_
         refine aF 49 hb32 ?_
         refine aF 50 hb32 ?_
         replace hb32 := of_decide_eq_false (hb32)
         refine go 2 ?_
         obtain ⟨r33, hr35, hf34⟩ := i_txsOk b.f6 (by exact hb.2.2.2.1)
         replace hr35 := hr35.symm; subst hr35
         refine ca hf34 Try.func177 ?_
         refine go 2 ?_
         refine ek ⟨[(1, .pt 64 0 0), (55, bV (!(b.f6.all txOk)))], [(64, some (.box (cD (d72 b))))], 944⟩ ?_
         refine if_ (b := !(b.f6.all txOk)) (fun hb37 => ?_) (fun hb37 => ?_)
         ·replace hb37 := bnot_yes (hb37)
          refine sk ⟨[(2, bV false)], [], 960⟩ ?_
          refine X.ret ?_
          exact ⟨trivial, _, _, ⟨false, (by (first | have hz := all_yes (p := txOk) (upto_all hA (by omega)) | have hz := all_no (p := txOk) ‹_› ‹_› | skip); rw [Bool.eq_iff_iff]; simp only [blockOk, Bool.and_eq_true, Bool.or_eq_true, inR_iff, decide_eq_true_eq, beq_iff_eq, Bool.false_eq_true, false_iff, true_iff, List.length_map]; first | (intro h; omega) | (intro h; simp_all; done) | (simp_all; done) | (simp_all; omega) | (constructor <;> intro h <;> (first | (simp_all; done) | (simp_all; omega) | omega))), rfl, rfl⟩, mkr⟩
         ·replace hb37 := bnot_no (hb37)
          refine X.skip ?_
          refine X.seq ?_
          refine sk ⟨[(1, .pt 64 0 0), (58, bV (!b.f7))], [(64, some (.box (cD (d72 b))))], 992⟩ ?_
          refine if_ (b := !b.f7) (fun hb38 => ?_) (fun hb38 => ?_)
          ·replace hb38 := bnot_yes (hb38)
           refine X.seq ?_
           have el39 : (b.f8.map d165).length = b.f8.length := List.length_map ..
           refine rs 5 ?_
           rcases Bool.eq_false_or_eq_true ((((b.f8.map d165).length : Int) == 0)) with hb40 | hb40
           ·refine aT 62 hb40 ?_
            refine aT 63 hb40 ?_
            replace hb40 := eq_of_beq (hb40)
            refine go 5 ?_
            refine ek ⟨[(2, bV (b.f9.toList == (⟨#[]⟩ : ByteArray).toList))], [], 1152⟩ ?_
            refine X.ret ?_
            exact ⟨trivial, _, _, ⟨(b.f9.toList == (⟨#[]⟩ : ByteArray).toList), (by (first | have hz := all_yes (p := txOk) (upto_all hA (by omega)) | have hz := all_no (p := txOk) ‹_› ‹_› | skip); rw [Bool.eq_iff_iff]; simp only [blockOk, Bool.and_eq_true, Bool.or_eq_true, inR_iff, decide_eq_true_eq, beq_iff_eq, Bool.false_eq_true, false_iff, true_iff, List.length_map]; first | (intro h; omega) | (intro h; simp_all; done) | (simp_all; done) | (simp_all; omega) | (constructor <;> intro h <;> (first | (simp_all; done) | (simp_all; omega) | omega))), rfl, rfl⟩, mkr⟩
           ·refine aF 62 hb40 ?_
            refine aF 63 hb40 ?_
            replace hb40 := beq_eq_false_iff_ne.1 (hb40)
            refine go 5 ?_
            refine ek ⟨[(2, bV false)], [], 1152⟩ ?_
            refine X.ret ?_
            exact ⟨trivial, _, _, ⟨false, (by (first | have hz := all_yes (p := txOk) (upto_all hA (by omega)) | have hz := all_no (p := txOk) ‹_› ‹_› | skip); rw [Bool.eq_iff_iff]; simp only [blockOk, Bool.and_eq_true, Bool.or_eq_true, inR_iff, decide_eq_true_eq, beq_iff_eq, Bool.false_eq_true, false_iff, true_iff, List.length_map]; first | (intro h; omega) | (intro h; simp_all; done) | (simp_all; done) | (simp_all; omega) | (constructor <;> intro h <;> (first | (simp_all; done) | (simp_all; omega) | omega))), rfl, rfl⟩, mkr⟩
          ·replace hb38 := bnot_no (hb38)
           refine X.skip ?_
           refine X.seq (rs 2 ?_)
           obtain ⟨r41, hr43, hf42⟩ := i_SetOk b.f8 (by exact hb.2.2.2.2.1)
           replace hr43 := hr43.symm; subst hr43
           refine ca hf42 Try.func178 ?_
           refine go 1 ?_
           rcases Bool.eq_false_or_eq_true ((setOk b.f8)) with hb45 | hb45
           ·refine aT 70 hb45 ?_
            refine aT 71 hb45 ?_
            refine go 6 ?_
            refine ek ⟨[(2, bV ((b.f9.size : Int) == 32))], [], 1152⟩ ?_
            refine X.ret ?_
            exact ⟨trivial, _, _, ⟨((b.f9.size : Int) == 32), (by (first | have hz := all_yes (p := txOk) (upto_all hA (by omega)) | have hz := all_no (p := txOk) ‹_› ‹_› | skip); rw [Bool.eq_iff_iff]; simp only [blockOk, Bool.and_eq_true, Bool.or_eq_true, inR_iff, decide_eq_true_eq, beq_iff_eq, Bool.false_eq_true, false_iff, true_iff, List.length_map]; first | (intro h; omega) | (intro h; simp_all; done) | (simp_all; done) | (simp_all; omega) | (constructor <;> intro h <;> (first | (simp_all; done) | (simp_all; omega) | omega))), rfl, rfl⟩, mkr⟩
           ·refine aF 70 hb45 ?_
            refine aF 71 hb45 ?_
            refine go 6 ?_
            refine ek ⟨[(2, bV false)], [], 1152⟩ ?_
            refine X.ret ?_
            exact ⟨trivial, _, _, ⟨false, (by (first | have hz := all_yes (p := txOk) (upto_all hA (by omega)) | have hz := all_no (p := txOk) ‹_› ‹_› | skip); rw [Bool.eq_iff_iff]; simp only [blockOk, Bool.and_eq_true, Bool.or_eq_true, inR_iff, decide_eq_true_eq, beq_iff_eq, Bool.false_eq_true, false_iff, true_iff, List.length_map]; first | (intro h; omega) | (intro h; simp_all; done) | (simp_all; done) | (simp_all; omega) | (constructor <;> intro h <;> (first | (simp_all; done) | (simp_all; omega) | omega))), rfl, rfl⟩, mkr⟩
 obtain ⟨_, _, ⟨r0, h1_, rfl, rfl⟩, hf⟩ := key
 exact ⟨r0, h1_, hf⟩

theorem s_TreeOk (l : List S72) (hl : SmL l) : ∃ r0 : Bool, (r0 = treeOk l) ∧ Fn Try.prog 66 [lV (l.map d72)] (lookH []) (bV r0) (lookH []) := by
 have key : ∃ x' h', ((fun x' h' => ∃ r0 : Bool, (r0 = treeOk l) ∧ x' = bV r0 ∧ h' = [])) x' h' ∧ Fn Try.prog 66 [lV (l.map d72)] (lookH []) x' (lookH h') := by
  refine Fn.bodyX (N := 70) hτ Try.func66 rfl rfl rfl rfl ?_
  refine sk ⟨[(0, lV (l.map d72))], [], 80⟩ ?_
  refine X.seq ?_
  refine sk ⟨[(0, lV (l.map d72)), (3, iV 0)], [], 96⟩ ?_
  refine X.block ?_
  -- 2: v3 : Int
  refine X.loop (σ := { g : Int // (fun (v3 : Int) => 0 ≤ v3 ∧ v3 ≤ l.length ∧ Upto (treeR l) (fun n => l[n]?) v3) g }) (fun g => (fun (v3 : Int) => ⟨[(0, lV (l.map d72)), (3, iV v3)], [], 96⟩) g.1) (fun g => (fun (v3 : Int) => (l.length - v3).toNat) g.1) ⟨0, ⟨by first | omega | (dsimp only; omega), by first | omega | (dsimp only; omega), upto_zero⟩⟩ (Wk.less (by kernel_rfl)) (fun g => ?_)
  obtain ⟨v3, hg2⟩ := g
  have hg2 : 0 ≤ v3 ∧ v3 ≤ l.length ∧ Upto (treeR l) (fun n => l[n]?) v3 := hg2
  obtain ⟨_, _, hA⟩ := hg2
  refine X.seq ?_
  refine X.seq ?_
  have hm := hl.1
  have el3 : (l.map d72).length = l.length := List.length_map ..
  refine rk ⟨[(0, lV (l.map d72)), (3, iV v3), (9, bV (decide ((v3 : Int) < ((l.map d72).length : Int))))], [], 160⟩ ?_
  refine if_ (b := decide ((v3 : Int) < ((l.map d72).length : Int))) (fun hb4 => ?_) (fun hb4 => ?_)
  ·replace hb4 := of_decide_eq_true (hb4)
   refine X.skip ?_
   refine X.seq ?_
   refine X.block ?_
   refine X.seq (rs 2 ?_)
   obtain ⟨x5, hx5⟩ : ∃ x, l[Int.toNat v3]? = some x := ⟨_, List.getElem?_eq_getElem (by first | omega | (simp; done) | (simp; omega))⟩
   refine CH.idx hτ (d72 x5) (rows := (l.map d72)) (n := v3) (sz := 14) (by kernel_rfl) (by kernel_rfl) (by first | omega | (simp; done) | (simp; omega)) (by rw [List.getElem?_map, hx5]; rfl) (by kernel_rfl) ?_
   refine go 3 ?_
   refine ek ⟨[(0, lV (l.map d72)), (3, iV v3), (4, .pt 224 0 0)], [(224, some (.box (cD (d72 x5))))], 256⟩ ?_
   refine X.seq ?_
   refine X.seq (rs 1 ?_)
   obtain ⟨r6, hr8, hf7⟩ := s_BlockOk x5 (by exact hl.at ‹_›)
   replace hr8 := hr8.symm; subst hr8
   refine ca hf7 Try.func129 ?_
   refine go 2 ?_
   rcases Bool.eq_false_or_eq_true (!(blockOk x5)) with hb10 | hb10
   ·refine aT 18 hb10 ?_
    refine aT 19 hb10 ?_
    replace hb10 := bnot_yes (hb10)
    refine go 23 ?_
    refine ek ⟨[(0, lV (l.map d72)), (3, iV v3), (4, .pt 224 0 0), (42, bV true)], [(224, some (.box (cD (d72 x5))))], 688⟩ ?_
    refine X.ifT (by kernel_rfl) ?_
    refine sk ⟨[(2, bV false)], [], 704⟩ ?_
    refine X.ret ?_
    exact ⟨trivial, _, _, ⟨false, (by first | exact (fls (fun h => upto_no (by omega) (by omega) ‹_› (fun hr => by first | exact tf hr.1 ‹_› | exact absurd (hr.2.1 _ ‹_›) ‹_› | (have := hr.2.2.1 _ (by omega) ‹_›; omega)) h.1)) | exact (fls (fun h => tk_no1 h (by omega) ‹_› ‹_› ‹_›)) | exact (fls (fun h => tk_no2 h (by omega) ‹_› ‹_› ‹_› ‹_› ‹_›)) | exact (dcd (by simp only [decide_eq_true_eq, List.length_map]; exact ⟨fun h => ⟨upto_all hA (by omega), by omega⟩, fun h => by have := h.2; omega⟩))), rfl, rfl⟩, mkr⟩
   ·refine aF 18 hb10 ?_
    refine aF 19 hb10 ?_
    replace hb10 := bnot_no (hb10)
    refine go 3 ?_
    obtain ⟨x11, hx11⟩ : ∃ x, l[Int.toNat 0]? = some x := ⟨_, List.getElem?_eq_getElem (by first | omega | (simp; done) | (simp; omega))⟩
    refine CH.idx hτ (d72 x11) (rows := (l.map d72)) (n := 0) (sz := 14) (by kernel_rfl) (by kernel_rfl) (by first | omega | (simp; done) | (simp; omega)) (by rw [List.getElem?_map, hx11]; rfl) (by kernel_rfl) ?_
    refine go 5 ?_
    rcases Bool.eq_false_or_eq_true ((x5.f1 != x11.f1)) with hb12 | hb12
    ·refine aT 26 hb12 ?_
     refine aT 27 hb12 ?_
     refine aT 28 hb12 ?_
     replace hb12 := bne_iff_ne.1 (hb12)
     refine go 14 ?_
     refine ek ⟨[(0, lV (l.map d72)), (3, iV v3), (4, .pt 224 0 0), (42, bV true)], [(224, some (.box (cD (d72 x5))))], 688⟩ ?_
     refine X.ifT (by kernel_rfl) ?_
     refine sk ⟨[(2, bV false)], [], 704⟩ ?_
     refine X.ret ?_
     exact ⟨trivial, _, _, ⟨false, (by first | exact (fls (fun h => upto_no (by omega) (by omega) ‹_› (fun hr => by first | exact tf hr.1 ‹_› | exact absurd (hr.2.1 _ ‹_›) ‹_› | (have := hr.2.2.1 _ (by omega) ‹_›; omega)) h.1)) | exact (fls (fun h => tk_no1 h (by omega) ‹_› ‹_› ‹_›)) | exact (fls (fun h => tk_no2 h (by omega) ‹_› ‹_› ‹_› ‹_› ‹_›)) | exact (dcd (by simp only [decide_eq_true_eq, List.length_map]; exact ⟨fun h => ⟨upto_all hA (by omega), by omega⟩, fun h => by have := h.2; omega⟩))), rfl, rfl⟩, mkr⟩
    ·refine aF 26 hb12 ?_
     refine aF 27 hb12 ?_
     refine aF 28 hb12 ?_
     replace hb12 := bne_eq_false_iff_eq.1 (hb12)
     refine go 3 ?_
     rcases Bool.eq_false_or_eq_true (decide ((v3 : Int) > 0)) with hb13 | hb13
     ·refine aT 30 hb13 ?_
      refine aT 31 hb13 ?_
      replace hb13 := of_decide_eq_true (hb13)
      refine go 3 ?_
      obtain ⟨x14, hx14⟩ : ∃ x, l[Int.toNat (v3 - 1)]? = some x := ⟨_, List.getElem?_eq_getElem (by first | omega | (simp; done) | (simp; omega))⟩
      refine CH.alt 34 (sV (.int .i64 (wrap64 (v3 - 1)))) (sV (.int .i64 ((v3 - 1)))) (by kernel_rfl) (by rw [w64 (n := (v3 - 1)) (by omega) (by omega)]) ?_
      refine CH.idx hτ (d72 x14) (rows := (l.map d72)) (n := (v3 - 1)) (sz := 14) (by kernel_rfl) (by kernel_rfl) (by first | omega | (simp; done) | (simp; omega)) (by rw [List.getElem?_map, hx14]; rfl) (by kernel_rfl) ?_
      refine go 7 ?_
      refine ek ⟨[(0, lV (l.map d72)), (3, iV v3), (4, .pt 224 0 0), (42, bV (decide ((x14.f0 : Int) ≥ x5.f0)))], [(224, some (.box (cD (d72 x5))))], 688⟩ ?_
      refine if_ (b := decide ((x14.f0 : Int) ≥ x5.f0)) (fun hb15 => ?_) (fun hb15 => ?_)
      ·replace hb15 := of_decide_eq_true (hb15)
       refine sk ⟨[(2, bV false)], [], 704⟩ ?_
       refine X.ret ?_
       exact ⟨trivial, _, _, ⟨false, (by first | exact (fls (fun h => upto_no (by omega) (by omega) ‹_› (fun hr => by first | exact tf hr.1 ‹_› | exact absurd (hr.2.1 _ ‹_›) ‹_› | (have := hr.2.2.1 _ (by omega) ‹_›; omega)) h.1)) | exact (fls (fun h => tk_no1 h (by omega) ‹_› ‹_› ‹_›)) | exact (fls (fun h => tk_no2 h (by omega) ‹_› ‹_› ‹_› ‹_› ‹_›)) | exact (dcd (by simp only [decide_eq_true_eq, List.length_map]; exact ⟨fun h => ⟨upto_all hA (by omega), by omega⟩, fun h => by have := h.2; omega⟩))), rfl, rfl⟩, mkr⟩
      ·replace hb15 := of_decide_eq_false (hb15)
       refine X.skip ?_
       refine X.seq (rs 2 ?_)
       obtain ⟨r16, hr18, hf17⟩ := s_l8Root x5.f4
       replace hr18 := hr18.symm; subst hr18
       refine ca hf17 Try.func130 ?_
       refine go 1 ?_
       refine ek ⟨[(0, lV (l.map d72)), (3, iV v3), (4, .pt 224 0 0), (46, bV (!(rootQ x5.f4)))], [(224, some (.box (cD (d72 x5))))], 752⟩ ?_
       refine if_ (b := !(rootQ x5.f4)) (fun hb20 => ?_) (fun hb20 => ?_)
       ·replace hb20 := bnot_yes (hb20)
        refine X.seq (rs 2 ?_)
        refine CH.cut hτ (cc := .d (.sl (l.map d72))) (rows := (l.map d72)) (sz := 14) (l := 0) (h := v3) (by kernel_rfl) (by kernel_rfl) (by first | omega | (simp; done) | (simp; omega)) (by first | omega | (simp; done) | (simp; omega)) (by first | omega | (simp only [List.length_map]; omega)) (flat_ok (f := d72) (fun x => rfl)) ?_
        refine CH.alt 49 (.e (.c (.d (.sl (((l.map d72).drop (Int.toNat 0)).take (Int.toNat v3 - Int.toNat 0)))))) (.e (.c (.d (.sl (((l.drop (Int.toNat 0)).take (Int.toNat v3 - Int.toNat 0)).map d72))))) (by kernel_rfl) (by rw [List.map_take, List.map_drop]) ?_
        refine go 3 ?_
        obtain ⟨r21, hr23, hf22⟩ := s_l10At ((l.drop (Int.toNat 0)).take (Int.toNat v3 - Int.toNat 0)) x5.f4.f1 (by first | (simp only [List.length_take, List.length_drop]; omega) | (simp; omega))
        replace hr23 := hr23.symm; subst hr23
        have hid := idAt_bd ((l.drop (Int.toNat 0)).take (Int.toNat v3 - Int.toNat 0)) x5.f4.f1
        have hid2 := hid
        simp only [List.length_take, List.length_drop] at hid2
        refine ca hf22 Try.func63 ?_
        refine go 1 ?_
        refine ek ⟨[(0, lV (l.map d72)), (3, iV v3), (4, .pt 224 0 0), (5, iV (idAt ((l.drop (Int.toNat 0)).take (Int.toNat v3 - Int.toNat 0)) x5.f4.f1))], [(224, some (.box (cD (d72 x5))))], 880⟩ ?_
        refine X.seq (rs 3 ?_)
        rcases Bool.eq_false_or_eq_true (decide (((idAt ((l.drop (Int.toNat 0)).take (Int.toNat v3 - Int.toNat 0)) x5.f4.f1) : Int) < 0)) with hb25 | hb25
        ·refine aT 55 hb25 ?_
         refine aT 56 hb25 ?_
         replace hb25 := of_decide_eq_true (hb25)
         refine go 10 ?_
         refine ek ⟨[(0, lV (l.map d72)), (3, iV v3), (66, bV true)], [], 1088⟩ ?_
         refine X.ifT (by kernel_rfl) ?_
         refine sk ⟨[(2, bV false)], [], 1104⟩ ?_
         refine X.ret ?_
         exact ⟨trivial, _, _, ⟨false, (by first | exact (fls (fun h => upto_no (by omega) (by omega) ‹_› (fun hr => by first | exact tf hr.1 ‹_› | exact absurd (hr.2.1 _ ‹_›) ‹_› | (have := hr.2.2.1 _ (by omega) ‹_›; omega)) h.1)) | exact (fls (fun h => tk_no1 h (by omega) ‹_› ‹_› ‹_›)) | exact (fls (fun h => tk_no2 h (by omega) ‹_› ‹_› ‹_› ‹_› ‹_›)) | exact (dcd (by simp only [decide_eq_true_eq, List.length_map]; exact ⟨fun h => ⟨upto_all hA (by omega), by omega⟩, fun h => by have := h.2; omega⟩))), rfl, rfl⟩, mkr⟩
        ·refine aF 55 hb25 ?_
         refine aF 56 hb25 ?_
         replace hb25 := of_decide_eq_false (hb25)
         refine go 2 ?_
         obtain ⟨x26, hx26⟩ : ∃ x, l[Int.toNat (idAt ((l.drop (Int.toNat 0)).take (Int.toNat v3 - Int.toNat 0)) x5.f4.f1)]? = some x := ⟨_, List.getElem?_eq_getElem (by first | omega | (simp; done) | (simp; omega))⟩
         refine CH.idx hτ (d72 x26) (rows := (l.map d72)) (n := (idAt ((l.drop (Int.toNat 0)).take (Int.toNat v3 - Int.toNat 0)) x5.f4.f1)) (sz := 14) (by kernel_rfl) (by kernel_rfl) (by first | omega | (simp; done) | (simp; omega)) (by rw [List.getElem?_map, hx26]; rfl) (by kernel_rfl) ?_
         refine go 7 ?_
         refine ek ⟨[(0, lV (l.map d72)), (3, iV v3), (66, bV (x26.f2 != x5.f4.f0))], [], 1088⟩ ?_
         refine if_ (b := (x26.f2 != x5.f4.f0)) (fun hb27 => ?_) (fun hb27 => ?_)
         ·replace hb27 := bne_iff_ne.1 (hb27)
          refine sk ⟨[(2, bV false)], [], 1104⟩ ?_
          refine X.ret ?_
          exact ⟨trivial, _, _, ⟨false, (by first | exact (fls (fun h => upto_no (by omega) (by omega) ‹_› (fun hr => by first | exact tf hr.1 ‹_› | exact absurd (hr.2.1 _ ‹_›) ‹_› | (have := hr.2.2.1 _ (by omega) ‹_›; omega)) h.1)) | exact (fls (fun h => tk_no1 h (by omega) ‹_› ‹_› ‹_›)) | exact (fls (fun h => tk_no2 h (by omega) ‹_› ‹_› ‹_› ‹_› ‹_›)) | exact (dcd (by simp only [decide_eq_true_eq, List.length_map]; exact ⟨fun h => ⟨upto_all hA (by omega), by omega⟩, fun h => by have := h.2; omega⟩))), rfl, rfl⟩, mkr⟩
         ·replace hb27 := bne_eq_false_iff_eq.1 (hb27)
          refine X.skip ?_
          refine X.rk ⟨[(0, lV (l.map d72)), (3, iV (wrap64 (v3 + 1)))], [], 1136⟩ hτ hmix (by kernel_rfl) (by kernel_rfl) (s2 := ⟨[(0, lV (l.map d72)), (3, iV (v3 + 1))], [], 1136⟩) (congrArg (fun z : Int => (⟨[(0, lV (l.map d72)), (3, iV z)], [], 1136⟩ : St)) (show wrap64 (v3 + 1) = (v3 + 1) by rw [w64 (n := (v3 + 1)) (by omega) (by omega)])) ?_
          refine ⟨⟨(v3 + 1), ⟨by first | omega | (dsimp only; omega), by first | omega | (dsimp only; omega), upto_nx (by first | omega | (dsimp only; omega)) hA ‹_› (⟨‹_›, at_fn ‹_› ‹_›, (by first | exact fun y h0 hy => absurd h0 (by first | omega | (dsimp only; omega)) | exact prev_fn ‹_› (by first | omega | (dsimp only; omega))), (by first | exact .inl ‹_› | exact .inr ⟨_, tk_find ‹_› ‹_›, ‹_›⟩)⟩)⟩⟩, by first | exact rfl | omega | (dsimp only; omega) | (simp only [List.length_append, List.length_cons, List.length_nil, List.length_set]; omega) | (simp; done) | (simp; omega), Wk.mk' [] (by kernel_rfl) (by kernel_rfl) (by kernel_rfl)⟩
       ·replace hb20 := bnot_no (hb20)
        refine X.skip ?_
        refine X.rk ⟨[(0, lV (l.map d72)), (3, iV (wrap64 (v3 + 1)))], [], 800⟩ hτ hmix (by kernel_rfl) (by kernel_rfl) (s2 := ⟨[(0, lV (l.map d72)), (3, iV (v3 + 1))], [], 800⟩) (congrArg (fun z : Int => (⟨[(0, lV (l.map d72)), (3, iV z)], [], 800⟩ : St)) (show wrap64 (v3 + 1) = (v3 + 1) by rw [w64 (n := (v3 + 1)) (by omega) (by omega)])) ?_
        refine ⟨⟨(v3 + 1), ⟨by first | omega | (dsimp only; omega), by first | omega | (dsimp only; omega), upto_nx (by first | omega | (dsimp only; omega)) hA ‹_› (⟨‹_›, at_fn ‹_› ‹_›, (by first | exact fun y h0 hy => absurd h0 (by first | omega | (dsimp only; omega)) | exact prev_fn ‹_› (by first | omega | (dsimp only; omega))), (by first | exact .inl ‹_› | exact .inr ⟨_, tk_find ‹_› ‹_›, ‹_›⟩)⟩)⟩⟩, by first | exact rfl | omega | (dsimp only; omega) | (simp only [List.length_append, List.length_cons, List.length_nil, List.length_set]; omega) | (simp; done) | (simp; omega), Wk.mk' [] (by kernel_rfl) (by kernel_rfl) (by kernel_rfl)⟩
     ·refine aF 30 hb13 ?_
      refine aF 31 hb13 ?_
      replace hb13 := of_decide_eq_false (hb13)
      refine go 11 ?_
      refine ek ⟨[(0, lV (l.map d72)), (3, iV v3), (4, .pt 224 0 0), (42, bV false)], [(224, some (.box (cD (d72 x5))))], 688⟩ ?_
      refine X.ifF (by kernel_rfl) ?_
      refine X.skip ?_
      refine X.seq (rs 2 ?_)
      obtain ⟨r28, hr30, hf29⟩ := s_l8Root x5.f4
      replace hr30 := hr30.symm; subst hr30
      refine ca hf29 Try.func130 ?_
      refine go 1 ?_
      refine ek ⟨[(0, lV (l.map d72)), (3, iV v3), (4, .pt 224 0 0), (46, bV (!(rootQ x5.f4)))], [(224, some (.box (cD (d72 x5))))], 752⟩ ?_
      refine if_ (b := !(rootQ x5.f4)) (fun hb32 => ?_) (fun hb32 => ?_)
      ·replace hb32 := bnot_yes (hb32)
       refine X.seq (rs 2 ?_)
       refine CH.cut hτ (cc := .d (.sl (l.map d72))) (rows := (l.map d72)) (sz := 14) (l := 0) (h := v3) (by kernel_rfl) (by kernel_rfl) (by first | omega | (simp; done) | (simp; omega)) (by first | omega | (simp; done) | (simp; omega)) (by first | omega | (simp only [List.length_map]; omega)) (flat_ok (f := d72) (fun x => rfl)) ?_
       refine CH.alt 49 (.e (.c (.d (.sl (((l.map d72).drop (Int.toNat 0)).take (Int.toNat v3 - Int.toNat 0)))))) (.e (.c (.d (.sl (((l.drop (Int.toNat 0)).take (Int.toNat v3 - Int.toNat 0)).map d72))))) (by kernel_rfl) (by rw [List.map_take, List.map_drop]) ?_
       refine go 3 ?_
       obtain ⟨r33, hr35, hf34⟩ := s_l10At ((l.drop (Int.toNat 0)).take (Int.toNat v3 - Int.toNat 0)) x5.f4.f1 (by first | (simp only [List.length_take, List.length_drop]; omega) | (simp; omega))
       replace hr35 := hr35.symm; subst hr35
       have hid := idAt_bd ((l.drop (Int.toNat 0)).take (Int.toNat v3 - Int.toNat 0)) x5.f4.f1
       have hid2 := hid
       simp only [List.length_take, List.length_drop] at hid2
       refine ca hf34 Try.func63 ?_
       refine go 1 ?_
       refine ek ⟨[(0, lV (l.map d72)), (3, iV v3), (4, .pt 224 0 0), (5, iV (idAt ((l.drop (Int.toNat 0)).take (Int.toNat v3 - Int.toNat 0)) x5.f4.f1))], [(224, some (.box (cD (d72 x5))))], 880⟩ ?_
       refine X.seq (rs 3 ?_)
       rcases Bool.eq_false_or_eq_true (decide (((idAt ((l.drop (Int.toNat 0)).take (Int.toNat v3 - Int.toNat 0)) x5.f4.f1) : Int) < 0)) with hb37 | hb37
       ·refine aT 55 hb37 ?_
        refine aT 56 hb37 ?_
        replace hb37 := of_decide_eq_true (hb37)
        refine go 10 ?_
        refine ek ⟨[(0, lV (l.map d72)), (3, iV v3), (66, bV true)], [], 1088⟩ ?_
        refine X.ifT (by kernel_rfl) ?_
        refine sk ⟨[(2, bV false)], [], 1104⟩ ?_
        refine X.ret ?_
        exact ⟨trivial, _, _, ⟨false, (by first | exact (fls (fun h => upto_no (by omega) (by omega) ‹_› (fun hr => by first | exact tf hr.1 ‹_› | exact absurd (hr.2.1 _ ‹_›) ‹_› | (have := hr.2.2.1 _ (by omega) ‹_›; omega)) h.1)) | exact (fls (fun h => tk_no1 h (by omega) ‹_› ‹_› ‹_›)) | exact (fls (fun h => tk_no2 h (by omega) ‹_› ‹_› ‹_› ‹_› ‹_›)) | exact (dcd (by simp only [decide_eq_true_eq, List.length_map]; exact ⟨fun h => ⟨upto_all hA (by omega), by omega⟩, fun h => by have := h.2; omega⟩))), rfl, rfl⟩, mkr⟩
       ·refine aF 55 hb37 ?_
        refine aF 56 hb37 ?_
        replace hb37 := of_decide_eq_false (hb37)
        refine go 2 ?_
        obtain ⟨x38, hx38⟩ : ∃ x, l[Int.toNat (idAt ((l.drop (Int.toNat 0)).take (Int.toNat v3 - Int.toNat 0)) x5.f4.f1)]? = some x := ⟨_, List.getElem?_eq_getElem (by first | omega | (simp; done) | (simp; omega))⟩
        refine CH.idx hτ (d72 x38) (rows := (l.map d72)) (n := (idAt ((l.drop (Int.toNat 0)).take (Int.toNat v3 - Int.toNat 0)) x5.f4.f1)) (sz := 14) (by kernel_rfl) (by kernel_rfl) (by first | omega | (simp; done) | (simp; omega)) (by rw [List.getElem?_map, hx38]; rfl) (by kernel_rfl) ?_
        refine go 7 ?_
        refine ek ⟨[(0, lV (l.map d72)), (3, iV v3), (66, bV (x38.f2 != x5.f4.f0))], [], 1088⟩ ?_
        refine if_ (b := (x38.f2 != x5.f4.f0)) (fun hb39 => ?_) (fun hb39 => ?_)
        ·replace hb39 := bne_iff_ne.1 (hb39)
         refine sk ⟨[(2, bV false)], [], 1104⟩ ?_
         refine X.ret ?_
         exact ⟨trivial, _, _, ⟨false, (by first | exact (fls (fun h => upto_no (by omega) (by omega) ‹_› (fun hr => by first | exact tf hr.1 ‹_› | exact absurd (hr.2.1 _ ‹_›) ‹_› | (have := hr.2.2.1 _ (by omega) ‹_›; omega)) h.1)) | exact (fls (fun h => tk_no1 h (by omega) ‹_› ‹_› ‹_›)) | exact (fls (fun h => tk_no2 h (by omega) ‹_› ‹_› ‹_› ‹_› ‹_›)) | exact (dcd (by simp only [decide_eq_true_eq, List.length_map]; exact ⟨fun h => ⟨upto_all hA (by omega), by omega⟩, fun h => by have := h.2; omega⟩))), rfl, rfl⟩, mkr⟩
        ·replace hb39 := bne_eq_false_iff_eq.1 (hb39)
         refine X.skip ?_
         refine X.rk ⟨[(0, lV (l.map d72)), (3, iV (wrap64 (v3 + 1)))], [], 1136⟩ hτ hmix (by kernel_rfl) (by kernel_rfl) (s2 := ⟨[(0, lV (l.map d72)), (3, iV (v3 + 1))], [], 1136⟩) (congrArg (fun z : Int => (⟨[(0, lV (l.map d72)), (3, iV z)], [], 1136⟩ : St)) (show wrap64 (v3 + 1) = (v3 + 1) by rw [w64 (n := (v3 + 1)) (by omega) (by omega)])) ?_
         refine ⟨⟨(v3 + 1), ⟨by first | omega | (dsimp only; omega), by first | omega | (dsimp only; omega), upto_nx (by first | omega | (dsimp only; omega)) hA ‹_› (⟨‹_›, at_fn ‹_› ‹_›, (by first | exact fun y h0 hy => absurd h0 (by first | omega | (dsimp only; omega)) | exact prev_fn ‹_› (by first | omega | (dsimp only; omega))), (by first | exact .inl ‹_› | exact .inr ⟨_, tk_find ‹_› ‹_›, ‹_›⟩)⟩)⟩⟩, by first | exact rfl | omega | (dsimp only; omega) | (simp only [List.length_append, List.length_cons, List.length_nil, List.length_set]; omega) | (simp; done) | (simp; omega), Wk.mk' [] (by kernel_rfl) (by kernel_rfl) (by kernel_rfl)⟩
      ·replace hb32 := bnot_no (hb32)
       refine X.skip ?_
       refine X.rk ⟨[(0, lV (l.map d72)), (3, iV (wrap64 (v3 + 1)))], [], 800⟩ hτ hmix (by kernel_rfl) (by kernel_rfl) (s2 := ⟨[(0, lV (l.map d72)), (3, iV (v3 + 1))], [], 800⟩) (congrArg (fun z : Int => (⟨[(0, lV (l.map d72)), (3, iV z)], [], 800⟩ : St)) (show wrap64 (v3 + 1) = (v3 + 1) by rw [w64 (n := (v3 + 1)) (by omega) (by omega)])) ?_
       refine ⟨⟨(v3 + 1), ⟨by first | omega | (dsimp only; omega), by first | omega | (dsimp only; omega), upto_nx (by first | omega | (dsimp only; omega)) hA ‹_› (⟨‹_›, at_fn ‹_› ‹_›, (by first | exact fun y h0 hy => absurd h0 (by first | omega | (dsimp only; omega)) | exact prev_fn ‹_› (by first | omega | (dsimp only; omega))), (by first | exact .inl ‹_› | exact .inr ⟨_, tk_find ‹_› ‹_›, ‹_›⟩)⟩)⟩⟩, by first | exact rfl | omega | (dsimp only; omega) | (simp only [List.length_append, List.length_cons, List.length_nil, List.length_set]; omega) | (simp; done) | (simp; omega), Wk.mk' [] (by kernel_rfl) (by kernel_rfl) (by kernel_rfl)⟩
  ·replace hb4 := of_decide_eq_false (hb4)
   refine X.exit ?_
   refine sk ⟨[(2, bV (decide ((((l.map d72).length : Int) : Int) ≤ 400)))], [], 224⟩ ?_
   refine X.ret ?_
   exact ⟨trivial, _, _, ⟨decide ((((l.map d72).length : Int) : Int) ≤ 400), (by first | exact (fls (fun h => upto_no (by omega) (by omega) ‹_› (fun hr => by first | exact tf hr.1 ‹_› | exact absurd (hr.2.1 _ ‹_›) ‹_› | (have := hr.2.2.1 _ (by omega) ‹_›; omega)) h.1)) | exact (fls (fun h => tk_no1 h (by omega) ‹_› ‹_› ‹_›)) | exact (fls (fun h => tk_no2 h (by omega) ‹_› ‹_› ‹_› ‹_› ‹_›)) | exact (dcd (by simp only [decide_eq_true_eq, List.length_map]; exact ⟨fun h => ⟨upto_all hA (by omega), by omega⟩, fun h => by have := h.2; omega⟩))), rfl, rfl⟩, mkr⟩
 obtain ⟨_, _, ⟨r0, h1_, rfl, rfl⟩, hf⟩ := key
 exact ⟨r0, h1_, hf⟩

theorem s_AddTo (l : List S72) (b : S72) (hl : SmL l) (hb : Sm72 b) (hs : l.length < 2000000) : ∃ r0 : List S72, ∃ r1 : Bool, (r0.length ≤ l.length + 1 ∧ (∀ x, x ∈ r0 → Sm72 x ∧ (x ∈ l ∨ x = b)) ∧ (r1 = true → treeOk r0 = true) ∧ r1 = addOk l b ∧ (r1 = true → r0 = addTo l b) ∧ (r1 = false → r0 = l)) ∧ Fn Try.prog 26 [lV (l.map d72), .e (.agg (cD (d72 b)))] (lookH []) (.tup [.c (.ref 64), .c (.d (.v (.bool r1)))]) (lookH [(64, some (.row 14 72 (r0.map d72) false true))]) := by
 have key : ∃ x' h', ((fun x' h' => ∃ r0 : List S72, ∃ r1 : Bool, (r0.length ≤ l.length + 1 ∧ (∀ x, x ∈ r0 → Sm72 x ∧ (x ∈ l ∨ x = b)) ∧ (r1 = true → treeOk r0 = true) ∧ r1 = addOk l b ∧ (r1 = true → r0 = addTo l b) ∧ (r1 = false → r0 = l)) ∧ x' = .tup [.c (.ref 64), .c (.d (.v (.bool r1)))] ∧ h' = [(64, some (.row 14 72 (r0.map d72) false true))])) x' h' ∧ Fn Try.prog 26 [lV (l.map d72), .e (.agg (cD (d72 b)))] (lookH []) x' (lookH h') := by
  refine Fn.bodyX (N := 63) hτ Try.func26 rfl rfl rfl rfl ?_
  refine sk ⟨[(0, lV (l.map d72)), (3, .pt 64 0 0)], [(64, some (.box (cD (d72 b))))], 112⟩ ?_
  refine X.seq ?_
  refine X.seq ?_
  have hm := hl.1
  refine rs 3 ?_
  obtain ⟨r1, hr3, hf2⟩ := s_l10At l b.f0 (by omega)
  replace hr3 := hr3.symm; subst hr3
  have hid := idAt_bd l b.f0
  refine ca hf2 Try.func63 ?_
  refine go 1 ?_
  refine ek ⟨[(0, lV (l.map d72)), (3, .pt 64 0 0), (13, bV (decide (((idAt l b.f0) : Int) ≥ 0)))], [(64, some (.box (cD (d72 b))))], 192⟩ ?_
  refine if_ (b := decide (((idAt l b.f0) : Int) ≥ 0)) (fun hb5 => ?_) (fun hb5 => ?_)
  ·replace hb5 := of_decide_eq_true (hb5)
   refine X.seq (rs 1 ?_)
   obtain ⟨r6, hr8, hf7⟩ := s_l10Copy l (by assumption)
   replace hr8 := hr8.symm; subst hr8
   refine ca hf7 Try.func64 ?_
   refine go 2 ?_
   refine ek ⟨[(4, rV 208), (5, bV false)], [(208, some (.row 14 72 (l.map d72) false true))], 256⟩ ?_
   refine X.ret ?_
   exact ⟨trivial, _, _, ⟨l, false, (by first | exact ⟨by omega, fun x hx => ⟨hl.2 x hx, .inl hx⟩, (fun h => by cases h), addOk_id ‹_›, (fun h => by cases h), fun _ => rfl⟩ | exact ⟨by omega, fun x hx => ⟨hl.2 x hx, .inl hx⟩, (fun h => by cases h), addOk_no (by omega) (by omega) hE hG (.inl ‹_›) ‹_›, (fun h => by cases h), fun _ => rfl⟩ | exact ⟨by omega, fun x hx => ⟨hl.2 x hx, .inl hx⟩, (fun h => by cases h), addOk_no (by omega) (by omega) hE hG (.inr ⟨_, ‹_›, ‹_›⟩) ‹_›, (fun h => by cases h), fun _ => rfl⟩ | exact (have q := addOk_yes ‹_› (by omega) hE ‹_›; ⟨by omega, hA, fun _ => ‹_›, q.1, fun _ => q.2, fun h => by cases h⟩)), rfl, rfl⟩, .inl (Ret.mk' [(64, 208)] (by kernel_rfl) (by kernel_rfl) (by kernel_rfl))⟩
  ·replace hb5 := of_decide_eq_false (hb5)
   refine X.skip ?_
   refine X.seq (rs 1 ?_)
   obtain ⟨r10, hr12, hf11⟩ := s_l10Copy l (by assumption)
   replace hr12 := hr12.symm; subst hr12
   refine ca hf11 Try.func64 ?_
   refine go 1 ?_
   obtain ⟨r14, hr16, hf15⟩ := s_l9Copy b (by assumption)
   replace hr16 := hr16.symm; subst hr16
   refine ca hf15 Try.func65 ?_
   refine go 1 ?_
   have el18 : (l.map d72).length = l.length := List.length_map ..
   have el19 : (([b] : List S72).map d72).length = ([b] : List S72).length := List.length_map ..
   have el20 : ([b] : List S72).length = 1 := rfl
   refine CH.app hτ (rows := (l.map d72)) (rows2 := (([b] : List S72).map d72)) (sz := 14) (bys := 208) false (by kernel_rfl) (by kernel_rfl) (fun h => by cases h) (flat_ok (f := d72) (fun x => rfl)) (by simp only [List.length_map] <;> (first | done | omega | (simp; done) | (simp; omega))) (by kernel_rfl) ?_
   refine go 1 ?_
   refine CH.endk ⟨[(0, lV (l.map d72)), (3, .pt 64 0 0), (6, rV 272)], [(64, some (.box (cD (d72 b)))), (272, some (.row 14 72 ((l.map d72) ++ (([b] : List S72).map d72)) false true))], 304⟩ (by kernel_rfl) (by kernel_rfl) (s2 := ⟨[(0, lV (l.map d72)), (3, .pt 64 0 0), (6, rV 272)], [(64, some (.box (cD (d72 b)))), (272, some (.row 14 72 ((l ++ ([b] : List S72)).map d72) false true))], 304⟩) (congrArg (fun z : List (List D) => (⟨[(0, lV (l.map d72)), (3, .pt 64 0 0), (6, rV 272)], [(64, some (.box (cD (d72 b)))), (272, some (.row 14 72 z false true))], 304⟩ : St)) (show (l.map d72) ++ (([b] : List S72).map d72) = ((l ++ ([b] : List S72)).map d72) from List.map_append.symm)) ?_
   refine X.seq ?_
   have el21 : ((l ++ ([b] : List S72)).map d72).length = (l ++ ([b] : List S72)).length := List.length_map ..
   have el22 : (l ++ ([b] : List S72)).length = l.length + ([b] : List S72).length := List.length_append
   have el23 : ([b] : List S72).length = 1 := rfl
   refine X.rk ⟨[(0, lV (l.map d72)), (3, .pt 64 0 0), (6, rV 272), (7, iV (wrap64 ((((l ++ ([b] : List S72)).map d72).length : Int) - 1)))], [(64, some (.box (cD (d72 b)))), (272, some (.row 14 72 ((l ++ ([b] : List S72)).map d72) false true))], 368⟩ hτ hmix (by kernel_rfl) (by kernel_rfl) (s2 := ⟨[(0, lV (l.map d72)), (3, .pt 64 0 0), (6, rV 272), (7, iV ((((l ++ ([b] : List S72)).map d72).length : Int) - 1))], [(64, some (.box (cD (d72 b)))), (272, some (.row 14 72 ((l ++ ([b] : List S72)).map d72) false true))], 368⟩) (congrArg (fun z : Int => (⟨[(0, lV (l.map d72)), (3, .pt 64 0 0), (6, rV 272), (7, iV z)], [(64, some (.box (cD (d72 b)))), (272, some (.row 14 72 ((l ++ ([b] : List S72)).map d72) false true))], 368⟩ : St)) (show wrap64 ((((l ++ ([b] : List S72)).map d72).length : Int) - 1) = ((((l ++ ([b] : List S72)).map d72).length : Int) - 1) by rw [w64 (n := ((((l ++ ([b] : List S72)).map d72).length : Int) - 1)) (by omega) (by omega)])) ?_
   refine X.seq ?_
   refine X.block ?_
   -- 5: Lv6 : List S72, v7 : Int
   refine X.loop (σ := { g : (List S72) × Int // (fun (Lv6 : List S72) (v7 : Int) => 0 ≤ v7 ∧ v7 ≤ (l.length : Int) ∧ Lv6 = insAt l [b] v7.toNat ∧ (∀ (j : Nat) (x : S72), v7.toNat ≤ j → l[j]? = some x → b.f0 < x.f0) ∧ Lv6.length = l.length + 1 ∧ ∀ x, x ∈ Lv6 → Sm72 x ∧ (x ∈ l ∨ x = b)) g.1 g.2 }) (fun g => (fun (Lv6 : List S72) (v7 : Int) => ⟨[(0, lV (l.map d72)), (3, .pt 64 0 0), (6, rV 272), (7, iV v7)], [(64, some (.box (cD (d72 b)))), (272, some (.row 14 72 (Lv6.map d72) false true))], 368⟩) g.1.1 g.1.2) (fun g => (fun (Lv6 : List S72) (v7 : Int) => v7.toNat) g.1.1 g.1.2) ⟨((l ++ ([b] : List S72)), ((((l ++ ([b] : List S72)).map d72).length : Int) - 1)), ⟨by first | omega | (simp; done) | (simp; omega), by first | omega | (simp; done) | (simp; omega), by simp [insAt], fun j x h hx => by have := (List.getElem?_eq_some_iff.1 hx).1; simp at h; omega, by simp, all_app (fun x hx => ⟨hl.2 x hx, .inl hx⟩) (all_one ⟨hb, .inr rfl⟩)⟩⟩ (Wk.less (by kernel_rfl)) (fun g => ?_)
   obtain ⟨⟨Lv6, v7⟩, hg25⟩ := g
   have hg25 : 0 ≤ v7 ∧ v7 ≤ (l.length : Int) ∧ Lv6 = insAt l [b] v7.toNat ∧ (∀ (j : Nat) (x : S72), v7.toNat ≤ j → l[j]? = some x → b.f0 < x.f0) ∧ Lv6.length = l.length + 1 ∧ ∀ x, x ∈ Lv6 → Sm72 x ∧ (x ∈ l ∨ x = b) := hg25
   obtain ⟨_, _, hE, hG, hlen, hA⟩ := hg25
   refine X.seq ?_
   refine X.seq (rs 3 ?_)
   rcases Bool.eq_false_or_eq_true (decide ((v7 : Int) > 0)) with hb26 | hb26
   ·refine aT 26 hb26 ?_
    refine aT 27 hb26 ?_
    replace hb26 := of_decide_eq_true (hb26)
    refine go 3 ?_
    refine CH.alt 30 (sV (.int .i64 (wrap64 (v7 - 1)))) (sV (.int .i64 ((v7 - 1)))) (by kernel_rfl) (by rw [w64 (n := (v7 - 1)) (by omega) (by omega)]) ?_
    refine CH.idxR hτ (rows := (Lv6.map d72)) (n := (v7 - 1)) (b := 272) (by kernel_rfl) (by kernel_rfl) (by first | omega | (simp; done) | (simp; omega)) (by simp only [List.length_map, List.length_set]; first | omega | (simp; done) | (simp; omega)) (by kernel_rfl) ?_
    refine go 1 ?_
    obtain ⟨x27, hx27⟩ : ∃ x, Lv6[Int.toNat (v7 - 1)]? = some x := ⟨_, List.getElem?_eq_getElem (by first | omega | (simp; done) | (simp; omega))⟩
    refine CH.row hτ (d72 x27) (by kernel_rfl) (by kernel_rfl) (by rw [List.getElem?_map, hx27]; rfl) (by kernel_rfl) ?_
    refine go 4 ?_
    refine ek ⟨[(0, lV (l.map d72)), (3, .pt 64 0 0), (6, rV 272), (7, iV v7), (37, bV (decide ((x27.f0 : Int) > b.f0)))], [(64, some (.box (cD (d72 b)))), (272, some (.row 14 72 (Lv6.map d72) false true))], 576⟩ ?_
    refine if_ (b := decide ((x27.f0 : Int) > b.f0)) (fun hb28 => ?_) (fun hb28 => ?_)
    ·replace hb28 := of_decide_eq_true (hb28)
     refine X.skip ?_
     refine X.block ?_
     refine X.seq (rs 3 ?_)
     refine CH.alt 40 (sV (.int .i64 (wrap64 (v7 - 1)))) (sV (.int .i64 ((v7 - 1)))) (by kernel_rfl) (by rw [w64 (n := (v7 - 1)) (by omega) (by omega)]) ?_
     refine CH.idxR hτ (rows := (Lv6.map d72)) (n := (v7 - 1)) (b := 272) (by kernel_rfl) (by kernel_rfl) (by first | omega | (simp; done) | (simp; omega)) (by simp only [List.length_map, List.length_set]; first | omega | (simp; done) | (simp; omega)) (by kernel_rfl) ?_
     refine CH.row hτ (d72 x27) (by kernel_rfl) (by kernel_rfl) (by rw [List.getElem?_map, hx27]; rfl) (by kernel_rfl) ?_
     refine go 2 ?_
     refine ek ⟨[(0, lV (l.map d72)), (3, .pt 64 0 0), (6, rV 272), (7, iV v7), (8, .pt 656 0 0)], [(64, some (.box (cD (d72 b)))), (272, some (.row 14 72 (Lv6.map d72) false true)), (656, some (.box (cF (d72 x27))))], 688⟩ ?_
     refine X.seq (rs 5 ?_)
     refine CH.idxR hτ (rows := (Lv6.map d72)) (n := v7) (b := 272) (by kernel_rfl) (by kernel_rfl) (by first | omega | (simp; done) | (simp; omega)) (by simp only [List.length_map, List.length_set]; first | omega | (simp; done) | (simp; omega)) (by kernel_rfl) ?_
     obtain ⟨x29, hx29⟩ : ∃ x, Lv6[Int.toNat v7]? = some x := ⟨_, List.getElem?_eq_getElem (by first | omega | (simp; done) | (simp; omega))⟩
     refine CH.row hτ (d72 x29) (by kernel_rfl) (by kernel_rfl) (by rw [List.getElem?_map, hx29]; rfl) (by kernel_rfl) ?_
     refine CH.alt 45 (sV (.int .i64 (wrap64 (v7 - 1)))) (sV (.int .i64 ((v7 - 1)))) (by kernel_rfl) (by rw [w64 (n := (v7 - 1)) (by omega) (by omega)]) ?_
     refine CH.idxR hτ (rows := (Lv6.map d72)) (n := (v7 - 1)) (b := 272) (by kernel_rfl) (by kernel_rfl) (by first | omega | (simp; done) | (simp; omega)) (by simp only [List.length_map, List.length_set]; first | omega | (simp; done) | (simp; omega)) (by kernel_rfl) ?_
     refine CH.row hτ (d72 x27) (by kernel_rfl) (by kernel_rfl) (by rw [List.getElem?_map, hx27]; rfl) (by kernel_rfl) ?_
     refine CH.endk ⟨[(0, lV (l.map d72)), (3, .pt 64 0 0), (6, rV 272), (7, iV v7), (8, .pt 656 0 0)], [(64, some (.box (cD (d72 b)))), (272, some (.row 14 72 ((Lv6.map d72).set (Int.toNat (v7 - 1)) (d72 x29)) false true)), (656, some (.box (cF (d72 x27))))], 832⟩ (by kernel_rfl) (by kernel_rfl) (s2 := ⟨[(0, lV (l.map d72)), (3, .pt 64 0 0), (6, rV 272), (7, iV v7), (8, .pt 656 0 0)], [(64, some (.box (cD (d72 b)))), (272, some (.row 14 72 ((Lv6.set (Int.toNat (v7 - 1)) x29).map d72) false true)), (656, some (.box (cF (d72 x27))))], 832⟩) (congrArg (fun z : List (List D) => (⟨[(0, lV (l.map d72)), (3, .pt 64 0 0), (6, rV 272), (7, iV v7), (8, .pt 656 0 0)], [(64, some (.box (cD (d72 b)))), (272, some (.row 14 72 z false true)), (656, some (.box (cF (d72 x27))))], 832⟩ : St)) (show ((Lv6.map d72).set (Int.toNat (v7 - 1)) (d72 x29)) = ((Lv6.set (Int.toNat (v7 - 1)) x29).map d72) from List.map_set.symm)) ?_
     refine X.seq (rs 3 ?_)
     refine CH.idxR hτ (rows := ((Lv6.set (Int.toNat (v7 - 1)) x29).map d72)) (n := v7) (b := 272) (by kernel_rfl) (by kernel_rfl) (by first | omega | (simp; done) | (simp; omega)) (by simp only [List.length_map, List.length_set]; first | omega | (simp; done) | (simp; omega)) (by kernel_rfl) ?_
     obtain ⟨x30, hx30⟩ : ∃ x, (Lv6.set (Int.toNat (v7 - 1)) x29)[Int.toNat v7]? = some x := ⟨_, List.getElem?_eq_getElem (by first | omega | (simp; done) | (simp; omega))⟩
     refine CH.row hτ (d72 x30) (by kernel_rfl) (by kernel_rfl) (by rw [List.getElem?_map, hx30]; rfl) (by kernel_rfl) ?_
     refine CH.endk ⟨[(0, lV (l.map d72)), (3, .pt 64 0 0), (6, rV 272), (7, iV v7)], [(64, some (.box (cD (d72 b)))), (272, some (.row 14 72 (((Lv6.set (Int.toNat (v7 - 1)) x29).map d72).set (Int.toNat v7) (d72 x27)) false true))], 912⟩ (by kernel_rfl) (by kernel_rfl) (s2 := ⟨[(0, lV (l.map d72)), (3, .pt 64 0 0), (6, rV 272), (7, iV v7)], [(64, some (.box (cD (d72 b)))), (272, some (.row 14 72 (((Lv6.set (Int.toNat (v7 - 1)) x29).set (Int.toNat v7) x27).map d72) false true))], 912⟩) (congrArg (fun z : List (List D) => (⟨[(0, lV (l.map d72)), (3, .pt 64 0 0), (6, rV 272), (7, iV v7)], [(64, some (.box (cD (d72 b)))), (272, some (.row 14 72 z false true))], 912⟩ : St)) (show (((Lv6.set (Int.toNat (v7 - 1)) x29).map d72).set (Int.toNat v7) (d72 x27)) = (((Lv6.set (Int.toNat (v7 - 1)) x29).set (Int.toNat v7) x27).map d72) from List.map_set.symm)) ?_
     refine X.rk ⟨[(0, lV (l.map d72)), (3, .pt 64 0 0), (6, rV 272), (7, iV (wrap64 (v7 - 1)))], [(64, some (.box (cD (d72 b)))), (272, some (.row 14 72 (((Lv6.set (Int.toNat (v7 - 1)) x29).set (Int.toNat v7) x27).map d72) false true))], 960⟩ hτ hmix (by kernel_rfl) (by kernel_rfl) (s2 := ⟨[(0, lV (l.map d72)), (3, .pt 64 0 0), (6, rV 272), (7, iV (v7 - 1))], [(64, some (.box (cD (d72 b)))), (272, some (.row 14 72 (((Lv6.set (Int.toNat (v7 - 1)) x29).set (Int.toNat v7) x27).map d72) false true))], 960⟩) (congrArg (fun z : Int => (⟨[(0, lV (l.map d72)), (3, .pt 64 0 0), (6, rV 272), (7, iV z)], [(64, some (.box (cD (d72 b)))), (272, some (.row 14 72 (((Lv6.set (Int.toNat (v7 - 1)) x29).set (Int.toNat v7) x27).map d72) false true))], 960⟩ : St)) (show wrap64 (v7 - 1) = (v7 - 1) by rw [w64 (n := (v7 - 1)) (by omega) (by omega)])) ?_
     refine ⟨⟨(((Lv6.set (Int.toNat (v7 - 1)) x29).set (Int.toNat v7) x27), (v7 - 1)), ⟨by first | omega | (dsimp only; omega), by first | omega | (dsimp only; omega), bub_next (by first | omega | (dsimp only; omega)) (by first | omega | (dsimp only; omega)) hE ‹_› ‹_›, bub_gt (by first | omega | (dsimp only; omega)) (by first | omega | (dsimp only; omega)) hE hG ‹_› ‹_›, by simp; omega, all_set (all_set hA (all_at hA ‹_›)) (all_at hA ‹_›)⟩⟩, by first | exact rfl | omega | (dsimp only; omega) | (simp only [List.length_append, List.length_cons, List.length_nil, List.length_set]; omega) | (simp; done) | (simp; omega), Wk.mk' [(64, 64), (272, 272)] (by kernel_rfl) (by kernel_rfl) (by kernel_rfl)⟩
    ·replace hb28 := of_decide_eq_false (hb28)
     refine X.exit ?_
     refine X.seq ?_
     refine X.seq (rs 1 ?_)
     obtain ⟨r31, hr33, hf32⟩ := s_TreeOk Lv6 (by exact ⟨by omega, fun x hx => (hA x hx).1⟩)
     replace hr33 := hr33.symm; subst hr33
     refine ca hf32 Try.func66 ?_
     refine go 1 ?_
     refine ek ⟨[(0, lV (l.map d72)), (6, rV 272), (59, bV (!(treeOk Lv6)))], [(272, some (.row 14 72 (Lv6.map d72) false true))], 624⟩ ?_
     refine if_ (b := !(treeOk Lv6)) (fun hb35 => ?_) (fun hb35 => ?_)
     ·replace hb35 := bnot_yes (hb35)
      refine X.seq (rs 1 ?_)
      obtain ⟨r36, hr38, hf37⟩ := s_l10Copy l (by assumption)
      replace hr38 := hr38.symm; subst hr38
      refine ca hf37 Try.func64 ?_
      refine go 2 ?_
      refine ek ⟨[(4, rV 640), (5, bV false)], [(640, some (.row 14 72 (l.map d72) false true))], 688⟩ ?_
      refine X.ret ?_
      exact ⟨trivial, _, _, ⟨l, false, (by first | exact ⟨by omega, fun x hx => ⟨hl.2 x hx, .inl hx⟩, (fun h => by cases h), addOk_id ‹_›, (fun h => by cases h), fun _ => rfl⟩ | exact ⟨by omega, fun x hx => ⟨hl.2 x hx, .inl hx⟩, (fun h => by cases h), addOk_no (by omega) (by omega) hE hG (.inl ‹_›) ‹_›, (fun h => by cases h), fun _ => rfl⟩ | exact ⟨by omega, fun x hx => ⟨hl.2 x hx, .inl hx⟩, (fun h => by cases h), addOk_no (by omega) (by omega) hE hG (.inr ⟨_, ‹_›, ‹_›⟩) ‹_›, (fun h => by cases h), fun _ => rfl⟩ | exact (have q := addOk_yes ‹_› (by omega) hE ‹_›; ⟨by omega, hA, fun _ => ‹_›, q.1, fun _ => q.2, fun h => by cases h⟩)), rfl, rfl⟩, .inl (Ret.mk' [(64, 640)] (by kernel_rfl) (by kernel_rfl) (by kernel_rfl))⟩
     ·replace hb35 := bnot_no (hb35)
      refine X.skip ?_
      refine sk ⟨[(4, rV 272), (5, bV true)], [(272, some (.row 14 72 (Lv6.map d72) false true))], 672⟩ ?_
      refine X.ret ?_
      exact ⟨trivial, _, _, ⟨Lv6, true, (by first | exact ⟨by omega, fun x hx => ⟨hl.2 x hx, .inl hx⟩, (fun h => by cases h), addOk_id ‹_›, (fun h => by cases h), fun _ => rfl⟩ | exact ⟨by omega, fun x hx => ⟨hl.2 x hx, .inl hx⟩, (fun h => by cases h), addOk_no (by omega) (by omega) hE hG (.inl ‹_›) ‹_›, (fun h => by cases h), fun _ => rfl⟩ | exact ⟨by omega, fun x hx => ⟨hl.2 x hx, .inl hx⟩, (fun h => by cases h), addOk_no (by omega) (by omega) hE hG (.inr ⟨_, ‹_›, ‹_›⟩) ‹_›, (fun h => by cases h), fun _ => rfl⟩ | exact (have q := addOk_yes ‹_› (by omega) hE ‹_›; ⟨by omega, hA, fun _ => ‹_›, q.1, fun _ => q.2, fun h => by cases h⟩)), rfl, rfl⟩, .inl (Ret.mk' [(64, 272)] (by kernel_rfl) (by kernel_rfl) (by kernel_rfl))⟩
   ·refine aF 26 hb26 ?_
    refine aF 27 hb26 ?_
    replace hb26 := of_decide_eq_false (hb26)
    refine go 10 ?_
    refine ek ⟨[(0, lV (l.map d72)), (3, .pt 64 0 0), (6, rV 272), (7, iV v7), (37, bV false)], [(64, some (.box (cD (d72 b)))), (272, some (.row 14 72 (Lv6.map d72) false true))], 576⟩ ?_
    refine X.ifF (by kernel_rfl) ?_
    refine X.exit ?_
    refine X.seq ?_
    refine X.seq (rs 1 ?_)
    obtain ⟨r40, hr42, hf41⟩ := s_TreeOk Lv6 (by exact ⟨by omega, fun x hx => (hA x hx).1⟩)
    replace hr42 := hr42.symm; subst hr42
    refine ca hf41 Try.func66 ?_
    refine go 1 ?_
    refine ek ⟨[(0, lV (l.map d72)), (6, rV 272), (59, bV (!(treeOk Lv6)))], [(272, some (.row 14 72 (Lv6.map d72) false true))], 624⟩ ?_
    refine if_ (b := !(treeOk Lv6)) (fun hb44 => ?_) (fun hb44 => ?_)
    ·replace hb44 := bnot_yes (hb44)
     refine X.seq (rs 1 ?_)
     obtain ⟨r45, hr47, hf46⟩ := s_l10Copy l (by assumption)
     replace hr47 := hr47.symm; subst hr47
     refine ca hf46 Try.func64 ?_
     refine go 2 ?_
     refine ek ⟨[(4, rV 640), (5, bV false)], [(640, some (.row 14 72 (l.map d72) false true))], 688⟩ ?_
     refine X.ret ?_
     exact ⟨trivial, _, _, ⟨l, false, (by first | exact ⟨by omega, fun x hx => ⟨hl.2 x hx, .inl hx⟩, (fun h => by cases h), addOk_id ‹_›, (fun h => by cases h), fun _ => rfl⟩ | exact ⟨by omega, fun x hx => ⟨hl.2 x hx, .inl hx⟩, (fun h => by cases h), addOk_no (by omega) (by omega) hE hG (.inl ‹_›) ‹_›, (fun h => by cases h), fun _ => rfl⟩ | exact ⟨by omega, fun x hx => ⟨hl.2 x hx, .inl hx⟩, (fun h => by cases h), addOk_no (by omega) (by omega) hE hG (.inr ⟨_, ‹_›, ‹_›⟩) ‹_›, (fun h => by cases h), fun _ => rfl⟩ | exact (have q := addOk_yes ‹_› (by omega) hE ‹_›; ⟨by omega, hA, fun _ => ‹_›, q.1, fun _ => q.2, fun h => by cases h⟩)), rfl, rfl⟩, .inl (Ret.mk' [(64, 640)] (by kernel_rfl) (by kernel_rfl) (by kernel_rfl))⟩
    ·replace hb44 := bnot_no (hb44)
     refine X.skip ?_
     refine sk ⟨[(4, rV 272), (5, bV true)], [(272, some (.row 14 72 (Lv6.map d72) false true))], 672⟩ ?_
     refine X.ret ?_
     exact ⟨trivial, _, _, ⟨Lv6, true, (by first | exact ⟨by omega, fun x hx => ⟨hl.2 x hx, .inl hx⟩, (fun h => by cases h), addOk_id ‹_›, (fun h => by cases h), fun _ => rfl⟩ | exact ⟨by omega, fun x hx => ⟨hl.2 x hx, .inl hx⟩, (fun h => by cases h), addOk_no (by omega) (by omega) hE hG (.inl ‹_›) ‹_›, (fun h => by cases h), fun _ => rfl⟩ | exact ⟨by omega, fun x hx => ⟨hl.2 x hx, .inl hx⟩, (fun h => by cases h), addOk_no (by omega) (by omega) hE hG (.inr ⟨_, ‹_›, ‹_›⟩) ‹_›, (fun h => by cases h), fun _ => rfl⟩ | exact (have q := addOk_yes ‹_› (by omega) hE ‹_›; ⟨by omega, hA, fun _ => ‹_›, q.1, fun _ => q.2, fun h => by cases h⟩)), rfl, rfl⟩, .inl (Ret.mk' [(64, 272)] (by kernel_rfl) (by kernel_rfl) (by kernel_rfl))⟩
 obtain ⟨_, _, ⟨r0, r1, h1_, rfl, rfl⟩, hf⟩ := key
 exact ⟨r0, r1, h1_, hf⟩
end Go.Proofs.Ytggmeldoecnkaaa.Av
