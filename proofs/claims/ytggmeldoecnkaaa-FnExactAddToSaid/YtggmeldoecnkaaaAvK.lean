/-
What functions of the program come to, walked one by one.
Conditions: none beside those that each theorem names.
-/
import Derived.Test.YtggmeldoecnkaaaAvA
set_option linter.unusedVariables false
set_option linter.unusedSimpArgs false
namespace Go.Proofs.Ytggmeldoecnkaaa.Av
open Go.RowKit
set_option maxRecDepth 20000
set_option maxHeartbeats 4000000

def findB (l : List S72) (id : Int) : Option S72 := l.find? (fun b => b.f0 == id)
theorem idAt_neg {l : List S72} {id : Int} (h : idAt l id < 0) : findB l id = none := by
  unfold idAt at h
  unfold findB
  rw [List.find?_eq_none]
  split at h
  · omega
  · rename_i hn
    rw [List.findIdx?_eq_none_iff] at hn
    intro x hx
    simpa using hn x hx
theorem idAt_at {l : List S72} {id : Int} {x : S72} (h : ¬ idAt l id < 0) (hx : l[(idAt l id).toNat]? = some x) : findB l id = some x := by
  unfold idAt at h hx
  unfold findB
  split at h
  · rename_i i hi
    rw [hi] at hx
    rw [List.findIdx?_eq_some_iff_getElem] at hi
    obtain ⟨h1, h2, h3⟩ := hi
    rw [List.find?_eq_some_iff_getElem]
    have hx' : l[i] = x := by
      have : l[((i : Nat) : Int).toNat]? = some x := hx
      simpa [List.getElem?_eq_getElem h1] using this
    subst hx'
    exact ⟨h2, i, h1, rfl, fun j hj => by simpa using h3 j hj⟩
  · omega
theorem idAt_mem {l : List S72} {id : Int} {x : S72} (h : findB l id = some x) : x ∈ l ∧ x.f0 = id := ⟨List.mem_of_find?_eq_some h, by simpa using List.find?_some h⟩
theorem idAt_min {l : List S72} {id : Int} : ∀ (j : Nat) (y : S72), j < (idAt l id).toNat → l[j]? = some y → y.f0 ≠ id := fun j y hj hy => by
  unfold idAt at hj
  split at hj
  · rename_i i hi
    rw [List.findIdx?_eq_some_iff_getElem] at hi
    obtain ⟨h1, h2, h3⟩ := hi
    have hj : j < i := by simpa using hj
    have := h3 j hj
    obtain ⟨q, e⟩ := List.getElem?_eq_some_iff.1 hy
    rw [e] at this
    simpa using this
  · simp at hj
theorem findB_idAt {l : List S72} {t : Int} {p : S72} (h : findB l t = some p) : ∃ k : Nat, idAt l t = k ∧ l[k]? = some p ∧ p.f0 = t := by
  have hb := idAt_bd l t
  by_cases hn : idAt l t < 0
  · rw [idAt_neg hn] at h; cases h
  · have hx : l[(idAt l t).toNat]? = some (l[(idAt l t).toNat]'(by omega)) := List.getElem?_eq_getElem _
    have := idAt_at hn hx
    rw [h] at this
    cases this
    exact ⟨(idAt l t).toNat, by omega, hx, (idAt_mem h).2⟩
def treeR (l : List S72) (i : Int) (x : S72) : Prop := blockOk x = true ∧ (∀ z, l[Int.toNat 0]? = some z → x.f1 = z.f1) ∧ (∀ y, 0 < i → l[(i - 1).toNat]? = some y → y.f0 < x.f0) ∧ (rootQ x.f4 = true ∨ ∃ p, findB l x.f4.f1 = some p ∧ p.f2 = x.f4.f0)
def treeP (l : List S72) : Prop := Upto (treeR l) (fun n => l[n]?) l.length ∧ (l.length : Int) ≤ 400
noncomputable def treeOk (l : List S72) : Bool := @decide (treeP l) (Classical.propDecidable _)
theorem treeOk_iff {l : List S72} : treeOk l = true ↔ treeP l := by simp [treeOk]
theorem tree_at {l : List S72} (h : treeP l) {i : Nat} {x : S72} (hx : l[i]? = some x) : treeR l i x := h.1 i x (by omega) (by have := (List.getElem?_eq_some_iff.1 hx).1; omega) (by simpa using hx)
theorem asc_lt {l : List S72} (h : treeP l) : ∀ (d j : Nat) (a b : S72), l[j]? = some a → l[j + 1 + d]? = some b → a.f0 < b.f0
  | 0, j, a, b, ha, hb => (tree_at h hb).2.2.1 a (by omega) (by rw [show (((j + 1 + 0 : Nat) : Int) - 1).toNat = j by omega]; exact ha)
  | d + 1, j, a, b, ha, hb => by
    have hl := (List.getElem?_eq_some_iff.1 hb).1
    have hc : l[j + 1 + d]? = some (l[j + 1 + d]'(by omega)) := List.getElem?_eq_getElem _
    have h1 := asc_lt h d j a _ ha hc
    have h2 := (tree_at h hb).2.2.1 _ (by omega) (by rw [show (((j + 1 + (d + 1) : Nat) : Int) - 1).toNat = j + 1 + d by omega]; exact hc)
    omega
theorem blk_rng {x : S72} (h : blockOk x = true) : 0 ≤ x.f0 ∧ x.f0 ≤ 100000 := by
  simp only [blockOk, Bool.and_eq_true, inR_iff] at h
  exact h.1
theorem blk_qc {x : S72} (h : blockOk x = true) : rootQ x.f4 = true ∨ 0 ≤ x.f4.f1 ∧ x.f4.f1 < x.f0 := by
  have hr := blk_rng h
  simp only [blockOk, qcForm, Bool.and_eq_true, Bool.or_eq_true, inR_iff] at h
  rcases h.2.2.2.2.1 with h | ⟨_, h2, _⟩
  · exact .inl h
  · rw [show wr .i64 (x.f0 - 1) = x.f0 - 1 from w64 (by omega) (by omega)] at h2
    exact .inr (by omega)
theorem tree_find {l : List S72} (h : treeP l) {i : Nat} {x : S72} (hx : l[i]? = some x) (hr : rootQ x.f4 = false) : ∃ (k : Nat) (p : S72), k < i ∧ idAt l x.f4.f1 = k ∧ l[k]? = some p ∧ p.f0 = x.f4.f1 ∧ p.f2 = x.f4.f0 := by
  have hR := tree_at h hx
  rcases hR.2.2.2 with q | ⟨p, hp, h2⟩
  · rw [hr] at q; cases q
  · obtain ⟨k, e1, e2, e3⟩ := findB_idAt hp
    have hq : x.f4.f1 < x.f0 := by
      rcases blk_qc hR.1 with q | q
      · rw [hr] at q; cases q
      · exact q.2
    refine ⟨k, p, ?_, e1, e2, e3, h2⟩
    rcases Nat.lt_trichotomy k i with q | q | q
    · exact q
    · subst q; rw [hx] at e2; cases e2; omega
    · have := asc_lt h (k - i - 1) i x p hx (by rw [show i + 1 + (k - i - 1) = k by omega]; exact e2)
      omega
theorem take_pass {l : List S72} {n : Nat} {t : Int} (h : ¬ idAt (l.take n) t < 0) : idAt l t = idAt (l.take n) t := by
  have hb := idAt_bd (l.take n) t
  have hk : (idAt (l.take n) t).toNat < (l.take n).length := by omega
  have hx : (l.take n)[(idAt (l.take n) t).toNat]? = some ((l.take n)[(idAt (l.take n) t).toNat]'hk) := List.getElem?_eq_getElem _
  have hm := (idAt_mem (idAt_at h hx)).2
  have hl : l[(idAt (l.take n) t).toNat]? = some ((l.take n)[(idAt (l.take n) t).toNat]'hk) := by
    rw [List.getElem?_take] at hx
    split at hx
    · exact hx
    · cases hx
  refine idAt_yes (by omega) hl hm fun j y hj hy => idAt_min j y hj ?_
  rw [List.getElem?_take, if_pos (by simp at hk; omega)]
  exact hy
theorem take_find {l : List S72} {n k : Nat} {t : Int} {p : S72} (hk : k < n) (hp : l[k]? = some p) (h : p.f0 = t) : ¬ idAt (l.take n) t < 0 := fun hn => by
  have h1 := idAt_neg hn
  unfold findB at h1
  rw [List.find?_eq_none] at h1
  have : p ∈ l.take n := List.mem_of_getElem? (by rw [List.getElem?_take, if_pos hk]; exact hp)
  have := h1 p this
  simp [h] at this
section
variable {l : List S72} {i : Int} {x p : S72}
theorem cut_eq : (l.drop (Int.toNat 0)).take (Int.toNat i - Int.toNat 0) = l.take i.toNat := by simp
theorem tk_no1 (h : treeP l) (h0 : 0 ≤ i) (hx : l[i.toNat]? = some x) (hr : rootQ x.f4 = false) (hn : idAt ((l.drop (Int.toNat 0)).take (Int.toNat i - Int.toNat 0)) x.f4.f1 < 0) : False := by
  rw [cut_eq] at hn
  obtain ⟨k, p, h1, _, h2, h3, _⟩ := tree_find h hx hr
  exact take_find h1 h2 h3 hn
theorem tk_no2 (h : treeP l) (h0 : 0 ≤ i) (hx : l[i.toNat]? = some x) (hr : rootQ x.f4 = false) (hk : ¬ idAt ((l.drop (Int.toNat 0)).take (Int.toNat i - Int.toNat 0)) x.f4.f1 < 0) (hp : l[(idAt ((l.drop (Int.toNat 0)).take (Int.toNat i - Int.toNat 0)) x.f4.f1).toNat]? = some p) (hne : p.f2 ≠ x.f4.f0) : False := by
  rw [cut_eq] at hk hp
  obtain ⟨k, q, h1, h2, h3, _, h5⟩ := tree_find h hx hr
  rw [← take_pass hk, h2] at hp
  have hp : l[k]? = some p := by simpa using hp
  rw [h3] at hp
  cases hp
  exact hne h5
theorem tk_find {t : Int} (hk : ¬ idAt ((l.drop (Int.toNat 0)).take (Int.toNat i - Int.toNat 0)) t < 0) (hp : l[(idAt ((l.drop (Int.toNat 0)).take (Int.toNat i - Int.toNat 0)) t).toNat]? = some p) : findB l t = some p := by
  rw [cut_eq] at hk hp
  have e := take_pass hk
  rw [← e] at hk hp
  exact idAt_at hk hp
theorem ti_no1 (h : treeP l) (hr : rootQ x.f4 = false) (hn : idAt l x.f4.f1 < 0) (hx : l[i.toNat]? = some x) : False := by
  obtain ⟨k, p, h1, h2, _⟩ := tree_find h hx hr
  omega
theorem ti_no2 (h : treeP l) (hr : rootQ x.f4 = false) (hk : ¬ idAt l x.f4.f1 < 0) (hp : l[(idAt l x.f4.f1).toNat]? = some p) (hne : p.f2 ≠ x.f4.f0) (hx : l[i.toNat]? = some x) : False := by
  obtain ⟨k, q, h1, h2, h3, _, h5⟩ := tree_find h hx hr
  rw [h2] at hp
  have hp : l[k]? = some p := by simpa using hp
  rw [h3] at hp
  cases hp
  exact hne h5
end
theorem at_fn {α : Type} {Q : α → Prop} {o : Option α} {x : α} (hx : o = some x) (h : Q x) : ∀ y, o = some y → Q y := fun y hy => by rw [hx] at hy; cases hy; exact h
theorem s_l1In (x : Int) (lo : Int) (hi : Int) : ∃ r0 : Bool, (r0 = inR x lo hi) ∧ Fn Try.prog 146 [iV x, iV lo, iV hi] (lookH []) (bV r0) (lookH []) := by
 have key : ∃ x' h', ((fun x' h' => ∃ r0 : Bool, (r0 = inR x lo hi) ∧ x' = bV r0 ∧ h' = [])) x' h' ∧ Fn Try.prog 146 [iV x, iV lo, iV hi] (lookH []) x' (lookH h') := by
  refine Fn.bodyX (N := 15) hτ Try.func146 rfl rfl rfl rfl ?_
  refine sk ⟨[(0, iV x), (1, iV lo), (2, iV hi)], [], 80⟩ ?_
  refine X.seq (rs 4 ?_)
  rcases Bool.eq_false_or_eq_true (decide ((x : Int) ≥ lo)) with hb1 | hb1
  ·refine aT 9 hb1 ?_
   refine aT 10 hb1 ?_
   replace hb1 := of_decide_eq_true (hb1)
   refine go 5 ?_
   refine ek ⟨[(6, bV (decide ((x : Int) ≤ hi)))], [], 224⟩ ?_
   refine X.ret ?_
   exact ⟨trivial, _, _, ⟨decide ((x : Int) ≤ hi), (by simp [inR, *]), rfl, rfl⟩, mkr⟩
  ·refine aF 9 hb1 ?_
   refine aF 10 hb1 ?_
   replace hb1 := of_decide_eq_false (hb1)
   refine go 5 ?_
   refine ek ⟨[(6, bV false)], [], 224⟩ ?_
   refine X.ret ?_
   exact ⟨trivial, _, _, ⟨false, (by simp [inR, *]), rfl, rfl⟩, mkr⟩
 obtain ⟨_, _, ⟨r0, h1_, rfl, rfl⟩, hf⟩ := key
 exact ⟨r0, h1_, hf⟩

theorem i_inRange (x : Int) (lo : Int) (hi : Int) : ∃ r0 : Bool, (r0 = inR x lo hi) ∧ Fn Try.prog 149 [iV x, iV lo, iV hi] (lookH []) (bV r0) (lookH []) := by
 have key : ∃ x' h', ((fun x' h' => ∃ r0 : Bool, (r0 = inR x lo hi) ∧ x' = bV r0 ∧ h' = [])) x' h' ∧ Fn Try.prog 149 [iV x, iV lo, iV hi] (lookH []) x' (lookH h') := by
  refine Fn.bodyX (N := 15) hτ Try.func149 rfl rfl rfl rfl ?_
  refine sk ⟨[(0, iV x), (1, iV lo), (2, iV hi)], [], 80⟩ ?_
  refine X.seq (rs 4 ?_)
  rcases Bool.eq_false_or_eq_true (decide ((x : Int) ≥ lo)) with hb1 | hb1
  ·refine aT 9 hb1 ?_
   refine aT 10 hb1 ?_
   replace hb1 := of_decide_eq_true (hb1)
   refine go 5 ?_
   refine ek ⟨[(6, bV (decide ((x : Int) ≤ hi)))], [], 224⟩ ?_
   refine X.ret ?_
   exact ⟨trivial, _, _, ⟨decide ((x : Int) ≤ hi), (by simp [inR, *]), rfl, rfl⟩, mkr⟩
  ·refine aF 9 hb1 ?_
   refine aF 10 hb1 ?_
   replace hb1 := of_decide_eq_false (hb1)
   refine go 5 ?_
   refine ek ⟨[(6, bV false)], [], 224⟩ ?_
   refine X.ret ?_
   exact ⟨trivial, _, _, ⟨false, (by simp [inR, *]), rfl, rfl⟩, mkr⟩
 obtain ⟨_, _, ⟨r0, h1_, rfl, rfl⟩, hf⟩ := key
 exact ⟨r0, h1_, hf⟩

theorem s_NameOk (s : ByteArray) (hs : SmS s) : ∃ r0 : Bool, (r0 = nameOk s) ∧ Fn Try.prog 86 [.e (.c (.d (.v (.string s))))] (lookH []) (bV r0) (lookH []) := by
 have key : ∃ x' h', ((fun x' h' => ∃ r0 : Bool, (r0 = nameOk s) ∧ x' = bV r0 ∧ h' = [])) x' h' ∧ Fn Try.prog 86 [.e (.c (.d (.v (.string s))))] (lookH []) x' (lookH h') := by
  refine Fn.bodyX (N := 27) hτ Try.func86 rfl rfl rfl rfl ?_
  refine sk ⟨[(0, .e (.c (.d (.v (.string s)))))], [], 80⟩ ?_
  refine X.seq ?_
  refine sk ⟨[(0, .e (.c (.d (.v (.string s))))), (3, iV 0)], [], 96⟩ ?_
  refine X.block ?_
  -- 2: v3 : Int
  refine X.loop (σ := { g : Int // (fun (v3 : Int) => 0 ≤ v3 ∧ v3 ≤ s.size ∧ Upto (chR) (fun n => s[n]?) v3) g }) (fun g => (fun (v3 : Int) => ⟨[(0, .e (.c (.d (.v (.string s))))), (3, iV v3)], [], 96⟩) g.1) (fun g => (fun (v3 : Int) => (s.size - v3).toNat) g.1) ⟨0, ⟨by first | omega | (dsimp only; omega), by first | omega | (dsimp only; omega), upto_zero⟩⟩ (Wk.less (by kernel_rfl)) (fun g => ?_)
  obtain ⟨v3, hg2⟩ := g
  have hg2 : 0 ≤ v3 ∧ v3 ≤ s.size ∧ Upto (chR) (fun n => s[n]?) v3 := hg2
  obtain ⟨_, _, hA⟩ := hg2
  refine X.seq ?_
  refine X.seq ?_
  have hm : s.size ≤ 2000000 := hs
  refine rk ⟨[(0, .e (.c (.d (.v (.string s))))), (3, iV v3), (7, bV (decide ((v3 : Int) < (s.size : Int))))], [], 160⟩ ?_
  refine if_ (b := decide ((v3 : Int) < (s.size : Int))) (fun hb3 => ?_) (fun hb3 => ?_)
  ·replace hb3 := of_decide_eq_true (hb3)
   refine X.skip ?_
   refine X.seq ?_
   refine X.block ?_
   refine X.seq (rs 2 ?_)
   obtain ⟨b4, hb4⟩ : ∃ b, s[Int.toNat v3]? = some b := ⟨_, getElem?_pos _ _ (by first | omega | (simp; done) | (simp; omega))⟩
   have hw5 := w8 b4
   refine CH.sidx hτ (s := s) (n := v3) b4 (by kernel_rfl) (by kernel_rfl) (by first | omega | (simp; done) | (simp; omega)) hb4 ?_
   refine go 1 ?_
   obtain ⟨r6, hr8, hf7⟩ := s_l1In (wr .i64 ((b4.toNat : Int))) 97 122
   replace hr8 := hr8.symm; subst hr8
   refine ca hf7 Try.func146 ?_
   refine go 2 ?_
   rcases Bool.eq_false_or_eq_true (!(inR (wr .i64 ((b4.toNat : Int))) 97 122)) with hb10 | hb10
   ·refine aT 15 hb10 ?_
    refine aT 16 hb10 ?_
    replace hb10 := inR_no (bnot_yes (hb10))
    refine go 2 ?_
    refine CH.sidx hτ (s := s) (n := v3) b4 (by kernel_rfl) (by kernel_rfl) (by first | omega | (simp; done) | (simp; omega)) hb4 ?_
    refine go 1 ?_
    obtain ⟨r11, hr13, hf12⟩ := s_l1In (wr .i64 ((b4.toNat : Int))) 48 57
    replace hr13 := hr13.symm; subst hr13
    refine ca hf12 Try.func146 ?_
    refine go 2 ?_
    refine ek ⟨[(0, .e (.c (.d (.v (.string s))))), (3, iV v3), (23, bV (!(inR (wr .i64 ((b4.toNat : Int))) 48 57)))], [], 384⟩ ?_
    refine if_ (b := !(inR (wr .i64 ((b4.toNat : Int))) 48 57)) (fun hb15 => ?_) (fun hb15 => ?_)
    ·replace hb15 := inR_no (bnot_yes (hb15))
     refine sk ⟨[(2, bV false)], [], 400⟩ ?_
     refine X.ret ?_
     exact ⟨trivial, _, _, ⟨false, (by first | exact (fls (fun h => upto_no (by omega) (by omega) ‹_› (fun hr => by first | (unfold chR at hr; omega)) h.1)) | exact (dcd (by rw [inR_iff]; exact ⟨fun h => ⟨upto_all hA (by omega), h⟩, fun h => h.2⟩))), rfl, rfl⟩, mkr⟩
    ·replace hb15 := inR_yes (bnot_no (hb15))
     refine X.skip ?_
     refine X.rk ⟨[(0, .e (.c (.d (.v (.string s))))), (3, iV (wrap64 (v3 + 1)))], [], 432⟩ hτ hmix (by kernel_rfl) (by kernel_rfl) (s2 := ⟨[(0, .e (.c (.d (.v (.string s))))), (3, iV (v3 + 1))], [], 432⟩) (congrArg (fun z : Int => (⟨[(0, .e (.c (.d (.v (.string s))))), (3, iV z)], [], 432⟩ : St)) (show wrap64 (v3 + 1) = (v3 + 1) by rw [w64 (n := (v3 + 1)) (by omega) (by omega)])) ?_
     refine ⟨⟨(v3 + 1), ⟨by first | omega | (dsimp only; omega), by first | omega | (dsimp only; omega), upto_nx (by first | omega | (dsimp only; omega)) hA ‹_› (by unfold chR; omega)⟩⟩, by first | exact rfl | omega | (dsimp only; omega) | (simp only [List.length_append, List.length_cons, List.length_nil, List.length_set]; omega) | (simp; done) | (simp; omega), Wk.mk' [] (by kernel_rfl) (by kernel_rfl) (by kernel_rfl)⟩
   ·refine aF 15 hb10 ?_
    refine aF 16 hb10 ?_
    replace hb10 := inR_yes (bnot_no (hb10))
    refine go 7 ?_
    refine ek ⟨[(0, .e (.c (.d (.v (.string s))))), (3, iV v3), (23, bV false)], [], 384⟩ ?_
    refine X.ifF (by kernel_rfl) ?_
    refine X.skip ?_
    refine X.rk ⟨[(0, .e (.c (.d (.v (.string s))))), (3, iV (wrap64 (v3 + 1)))], [], 432⟩ hτ hmix (by kernel_rfl) (by kernel_rfl) (s2 := ⟨[(0, .e (.c (.d (.v (.string s))))), (3, iV (v3 + 1))], [], 432⟩) (congrArg (fun z : Int => (⟨[(0, .e (.c (.d (.v (.string s))))), (3, iV z)], [], 432⟩ : St)) (show wrap64 (v3 + 1) = (v3 + 1) by rw [w64 (n := (v3 + 1)) (by omega) (by omega)])) ?_
    refine ⟨⟨(v3 + 1), ⟨by first | omega | (dsimp only; omega), by first | omega | (dsimp only; omega), upto_nx (by first | omega | (dsimp only; omega)) hA ‹_› (by unfold chR; omega)⟩⟩, by first | exact rfl | omega | (dsimp only; omega) | (simp only [List.length_append, List.length_cons, List.length_nil, List.length_set]; omega) | (simp; done) | (simp; omega), Wk.mk' [] (by kernel_rfl) (by kernel_rfl) (by kernel_rfl)⟩
  ·replace hb3 := of_decide_eq_false (hb3)
   refine X.exit ?_
   refine X.seq (rs 2 ?_)
   obtain ⟨r16, hr18, hf17⟩ := s_l1In (s.size : Int) 1 8
   replace hr18 := hr18.symm; subst hr18
   refine ca hf17 Try.func146 ?_
   refine go 1 ?_
   refine ek ⟨[(2, bV (inR (s.size : Int) 1 8))], [], 224⟩ ?_
   refine X.ret ?_
   exact ⟨trivial, _, _, ⟨(inR (s.size : Int) 1 8), (by first | exact (fls (fun h => upto_no (by omega) (by omega) ‹_› (fun hr => by first | (unfold chR at hr; omega)) h.1)) | exact (dcd (by rw [inR_iff]; exact ⟨fun h => ⟨upto_all hA (by omega), h⟩, fun h => h.2⟩))), rfl, rfl⟩, mkr⟩
 obtain ⟨_, _, ⟨r0, h1_, rfl, rfl⟩, hf⟩ := key
 exact ⟨r0, h1_, hf⟩

theorem i_NameOk (s : ByteArray) (hs : SmS s) : ∃ r0 : Bool, (r0 = nameOk s) ∧ Fn Try.prog 90 [.e (.c (.d (.v (.string s))))] (lookH []) (bV r0) (lookH []) := by
 have key : ∃ x' h', ((fun x' h' => ∃ r0 : Bool, (r0 = nameOk s) ∧ x' = bV r0 ∧ h' = [])) x' h' ∧ Fn Try.prog 90 [.e (.c (.d (.v (.string s))))] (lookH []) x' (lookH h') := by
  refine Fn.bodyX (N := 36) hτ Try.func90 rfl rfl rfl rfl ?_
  refine sk ⟨[(0, .e (.c (.d (.v (.string s)))))], [], 80⟩ ?_
  refine X.seq ?_
  refine sk ⟨[(0, .e (.c (.d (.v (.string s))))), (3, iV 0)], [], 96⟩ ?_
  refine X.block ?_
  -- 2: v3 : Int
  refine X.loop (σ := { g : Int // (fun (v3 : Int) => 0 ≤ v3 ∧ v3 ≤ s.size ∧ Upto (chR) (fun n => s[n]?) v3) g }) (fun g => (fun (v3 : Int) => ⟨[(0, .e (.c (.d (.v (.string s))))), (3, iV v3)], [], 96⟩) g.1) (fun g => (fun (v3 : Int) => (s.size - v3).toNat) g.1) ⟨0, ⟨by first | omega | (dsimp only; omega), by first | omega | (dsimp only; omega), upto_zero⟩⟩ (Wk.less (by kernel_rfl)) (fun g => ?_)
  obtain ⟨v3, hg2⟩ := g
  have hg2 : 0 ≤ v3 ∧ v3 ≤ s.size ∧ Upto (chR) (fun n => s[n]?) v3 := hg2
  obtain ⟨_, _, hA⟩ := hg2
  refine X.seq ?_
  refine X.seq ?_
  have hm : s.size ≤ 2000000 := hs
  refine rk ⟨[(0, .e (.c (.d (.v (.string s))))), (3, iV v3), (7, bV (decide ((v3 : Int) < (s.size : Int))))], [], 160⟩ ?_
  refine if_ (b := decide ((v3 : Int) < (s.size : Int))) (fun hb3 => ?_) (fun hb3 => ?_)
  ·replace hb3 := of_decide_eq_true (hb3)
   refine X.skip ?_
   refine X.seq ?_
   refine X.block ?_
   refine X.seq (rs 2 ?_)
   obtain ⟨b4, hb4⟩ : ∃ b, s[Int.toNat v3]? = some b := ⟨_, getElem?_pos _ _ (by first | omega | (simp; done) | (simp; omega))⟩
   have hw5 := w8 b4
   refine CH.sidx hτ (s := s) (n := v3) b4 (by kernel_rfl) (by kernel_rfl) (by first | omega | (simp; done) | (simp; omega)) hb4 ?_
   refine go 2 ?_
   rcases Bool.eq_false_or_eq_true (decide (((b4.toNat : Int) : Int) ≥ 97)) with hb6 | hb6
   ·refine aT 13 hb6 ?_
    refine aT 14 hb6 ?_
    replace hb6 := of_decide_eq_true (hb6)
    refine go 2 ?_
    refine CH.sidx hτ (s := s) (n := v3) b4 (by kernel_rfl) (by kernel_rfl) (by first | omega | (simp; done) | (simp; omega)) hb4 ?_
    refine go 3 ?_
    rcases Bool.eq_false_or_eq_true (decide (((b4.toNat : Int) : Int) ≤ 122)) with hb7 | hb7
    ·refine aT 18 hb7 ?_
     refine aT 19 hb7 ?_
     refine aT 20 hb7 ?_
     replace hb7 := of_decide_eq_true (hb7)
     refine go 12 ?_
     refine ek ⟨[(0, .e (.c (.d (.v (.string s))))), (3, iV v3), (32, bV false)], [], 528⟩ ?_
     refine X.ifF (by kernel_rfl) ?_
     refine X.skip ?_
     refine X.rk ⟨[(0, .e (.c (.d (.v (.string s))))), (3, iV (wrap64 (v3 + 1)))], [], 576⟩ hτ hmix (by kernel_rfl) (by kernel_rfl) (s2 := ⟨[(0, .e (.c (.d (.v (.string s))))), (3, iV (v3 + 1))], [], 576⟩) (congrArg (fun z : Int => (⟨[(0, .e (.c (.d (.v (.string s))))), (3, iV z)], [], 576⟩ : St)) (show wrap64 (v3 + 1) = (v3 + 1) by rw [w64 (n := (v3 + 1)) (by omega) (by omega)])) ?_
     refine ⟨⟨(v3 + 1), ⟨by first | omega | (dsimp only; omega), by first | omega | (dsimp only; omega), upto_nx (by first | omega | (dsimp only; omega)) hA ‹_› (by unfold chR; omega)⟩⟩, by first | exact rfl | omega | (dsimp only; omega) | (simp only [List.length_append, List.length_cons, List.length_nil, List.length_set]; omega) | (simp; done) | (simp; omega), Wk.mk' [] (by kernel_rfl) (by kernel_rfl) (by kernel_rfl)⟩
    ·refine aF 18 hb7 ?_
     refine aF 19 hb7 ?_
     refine aF 20 hb7 ?_
     replace hb7 := of_decide_eq_false (hb7)
     refine go 2 ?_
     refine CH.sidx hτ (s := s) (n := v3) b4 (by kernel_rfl) (by kernel_rfl) (by first | omega | (simp; done) | (simp; omega)) hb4 ?_
     refine go 2 ?_
     rcases Bool.eq_false_or_eq_true (decide (((b4.toNat : Int) : Int) ≥ 48)) with hb8 | hb8
     ·refine aT 24 hb8 ?_
      refine aT 25 hb8 ?_
      replace hb8 := of_decide_eq_true (hb8)
      refine go 2 ?_
      refine CH.sidx hτ (s := s) (n := v3) b4 (by kernel_rfl) (by kernel_rfl) (by first | omega | (simp; done) | (simp; omega)) hb4 ?_
      refine go 4 ?_
      refine ek ⟨[(0, .e (.c (.d (.v (.string s))))), (3, iV v3), (32, bV (!(decide (((b4.toNat : Int) : Int) ≤ 57))))], [], 528⟩ ?_
      refine if_ (b := !(decide (((b4.toNat : Int) : Int) ≤ 57))) (fun hb9 => ?_) (fun hb9 => ?_)
      ·replace hb9 := of_decide_eq_false (bnot_yes (hb9))
       refine sk ⟨[(2, bV false)], [], 544⟩ ?_
       refine X.ret ?_
       exact ⟨trivial, _, _, ⟨false, (by first | exact (fls (fun h => upto_no (by omega) (by omega) ‹_› (fun hr => by first | (unfold chR at hr; omega)) h.1)) | exact (dcd (by rw [inR_iff]; exact ⟨fun h => ⟨upto_all hA (by omega), h⟩, fun h => h.2⟩))), rfl, rfl⟩, mkr⟩
      ·replace hb9 := of_decide_eq_true (bnot_no (hb9))
       refine X.skip ?_
       refine X.rk ⟨[(0, .e (.c (.d (.v (.string s))))), (3, iV (wrap64 (v3 + 1)))], [], 576⟩ hτ hmix (by kernel_rfl) (by kernel_rfl) (s2 := ⟨[(0, .e (.c (.d (.v (.string s))))), (3, iV (v3 + 1))], [], 576⟩) (congrArg (fun z : Int => (⟨[(0, .e (.c (.d (.v (.string s))))), (3, iV z)], [], 576⟩ : St)) (show wrap64 (v3 + 1) = (v3 + 1) by rw [w64 (n := (v3 + 1)) (by omega) (by omega)])) ?_
       refine ⟨⟨(v3 + 1), ⟨by first | omega | (dsimp only; omega), by first | omega | (dsimp only; omega), upto_nx (by first | omega | (dsimp only; omega)) hA ‹_› (by unfold chR; omega)⟩⟩, by first | exact rfl | omega | (dsimp only; omega) | (simp only [List.length_append, List.length_cons, List.length_nil, List.length_set]; omega) | (simp; done) | (simp; omega), Wk.mk' [] (by kernel_rfl) (by kernel_rfl) (by kernel_rfl)⟩
     ·refine aF 24 hb8 ?_
      refine aF 25 hb8 ?_
      replace hb8 := of_decide_eq_false (hb8)
      refine go 7 ?_
      refine ek ⟨[(0, .e (.c (.d (.v (.string s))))), (3, iV v3), (32, bV true)], [], 528⟩ ?_
      refine X.ifT (by kernel_rfl) ?_
      refine sk ⟨[(2, bV false)], [], 544⟩ ?_
      refine X.ret ?_
      exact ⟨trivial, _, _, ⟨false, (by first | exact (fls (fun h => upto_no (by omega) (by omega) ‹_› (fun hr => by first | (unfold chR at hr; omega)) h.1)) | exact (dcd (by rw [inR_iff]; exact ⟨fun h => ⟨upto_all hA (by omega), h⟩, fun h => h.2⟩))), rfl, rfl⟩, mkr⟩
   ·refine aF 13 hb6 ?_
    refine aF 14 hb6 ?_
    replace hb6 := of_decide_eq_false (hb6)
    refine go 8 ?_
    refine CH.sidx hτ (s := s) (n := v3) b4 (by kernel_rfl) (by kernel_rfl) (by first | omega | (simp; done) | (simp; omega)) hb4 ?_
    refine go 2 ?_
    rcases Bool.eq_false_or_eq_true (decide (((b4.toNat : Int) : Int) ≥ 48)) with hb10 | hb10
    ·refine aT 24 hb10 ?_
     refine aT 25 hb10 ?_
     replace hb10 := of_decide_eq_true (hb10)
     refine go 2 ?_
     refine CH.sidx hτ (s := s) (n := v3) b4 (by kernel_rfl) (by kernel_rfl) (by first | omega | (simp; done) | (simp; omega)) hb4 ?_
     refine go 4 ?_
     refine ek ⟨[(0, .e (.c (.d (.v (.string s))))), (3, iV v3), (32, bV (!(decide (((b4.toNat : Int) : Int) ≤ 57))))], [], 528⟩ ?_
     refine if_ (b := !(decide (((b4.toNat : Int) : Int) ≤ 57))) (fun hb11 => ?_) (fun hb11 => ?_)
     ·replace hb11 := of_decide_eq_false (bnot_yes (hb11))
      refine sk ⟨[(2, bV false)], [], 544⟩ ?_
      refine X.ret ?_
      exact ⟨trivial, _, _, ⟨false, (by first | exact (fls (fun h => upto_no (by omega) (by omega) ‹_› (fun hr => by first | (unfold chR at hr; omega)) h.1)) | exact (dcd (by rw [inR_iff]; exact ⟨fun h => ⟨upto_all hA (by omega), h⟩, fun h => h.2⟩))), rfl, rfl⟩, mkr⟩
     ·replace hb11 := of_decide_eq_true (bnot_no (hb11))
      refine X.skip ?_
      refine X.rk ⟨[(0, .e (.c (.d (.v (.string s))))), (3, iV (wrap64 (v3 + 1)))], [], 576⟩ hτ hmix (by kernel_rfl) (by kernel_rfl) (s2 := ⟨[(0, .e (.c (.d (.v (.string s))))), (3, iV (v3 + 1))], [], 576⟩) (congrArg (fun z : Int => (⟨[(0, .e (.c (.d (.v (.string s))))), (3, iV z)], [], 576⟩ : St)) (show wrap64 (v3 + 1) = (v3 + 1) by rw [w64 (n := (v3 + 1)) (by omega) (by omega)])) ?_
      refine ⟨⟨(v3 + 1), ⟨by first | omega | (dsimp only; omega), by first | omega | (dsimp only; omega), upto_nx (by first | omega | (dsimp only; omega)) hA ‹_› (by unfold chR; omega)⟩⟩, by first | exact rfl | omega | (dsimp only; omega) | (simp only [List.length_append, List.length_cons, List.length_nil, List.length_set]; omega) | (simp; done) | (simp; omega), Wk.mk' [] (by kernel_rfl) (by kernel_rfl) (by kernel_rfl)⟩
    ·refine aF 24 hb10 ?_
     refine aF 25 hb10 ?_
     replace hb10 := of_decide_eq_false (hb10)
     refine go 7 ?_
     refine ek ⟨[(0, .e (.c (.d (.v (.string s))))), (3, iV v3), (32, bV true)], [], 528⟩ ?_
     refine X.ifT (by kernel_rfl) ?_
     refine sk ⟨[(2, bV false)], [], 544⟩ ?_
     refine X.ret ?_
     exact ⟨trivial, _, _, ⟨false, (by first | exact (fls (fun h => upto_no (by omega) (by omega) ‹_› (fun hr => by first | (unfold chR at hr; omega)) h.1)) | exact (dcd (by rw [inR_iff]; exact ⟨fun h => ⟨upto_all hA (by omega), h⟩, fun h => h.2⟩))), rfl, rfl⟩, mkr⟩
  ·replace hb3 := of_decide_eq_false (hb3)
   refine X.exit ?_
   refine X.seq (rs 2 ?_)
   obtain ⟨r12, hr14, hf13⟩ := i_inRange (s.size : Int) 1 8
   replace hr14 := hr14.symm; subst hr14
   refine ca hf13 Try.func149 ?_
   refine go 1 ?_
   refine ek ⟨[(2, bV (inR (s.size : Int) 1 8))], [], 224⟩ ?_
   refine X.ret ?_
   exact ⟨trivial, _, _, ⟨(inR (s.size : Int) 1 8), (by first | exact (fls (fun h => upto_no (by omega) (by omega) ‹_› (fun hr => by first | (unfold chR at hr; omega)) h.1)) | exact (dcd (by rw [inR_iff]; exact ⟨fun h => ⟨upto_all hA (by omega), h⟩, fun h => h.2⟩))), rfl, rfl⟩, mkr⟩
 obtain ⟨_, _, ⟨r0, h1_, rfl, rfl⟩, hf⟩ := key
 exact ⟨r0, h1_, hf⟩

theorem s_NamesOk (l : List ByteArray) (hl : SmN l) : ∃ r0 : Bool, (r0 = namesOk l) ∧ Fn Try.prog 193 [lV (l.map dS)] (lookH []) (bV r0) (lookH []) := by
 have key : ∃ x' h', ((fun x' h' => ∃ r0 : Bool, (r0 = namesOk l) ∧ x' = bV r0 ∧ h' = [])) x' h' ∧ Fn Try.prog 193 [lV (l.map dS)] (lookH []) x' (lookH h') := by
  refine Fn.bodyX (N := 35) hτ Try.func193 rfl rfl rfl rfl ?_
  refine sk ⟨[(0, lV (l.map dS))], [], 80⟩ ?_
  refine X.seq ?_
  refine sk ⟨[(0, lV (l.map dS)), (3, iV 0)], [], 96⟩ ?_
  refine X.block ?_
  -- 2: v3 : Int
  refine X.loop (σ := { g : Int // (fun (v3 : Int) => 0 ≤ v3 ∧ v3 ≤ l.length ∧ Upto (namesR l) (fun n => l[n]?) v3) g }) (fun g => (fun (v3 : Int) => ⟨[(0, lV (l.map dS)), (3, iV v3)], [], 96⟩) g.1) (fun g => (fun (v3 : Int) => (l.length - v3).toNat) g.1) ⟨0, ⟨by first | omega | (dsimp only; omega), by first | omega | (dsimp only; omega), upto_zero⟩⟩ (Wk.less (by kernel_rfl)) (fun g => ?_)
  obtain ⟨v3, hg2⟩ := g
  have hg2 : 0 ≤ v3 ∧ v3 ≤ l.length ∧ Upto (namesR l) (fun n => l[n]?) v3 := hg2
  obtain ⟨_, _, hA⟩ := hg2
  refine X.seq ?_
  refine X.seq ?_
  have hm := hl.1
  have el3 : (l.map dS).length = l.length := List.length_map ..
  refine rk ⟨[(0, lV (l.map dS)), (3, iV v3), (7, bV (decide ((v3 : Int) < ((l.map dS).length : Int))))], [], 160⟩ ?_
  refine if_ (b := decide ((v3 : Int) < ((l.map dS).length : Int))) (fun hb4 => ?_) (fun hb4 => ?_)
  ·replace hb4 := of_decide_eq_true (hb4)
   refine X.skip ?_
   refine X.seq ?_
   refine X.block ?_
   refine X.seq (rs 2 ?_)
   obtain ⟨x5, hx5⟩ : ∃ x, l[Int.toNat v3]? = some x := ⟨_, List.getElem?_eq_getElem (by first | omega | (simp; done) | (simp; omega))⟩
   refine CH.idx hτ (dS x5) (rows := (l.map dS)) (n := v3) (sz := 1) (by kernel_rfl) (by kernel_rfl) (by first | omega | (simp; done) | (simp; omega)) (by rw [List.getElem?_map, hx5]; rfl) (by kernel_rfl) ?_
   refine go 1 ?_
   obtain ⟨r6, hr8, hf7⟩ := s_NameOk x5 (by exact all_at hl.2 ‹_›)
   replace hr8 := hr8.symm; subst hr8
   refine ca hf7 Try.func86 ?_
   refine go 2 ?_
   rcases Bool.eq_false_or_eq_true (!(nameOk x5)) with hb10 | hb10
   ·refine aT 15 hb10 ?_
    refine aT 16 hb10 ?_
    replace hb10 := bnot_yes (hb10)
    refine go 15 ?_
    refine ek ⟨[(0, lV (l.map dS)), (3, iV v3), (31, bV true)], [], 512⟩ ?_
    refine X.ifT (by kernel_rfl) ?_
    refine sk ⟨[(2, bV false)], [], 528⟩ ?_
    refine X.ret ?_
    exact ⟨trivial, _, _, ⟨false, (by first | exact (fls (fun h => upto_no (by omega) (by omega) ‹_› (fun hr => by first | exact tf hr.1 ‹_› | exact tf (hr.2 _ (by omega) ‹_›) ‹_›) h.1)) | exact (dcd (by simp only [decide_eq_true_eq, List.length_map]; exact ⟨fun h => ⟨upto_all hA (by omega), by omega⟩, fun h => by have := h.2; omega⟩))), rfl, rfl⟩, mkr⟩
   ·refine aF 15 hb10 ?_
    refine aF 16 hb10 ?_
    replace hb10 := bnot_no (hb10)
    refine go 3 ?_
    rcases Bool.eq_false_or_eq_true (decide ((v3 : Int) > 0)) with hb11 | hb11
    ·refine aT 18 hb11 ?_
     refine aT 19 hb11 ?_
     replace hb11 := of_decide_eq_true (hb11)
     refine go 3 ?_
     obtain ⟨x12, hx12⟩ : ∃ x, l[Int.toNat (v3 - 1)]? = some x := ⟨_, List.getElem?_eq_getElem (by first | omega | (simp; done) | (simp; omega))⟩
     refine CH.alt 22 (sV (.int .i64 (wrap64 (v3 - 1)))) (sV (.int .i64 ((v3 - 1)))) (by kernel_rfl) (by rw [w64 (n := (v3 - 1)) (by omega) (by omega)]) ?_
     refine CH.idx hτ (dS x12) (rows := (l.map dS)) (n := (v3 - 1)) (sz := 1) (by kernel_rfl) (by kernel_rfl) (by first | omega | (simp; done) | (simp; omega)) (by rw [List.getElem?_map, hx12]; rfl) (by kernel_rfl) ?_
     refine go 3 ?_
     refine CH.idx hτ (dS x5) (rows := (l.map dS)) (n := v3) (sz := 1) (by kernel_rfl) (by kernel_rfl) (by first | omega | (simp; done) | (simp; omega)) (by rw [List.getElem?_map, hx5]; rfl) (by kernel_rfl) ?_
     refine go 4 ?_
     refine ek ⟨[(0, lV (l.map dS)), (3, iV v3), (31, bV (!(Op.bytesLess x12.toList x5.toList)))], [], 512⟩ ?_
     refine if_ (b := !(Op.bytesLess x12.toList x5.toList)) (fun hb13 => ?_) (fun hb13 => ?_)
     ·replace hb13 := bnot_yes (hb13)
      refine sk ⟨[(2, bV false)], [], 528⟩ ?_
      refine X.ret ?_
      exact ⟨trivial, _, _, ⟨false, (by first | exact (fls (fun h => upto_no (by omega) (by omega) ‹_› (fun hr => by first | exact tf hr.1 ‹_› | exact tf (hr.2 _ (by omega) ‹_›) ‹_›) h.1)) | exact (dcd (by simp only [decide_eq_true_eq, List.length_map]; exact ⟨fun h => ⟨upto_all hA (by omega), by omega⟩, fun h => by have := h.2; omega⟩))), rfl, rfl⟩, mkr⟩
     ·replace hb13 := bnot_no (hb13)
      refine X.skip ?_
      refine X.rk ⟨[(0, lV (l.map dS)), (3, iV (wrap64 (v3 + 1)))], [], 560⟩ hτ hmix (by kernel_rfl) (by kernel_rfl) (s2 := ⟨[(0, lV (l.map dS)), (3, iV (v3 + 1))], [], 560⟩) (congrArg (fun z : Int => (⟨[(0, lV (l.map dS)), (3, iV z)], [], 560⟩ : St)) (show wrap64 (v3 + 1) = (v3 + 1) by rw [w64 (n := (v3 + 1)) (by omega) (by omega)])) ?_
      refine ⟨⟨(v3 + 1), ⟨by first | omega | (dsimp only; omega), by first | omega | (dsimp only; omega), upto_nx (by first | omega | (dsimp only; omega)) hA ‹_› (⟨‹_›, (by first | exact fun y h0 hy => absurd h0 (by first | omega | (dsimp only; omega)) | exact prev_fn ‹_› ‹_›)⟩)⟩⟩, by first | exact rfl | omega | (dsimp only; omega) | (simp only [List.length_append, List.length_cons, List.length_nil, List.length_set]; omega) | (simp; done) | (simp; omega), Wk.mk' [] (by kernel_rfl) (by kernel_rfl) (by kernel_rfl)⟩
    ·refine aF 18 hb11 ?_
     refine aF 19 hb11 ?_
     replace hb11 := of_decide_eq_false (hb11)
     refine go 12 ?_
     refine ek ⟨[(0, lV (l.map dS)), (3, iV v3), (31, bV false)], [], 512⟩ ?_
     refine X.ifF (by kernel_rfl) ?_
     refine X.skip ?_
     refine X.rk ⟨[(0, lV (l.map dS)), (3, iV (wrap64 (v3 + 1)))], [], 560⟩ hτ hmix (by kernel_rfl) (by kernel_rfl) (s2 := ⟨[(0, lV (l.map dS)), (3, iV (v3 + 1))], [], 560⟩) (congrArg (fun z : Int => (⟨[(0, lV (l.map dS)), (3, iV z)], [], 560⟩ : St)) (show wrap64 (v3 + 1) = (v3 + 1) by rw [w64 (n := (v3 + 1)) (by omega) (by omega)])) ?_
     refine ⟨⟨(v3 + 1), ⟨by first | omega | (dsimp only; omega), by first | omega | (dsimp only; omega), upto_nx (by first | omega | (dsimp only; omega)) hA ‹_› (⟨‹_›, (by first | exact fun y h0 hy => absurd h0 (by first | omega | (dsimp only; omega)) | exact prev_fn ‹_› ‹_›)⟩)⟩⟩, by first | exact rfl | omega | (dsimp only; omega) | (simp only [List.length_append, List.length_cons, List.length_nil, List.length_set]; omega) | (simp; done) | (simp; omega), Wk.mk' [] (by kernel_rfl) (by kernel_rfl) (by kernel_rfl)⟩
  ·replace hb4 := of_decide_eq_false (hb4)
   refine X.exit ?_
   refine sk ⟨[(2, bV (decide ((((l.map dS).length : Int) : Int) ≤ 20)))], [], 224⟩ ?_
   refine X.ret ?_
   exact ⟨trivial, _, _, ⟨decide ((((l.map dS).length : Int) : Int) ≤ 20), (by first | exact (fls (fun h => upto_no (by omega) (by omega) ‹_› (fun hr => by first | exact tf hr.1 ‹_› | exact tf (hr.2 _ (by omega) ‹_›) ‹_›) h.1)) | exact (dcd (by simp only [decide_eq_true_eq, List.length_map]; exact ⟨fun h => ⟨upto_all hA (by omega), by omega⟩, fun h => by have := h.2; omega⟩))), rfl, rfl⟩, mkr⟩
 obtain ⟨_, _, ⟨r0, h1_, rfl, rfl⟩, hf⟩ := key
 exact ⟨r0, h1_, hf⟩

theorem i_NamesOk (l : List ByteArray) (hl : SmN l) : ∃ r0 : Bool, (r0 = namesOk l) ∧ Fn Try.prog 196 [lV (l.map dS)] (lookH []) (bV r0) (lookH []) := by
 have key : ∃ x' h', ((fun x' h' => ∃ r0 : Bool, (r0 = namesOk l) ∧ x' = bV r0 ∧ h' = [])) x' h' ∧ Fn Try.prog 196 [lV (l.map dS)] (lookH []) x' (lookH h') := by
  refine Fn.bodyX (N := 32) hτ Try.func196 rfl rfl rfl rfl ?_
  refine sk ⟨[(0, lV (l.map dS))], [], 80⟩ ?_
  refine X.seq ?_
  refine X.seq ?_
  have el1 : (l.map dS).length = l.length := List.length_map ..
  refine rk ⟨[(0, lV (l.map dS)), (5, lV (l.map dS)), (6, iV ((l.map dS).length : Int)), (7, iV 0)], [], 128⟩ ?_
  refine X.block ?_
  -- 2: v7 : Int
  refine X.loop (σ := { g : Int // (fun (v7 : Int) => 0 ≤ v7 ∧ v7 ≤ l.length ∧ Upto (namesR l) (fun n => l[n]?) v7) g }) (fun g => (fun (v7 : Int) => ⟨[(0, lV (l.map dS)), (5, lV (l.map dS)), (6, iV ((l.map dS).length : Int)), (7, iV v7)], [], 128⟩) g.1) (fun g => (fun (v7 : Int) => (l.length - v7).toNat) g.1) ⟨0, ⟨by first | omega | (dsimp only; omega), by first | omega | (dsimp only; omega), upto_zero⟩⟩ (Wk.less (by kernel_rfl)) (fun g => ?_)
  obtain ⟨v7, hg3⟩ := g
  have hg3 : 0 ≤ v7 ∧ v7 ≤ l.length ∧ Upto (namesR l) (fun n => l[n]?) v7 := hg3
  obtain ⟨_, _, hA⟩ := hg3
  refine X.seq ?_
  have hm := hl.1
  refine rk ⟨[(0, lV (l.map dS)), (5, lV (l.map dS)), (6, iV ((l.map dS).length : Int)), (7, iV v7), (8, bV (decide ((v7 : Int) < ((l.map dS).length : Int))))], [], 144⟩ ?_
  refine X.seq ?_
  refine if_ (b := decide ((v7 : Int) < ((l.map dS).length : Int))) (fun hb4 => ?_) (fun hb4 => ?_)
  ·replace hb4 := of_decide_eq_true (hb4)
   refine X.skip ?_
   refine X.seq ?_
   refine X.block ?_
   refine X.seq (rs 1 ?_)
   obtain ⟨x5, hx5⟩ : ∃ x, l[Int.toNat v7]? = some x := ⟨_, List.getElem?_eq_getElem (by first | omega | (simp; done) | (simp; omega))⟩
   refine CH.idx hτ (dS x5) (rows := (l.map dS)) (n := v7) (sz := 1) (by kernel_rfl) (by kernel_rfl) (by first | omega | (simp; done) | (simp; omega)) (by rw [List.getElem?_map, hx5]; rfl) (by kernel_rfl) ?_
   refine go 3 ?_
   refine ek ⟨[(0, lV (l.map dS)), (3, iV v7), (4, .e (.c (.d (.v (.string x5))))), (5, lV (l.map dS)), (6, iV ((l.map dS).length : Int)), (7, iV v7)], [], 224⟩ ?_
   refine X.seq (rs 1 ?_)
   obtain ⟨r6, hr8, hf7⟩ := i_NameOk x5 (by exact all_at hl.2 ‹_›)
   replace hr8 := hr8.symm; subst hr8
   refine ca hf7 Try.func90 ?_
   refine go 2 ?_
   rcases Bool.eq_false_or_eq_true (!(nameOk x5)) with hb10 | hb10
   ·refine aT 14 hb10 ?_
    refine aT 15 hb10 ?_
    replace hb10 := bnot_yes (hb10)
    refine go 12 ?_
    refine ek ⟨[(0, lV (l.map dS)), (5, lV (l.map dS)), (6, iV ((l.map dS).length : Int)), (7, iV v7), (27, bV true)], [], 480⟩ ?_
    refine X.ifT (by kernel_rfl) ?_
    refine sk ⟨[(2, bV false)], [], 496⟩ ?_
    refine X.ret ?_
    exact ⟨trivial, _, _, ⟨false, (by first | exact (fls (fun h => upto_no (by omega) (by omega) ‹_› (fun hr => by first | exact tf hr.1 ‹_› | exact tf (hr.2 _ (by omega) ‹_›) ‹_›) h.1)) | exact (dcd (by simp only [decide_eq_true_eq, List.length_map]; exact ⟨fun h => ⟨upto_all hA (by omega), by omega⟩, fun h => by have := h.2; omega⟩))), rfl, rfl⟩, mkr⟩
   ·refine aF 14 hb10 ?_
    refine aF 15 hb10 ?_
    replace hb10 := bnot_no (hb10)
    refine go 3 ?_
    rcases Bool.eq_false_or_eq_true (decide ((v7 : Int) > 0)) with hb11 | hb11
    ·refine aT 17 hb11 ?_
     refine aT 18 hb11 ?_
     replace hb11 := of_decide_eq_true (hb11)
     refine go 4 ?_
     obtain ⟨x12, hx12⟩ : ∃ x, l[Int.toNat (v7 - 1)]? = some x := ⟨_, List.getElem?_eq_getElem (by first | omega | (simp; done) | (simp; omega))⟩
     refine CH.alt 22 (sV (.int .i64 (wrap64 (v7 - 1)))) (sV (.int .i64 ((v7 - 1)))) (by kernel_rfl) (by rw [w64 (n := (v7 - 1)) (by omega) (by omega)]) ?_
     refine CH.idx hτ (dS x12) (rows := (l.map dS)) (n := (v7 - 1)) (sz := 1) (by kernel_rfl) (by kernel_rfl) (by first | omega | (simp; done) | (simp; omega)) (by rw [List.getElem?_map, hx12]; rfl) (by kernel_rfl) ?_
     refine go 4 ?_
     refine ek ⟨[(0, lV (l.map dS)), (5, lV (l.map dS)), (6, iV ((l.map dS).length : Int)), (7, iV v7), (27, bV (Op.bytesLess x5.toList x12.toList || x5.toList == x12.toList))], [], 480⟩ ?_
     refine if_ (b := (Op.bytesLess x5.toList x12.toList || x5.toList == x12.toList)) (fun hb13 => ?_) (fun hb13 => ?_)
     ·replace hb13 := leq_yes (hb13)
      refine sk ⟨[(2, bV false)], [], 496⟩ ?_
      refine X.ret ?_
      exact ⟨trivial, _, _, ⟨false, (by first | exact (fls (fun h => upto_no (by omega) (by omega) ‹_› (fun hr => by first | exact tf hr.1 ‹_› | exact tf (hr.2 _ (by omega) ‹_›) ‹_›) h.1)) | exact (dcd (by simp only [decide_eq_true_eq, List.length_map]; exact ⟨fun h => ⟨upto_all hA (by omega), by omega⟩, fun h => by have := h.2; omega⟩))), rfl, rfl⟩, mkr⟩
     ·replace hb13 := leq_no (hb13)
      refine X.skip ?_
      refine X.rk ⟨[(0, lV (l.map dS)), (5, lV (l.map dS)), (6, iV ((l.map dS).length : Int)), (7, iV (wrap64 (v7 + 1)))], [], 512⟩ hτ hmix (by kernel_rfl) (by kernel_rfl) (s2 := ⟨[(0, lV (l.map dS)), (5, lV (l.map dS)), (6, iV ((l.map dS).length : Int)), (7, iV (v7 + 1))], [], 512⟩) (congrArg (fun z : Int => (⟨[(0, lV (l.map dS)), (5, lV (l.map dS)), (6, iV ((l.map dS).length : Int)), (7, iV z)], [], 512⟩ : St)) (show wrap64 (v7 + 1) = (v7 + 1) by rw [w64 (n := (v7 + 1)) (by omega) (by omega)])) ?_
      refine ⟨⟨(v7 + 1), ⟨by first | omega | (dsimp only; omega), by first | omega | (dsimp only; omega), upto_nx (by first | omega | (dsimp only; omega)) hA ‹_› (⟨‹_›, (by first | exact fun y h0 hy => absurd h0 (by first | omega | (dsimp only; omega)) | exact prev_fn ‹_› ‹_›)⟩)⟩⟩, by first | exact rfl | omega | (dsimp only; omega) | (simp only [List.length_append, List.length_cons, List.length_nil, List.length_set]; omega) | (simp; done) | (simp; omega), Wk.mk' [] (by kernel_rfl) (by kernel_rfl) (by kernel_rfl)⟩
    ·refine aF 17 hb11 ?_
     refine aF 18 hb11 ?_
     replace hb11 := of_decide_eq_false (hb11)
     refine go 9 ?_
     refine ek ⟨[(0, lV (l.map dS)), (5, lV (l.map dS)), (6, iV ((l.map dS).length : Int)), (7, iV v7), (27, bV false)], [], 480⟩ ?_
     refine X.ifF (by kernel_rfl) ?_
     refine X.skip ?_
     refine X.rk ⟨[(0, lV (l.map dS)), (5, lV (l.map dS)), (6, iV ((l.map dS).length : Int)), (7, iV (wrap64 (v7 + 1)))], [], 512⟩ hτ hmix (by kernel_rfl) (by kernel_rfl) (s2 := ⟨[(0, lV (l.map dS)), (5, lV (l.map dS)), (6, iV ((l.map dS).length : Int)), (7, iV (v7 + 1))], [], 512⟩) (congrArg (fun z : Int => (⟨[(0, lV (l.map dS)), (5, lV (l.map dS)), (6, iV ((l.map dS).length : Int)), (7, iV z)], [], 512⟩ : St)) (show wrap64 (v7 + 1) = (v7 + 1) by rw [w64 (n := (v7 + 1)) (by omega) (by omega)])) ?_
     refine ⟨⟨(v7 + 1), ⟨by first | omega | (dsimp only; omega), by first | omega | (dsimp only; omega), upto_nx (by first | omega | (dsimp only; omega)) hA ‹_› (⟨‹_›, (by first | exact fun y h0 hy => absurd h0 (by first | omega | (dsimp only; omega)) | exact prev_fn ‹_› ‹_›)⟩)⟩⟩, by first | exact rfl | omega | (dsimp only; omega) | (simp only [List.length_append, List.length_cons, List.length_nil, List.length_set]; omega) | (simp; done) | (simp; omega), Wk.mk' [] (by kernel_rfl) (by kernel_rfl) (by kernel_rfl)⟩
  ·replace hb4 := of_decide_eq_false (hb4)
   refine X.exit ?_
   refine sk ⟨[(2, bV (decide ((((l.map dS).length : Int) : Int) ≤ 20)))], [], 208⟩ ?_
   refine X.ret ?_
   exact ⟨trivial, _, _, ⟨decide ((((l.map dS).length : Int) : Int) ≤ 20), (by first | exact (fls (fun h => upto_no (by omega) (by omega) ‹_› (fun hr => by first | exact tf hr.1 ‹_› | exact tf (hr.2 _ (by omega) ‹_›) ‹_›) h.1)) | exact (dcd (by simp only [decide_eq_true_eq, List.length_map]; exact ⟨fun h => ⟨upto_all hA (by omega), by omega⟩, fun h => by have := h.2; omega⟩))), rfl, rfl⟩, mkr⟩
 obtain ⟨_, _, ⟨r0, h1_, rfl, rfl⟩, hf⟩ := key
 exact ⟨r0, h1_, hf⟩

theorem s_l8Root (q : S68) : ∃ r0 : Bool, (r0 = rootQ q) ∧ Fn Try.prog 130 [.e (.agg (cD (d68 q)))] (lookH []) (bV r0) (lookH []) := by
 have key : ∃ x' h', ((fun x' h' => ∃ r0 : Bool, (r0 = rootQ q) ∧ x' = bV r0 ∧ h' = [])) x' h' ∧ Fn Try.prog 130 [.e (.agg (cD (d68 q)))] (lookH []) x' (lookH h') := by
  refine Fn.bodyX (N := 17) hτ Try.func130 rfl rfl rfl rfl ?_
  refine sk ⟨[(1, .pt 64 0 0)], [(64, some (.box (cD (d68 q))))], 96⟩ ?_
  refine X.seq (rs 4 ?_)
  rcases Bool.eq_false_or_eq_true ((q.f0 == 0)) with hb1 | hb1
  ·refine aT 5 hb1 ?_
   refine aT 6 hb1 ?_
   replace hb1 := eq_of_beq (hb1)
   refine go 5 ?_
   rcases Bool.eq_false_or_eq_true ((q.f1 == (-1))) with hb2 | hb2
   ·refine aT 9 hb2 ?_
    refine aT 10 hb2 ?_
    refine aT 11 hb2 ?_
    replace hb2 := eq_of_beq (hb2)
    refine go 6 ?_
    have el3 : (q.f2.map dS).length = q.f2.length := List.length_map ..
    refine ek ⟨[(2, bV (((q.f2.map dS).length : Int) == 0))], [], 336⟩ ?_
    refine X.ret ?_
    exact ⟨trivial, _, _, ⟨(((q.f2.map dS).length : Int) == 0), (by rw [Bool.eq_iff_iff]; simp only [rootQ, Bool.and_eq_true, Bool.or_eq_true, inR_iff, decide_eq_true_eq, beq_iff_eq, Bool.false_eq_true, false_iff, true_iff, List.length_map]; first | (intro h; omega) | (intro h; simp_all; done) | (simp_all; done) | (simp_all; omega) | (constructor <;> intro h <;> (first | (simp_all; done) | (simp_all; omega) | omega))), rfl, rfl⟩, mkr⟩
   ·refine aF 9 hb2 ?_
    refine aF 10 hb2 ?_
    refine aF 11 hb2 ?_
    replace hb2 := beq_eq_false_iff_ne.1 (hb2)
    refine go 6 ?_
    refine ek ⟨[(2, bV false)], [], 336⟩ ?_
    refine X.ret ?_
    exact ⟨trivial, _, _, ⟨false, (by rw [Bool.eq_iff_iff]; simp only [rootQ, Bool.and_eq_true, Bool.or_eq_true, inR_iff, decide_eq_true_eq, beq_iff_eq, Bool.false_eq_true, false_iff, true_iff, List.length_map]; first | (intro h; omega) | (intro h; simp_all; done) | (simp_all; done) | (simp_all; omega) | (constructor <;> intro h <;> (first | (simp_all; done) | (simp_all; omega) | omega))), rfl, rfl⟩, mkr⟩
  ·refine aF 5 hb1 ?_
   refine aF 6 hb1 ?_
   replace hb1 := beq_eq_false_iff_ne.1 (hb1)
   refine go 11 ?_
   refine ek ⟨[(2, bV false)], [], 336⟩ ?_
   refine X.ret ?_
   exact ⟨trivial, _, _, ⟨false, (by rw [Bool.eq_iff_iff]; simp only [rootQ, Bool.and_eq_true, Bool.or_eq_true, inR_iff, decide_eq_true_eq, beq_iff_eq, Bool.false_eq_true, false_iff, true_iff, List.length_map]; first | (intro h; omega) | (intro h; simp_all; done) | (simp_all; done) | (simp_all; omega) | (constructor <;> intro h <;> (first | (simp_all; done) | (simp_all; omega) | omega))), rfl, rfl⟩, mkr⟩
 obtain ⟨_, _, ⟨r0, h1_, rfl, rfl⟩, hf⟩ := key
 exact ⟨r0, h1_, hf⟩

theorem i_isRoot (q : S68) : ∃ r0 : Bool, (r0 = rootQ q) ∧ Fn Try.prog 143 [.e (.agg (cD (d68 q)))] (lookH []) (bV r0) (lookH []) := by
 have key : ∃ x' h', ((fun x' h' => ∃ r0 : Bool, (r0 = rootQ q) ∧ x' = bV r0 ∧ h' = [])) x' h' ∧ Fn Try.prog 143 [.e (.agg (cD (d68 q)))] (lookH []) x' (lookH h') := by
  refine Fn.bodyX (N := 17) hτ Try.func143 rfl rfl rfl rfl ?_
  refine sk ⟨[(1, .pt 64 0 0)], [(64, some (.box (cD (d68 q))))], 96⟩ ?_
  refine X.seq (rs 4 ?_)
  rcases Bool.eq_false_or_eq_true ((q.f0 == 0)) with hb1 | hb1
  ·refine aT 5 hb1 ?_
   refine aT 6 hb1 ?_
   replace hb1 := eq_of_beq (hb1)
   refine go 5 ?_
   rcases Bool.eq_false_or_eq_true ((q.f1 == (-1))) with hb2 | hb2
   ·refine aT 9 hb2 ?_
    refine aT 10 hb2 ?_
    refine aT 11 hb2 ?_
    replace hb2 := eq_of_beq (hb2)
    refine go 6 ?_
    have el3 : (q.f2.map dS).length = q.f2.length := List.length_map ..
    refine ek ⟨[(2, bV (((q.f2.map dS).length : Int) == 0))], [], 336⟩ ?_
    refine X.ret ?_
    exact ⟨trivial, _, _, ⟨(((q.f2.map dS).length : Int) == 0), (by rw [Bool.eq_iff_iff]; simp only [rootQ, Bool.and_eq_true, Bool.or_eq_true, inR_iff, decide_eq_true_eq, beq_iff_eq, Bool.false_eq_true, false_iff, true_iff, List.length_map]; first | (intro h; omega) | (intro h; simp_all; done) | (simp_all; done) | (simp_all; omega) | (constructor <;> intro h <;> (first | (simp_all; done) | (simp_all; omega) | omega))), rfl, rfl⟩, mkr⟩
   ·refine aF 9 hb2 ?_
    refine aF 10 hb2 ?_
    refine aF 11 hb2 ?_
    replace hb2 := beq_eq_false_iff_ne.1 (hb2)
    refine go 6 ?_
    refine ek ⟨[(2, bV false)], [], 336⟩ ?_
    refine X.ret ?_
    exact ⟨trivial, _, _, ⟨false, (by rw [Bool.eq_iff_iff]; simp only [rootQ, Bool.and_eq_true, Bool.or_eq_true, inR_iff, decide_eq_true_eq, beq_iff_eq, Bool.false_eq_true, false_iff, true_iff, List.length_map]; first | (intro h; omega) | (intro h; simp_all; done) | (simp_all; done) | (simp_all; omega) | (constructor <;> intro h <;> (first | (simp_all; done) | (simp_all; omega) | omega))), rfl, rfl⟩, mkr⟩
  ·refine aF 5 hb1 ?_
   refine aF 6 hb1 ?_
   replace hb1 := beq_eq_false_iff_ne.1 (hb1)
   refine go 11 ?_
   refine ek ⟨[(2, bV false)], [], 336⟩ ?_
   refine X.ret ?_
   exact ⟨trivial, _, _, ⟨false, (by rw [Bool.eq_iff_iff]; simp only [rootQ, Bool.and_eq_true, Bool.or_eq_true, inR_iff, decide_eq_true_eq, beq_iff_eq, Bool.false_eq_true, false_iff, true_iff, List.length_map]; first | (intro h; omega) | (intro h; simp_all; done) | (simp_all; done) | (simp_all; omega) | (constructor <;> intro h <;> (first | (simp_all; done) | (simp_all; omega) | omega))), rfl, rfl⟩, mkr⟩
 obtain ⟨_, _, ⟨r0, h1_, rfl, rfl⟩, hf⟩ := key
 exact ⟨r0, h1_, hf⟩

theorem s_l8None (t : S69) : ∃ r0 : Bool, (r0 = noneT t) ∧ Fn Try.prog 194 [.e (.agg (cD (d69 t)))] (lookH []) (bV r0) (lookH []) := by
 have key : ∃ x' h', ((fun x' h' => ∃ r0 : Bool, (r0 = noneT t) ∧ x' = bV r0 ∧ h' = [])) x' h' ∧ Fn Try.prog 194 [.e (.agg (cD (d69 t)))] (lookH []) x' (lookH h') := by
  refine Fn.bodyX (N := 18) hτ Try.func194 rfl rfl rfl rfl ?_
  refine sk ⟨[(1, .pt 64 0 0)], [(64, some (.box (cD (d69 t))))], 96⟩ ?_
  refine X.seq (rs 4 ?_)
  rcases Bool.eq_false_or_eq_true ((t.f0 == 0)) with hb1 | hb1
  ·refine aT 5 hb1 ?_
   refine aT 6 hb1 ?_
   replace hb1 := eq_of_beq (hb1)
   refine go 6 ?_
   have el2 : (t.f1.map dS).length = t.f1.length := List.length_map ..
   rcases Bool.eq_false_or_eq_true ((((t.f1.map dS).length : Int) == 0)) with hb3 | hb3
   ·refine aT 10 hb3 ?_
    refine aT 11 hb3 ?_
    refine aT 12 hb3 ?_
    replace hb3 := eq_of_beq (hb3)
    refine go 6 ?_
    have el4 : (t.f2.map dI).length = t.f2.length := List.length_map ..
    refine ek ⟨[(2, bV (((t.f2.map dI).length : Int) == 0))], [], 352⟩ ?_
    refine X.ret ?_
    exact ⟨trivial, _, _, ⟨(((t.f2.map dI).length : Int) == 0), (by rw [Bool.eq_iff_iff]; simp only [noneT, Bool.and_eq_true, Bool.or_eq_true, inR_iff, decide_eq_true_eq, beq_iff_eq, Bool.false_eq_true, false_iff, true_iff, List.length_map]; first | (intro h; omega) | (intro h; simp_all; done) | (simp_all; done) | (simp_all; omega) | (constructor <;> intro h <;> (first | (simp_all; done) | (simp_all; omega) | omega))), rfl, rfl⟩, mkr⟩
   ·refine aF 10 hb3 ?_
    refine aF 11 hb3 ?_
    refine aF 12 hb3 ?_
    replace hb3 := beq_eq_false_iff_ne.1 (hb3)
    refine go 6 ?_
    refine ek ⟨[(2, bV false)], [], 352⟩ ?_
    refine X.ret ?_
    exact ⟨trivial, _, _, ⟨false, (by rw [Bool.eq_iff_iff]; simp only [noneT, Bool.and_eq_true, Bool.or_eq_true, inR_iff, decide_eq_true_eq, beq_iff_eq, Bool.false_eq_true, false_iff, true_iff, List.length_map]; first | (intro h; omega) | (intro h; simp_all; done) | (simp_all; done) | (simp_all; omega) | (constructor <;> intro h <;> (first | (simp_all; done) | (simp_all; omega) | omega))), rfl, rfl⟩, mkr⟩
  ·refine aF 5 hb1 ?_
   refine aF 6 hb1 ?_
   replace hb1 := beq_eq_false_iff_ne.1 (hb1)
   refine go 12 ?_
   refine ek ⟨[(2, bV false)], [], 352⟩ ?_
   refine X.ret ?_
   exact ⟨trivial, _, _, ⟨false, (by rw [Bool.eq_iff_iff]; simp only [noneT, Bool.and_eq_true, Bool.or_eq_true, inR_iff, decide_eq_true_eq, beq_iff_eq, Bool.false_eq_true, false_iff, true_iff, List.length_map]; first | (intro h; omega) | (intro h; simp_all; done) | (simp_all; done) | (simp_all; omega) | (constructor <;> intro h <;> (first | (simp_all; done) | (simp_all; omega) | omega))), rfl, rfl⟩, mkr⟩
 obtain ⟨_, _, ⟨r0, h1_, rfl, rfl⟩, hf⟩ := key
 exact ⟨r0, h1_, hf⟩

theorem i_isNone (t : S69) : ∃ r0 : Bool, (r0 = noneT t) ∧ Fn Try.prog 197 [.e (.agg (cD (d69 t)))] (lookH []) (bV r0) (lookH []) := by
 have key : ∃ x' h', ((fun x' h' => ∃ r0 : Bool, (r0 = noneT t) ∧ x' = bV r0 ∧ h' = [])) x' h' ∧ Fn Try.prog 197 [.e (.agg (cD (d69 t)))] (lookH []) x' (lookH h') := by
  refine Fn.bodyX (N := 18) hτ Try.func197 rfl rfl rfl rfl ?_
  refine sk ⟨[(1, .pt 64 0 0)], [(64, some (.box (cD (d69 t))))], 96⟩ ?_
  refine X.seq (rs 4 ?_)
  rcases Bool.eq_false_or_eq_true ((t.f0 == 0)) with hb1 | hb1
  ·refine aT 5 hb1 ?_
   refine aT 6 hb1 ?_
   replace hb1 := eq_of_beq (hb1)
   refine go 6 ?_
   have el2 : (t.f1.map dS).length = t.f1.length := List.length_map ..
   rcases Bool.eq_false_or_eq_true ((((t.f1.map dS).length : Int) == 0)) with hb3 | hb3
   ·refine aT 10 hb3 ?_
    refine aT 11 hb3 ?_
    refine aT 12 hb3 ?_
    replace hb3 := eq_of_beq (hb3)
    refine go 6 ?_
    have el4 : (t.f2.map dI).length = t.f2.length := List.length_map ..
    refine ek ⟨[(2, bV (((t.f2.map dI).length : Int) == 0))], [], 352⟩ ?_
    refine X.ret ?_
    exact ⟨trivial, _, _, ⟨(((t.f2.map dI).length : Int) == 0), (by rw [Bool.eq_iff_iff]; simp only [noneT, Bool.and_eq_true, Bool.or_eq_true, inR_iff, decide_eq_true_eq, beq_iff_eq, Bool.false_eq_true, false_iff, true_iff, List.length_map]; first | (intro h; omega) | (intro h; simp_all; done) | (simp_all; done) | (simp_all; omega) | (constructor <;> intro h <;> (first | (simp_all; done) | (simp_all; omega) | omega))), rfl, rfl⟩, mkr⟩
   ·refine aF 10 hb3 ?_
    refine aF 11 hb3 ?_
    refine aF 12 hb3 ?_
    replace hb3 := beq_eq_false_iff_ne.1 (hb3)
    refine go 6 ?_
    refine ek ⟨[(2, bV false)], [], 352⟩ ?_
    refine X.ret ?_
    exact ⟨trivial, _, _, ⟨false, (by rw [Bool.eq_iff_iff]; simp only [noneT, Bool.and_eq_true, Bool.or_eq_true, inR_iff, decide_eq_true_eq, beq_iff_eq, Bool.false_eq_true, false_iff, true_iff, List.length_map]; first | (intro h; omega) | (intro h; simp_all; done) | (simp_all; done) | (simp_all; omega) | (constructor <;> intro h <;> (first | (simp_all; done) | (simp_all; omega) | omega))), rfl, rfl⟩, mkr⟩
  ·refine aF 5 hb1 ?_
   refine aF 6 hb1 ?_
   replace hb1 := beq_eq_false_iff_ne.1 (hb1)
   refine go 12 ?_
   refine ek ⟨[(2, bV false)], [], 352⟩ ?_
   refine X.ret ?_
   exact ⟨trivial, _, _, ⟨false, (by rw [Bool.eq_iff_iff]; simp only [noneT, Bool.and_eq_true, Bool.or_eq_true, inR_iff, decide_eq_true_eq, beq_iff_eq, Bool.false_eq_true, false_iff, true_iff, List.length_map]; first | (intro h; omega) | (intro h; simp_all; done) | (simp_all; done) | (simp_all; omega) | (constructor <;> intro h <;> (first | (simp_all; done) | (simp_all; omega) | omega))), rfl, rfl⟩, mkr⟩
 obtain ⟨_, _, ⟨r0, h1_, rfl, rfl⟩, hf⟩ := key
 exact ⟨r0, h1_, hf⟩

theorem s_l9Qc (b : S72) (hb : Sm72 b) : ∃ r0 : Bool, (r0 = qcForm b.f4 (wr .i64 (b.f2 - 1)) (wr .i64 (b.f0 - 1))) ∧ Fn Try.prog 169 [.e (.agg (cD (d72 b)))] (lookH []) (bV r0) (lookH []) := by
 have key : ∃ x' h', ((fun x' h' => ∃ r0 : Bool, (r0 = qcForm b.f4 (wr .i64 (b.f2 - 1)) (wr .i64 (b.f0 - 1))) ∧ x' = bV r0 ∧ h' = [])) x' h' ∧ Fn Try.prog 169 [.e (.agg (cD (d72 b)))] (lookH []) x' (lookH h') := by
  refine Fn.bodyX (N := 27) hτ Try.func169 rfl rfl rfl rfl ?_
  refine sk ⟨[(1, .pt 64 0 0)], [(64, some (.box (cD (d72 b))))], 96⟩ ?_
  refine sk ⟨[(1, .pt 64 0 0), (3, .pt 128 0 0)], [(64, some (.box (cD (d72 b)))), (128, some (.box (cD (d68 b.f4))))], 160⟩ ?_
  refine X.seq ?_
  refine X.seq (rs 1 ?_)
  obtain ⟨r1, hr3, hf2⟩ := s_l8Root b.f4
  replace hr3 := hr3.symm; subst hr3
  refine ca hf2 Try.func130 ?_
  refine ek ⟨[(1, .pt 64 0 0), (3, .pt 128 0 0), (7, bV (rootQ b.f4))], [(64, some (.box (cD (d72 b)))), (128, some (.box (cD (d68 b.f4))))], 192⟩ ?_
  refine if_ (b := (rootQ b.f4)) (fun hb5 => ?_) (fun hb5 => ?_)
  ·refine sk ⟨[(2, bV true)], [], 208⟩ ?_
   refine X.ret ?_
   exact ⟨trivial, _, _, ⟨true, (by rw [Bool.eq_iff_iff]; simp only [qcForm, Bool.and_eq_true, Bool.or_eq_true, inR_iff, decide_eq_true_eq, beq_iff_eq, Bool.false_eq_true, false_iff, true_iff, List.length_map]; first | (intro h; omega) | (intro h; simp_all; done) | (simp_all; done) | (simp_all; omega) | (constructor <;> intro h <;> (first | (simp_all; done) | (simp_all; omega) | omega))), rfl, rfl⟩, mkr⟩
  ·refine X.skip ?_
   refine X.seq (rs 5 ?_)
   obtain ⟨r6, hr8, hf7⟩ := s_l1In b.f4.f0 1 (wr .i64 (b.f2 - 1))
   replace hr8 := hr8.symm; subst hr8
   refine ca hf7 Try.func146 ?_
   refine go 1 ?_
   rcases Bool.eq_false_or_eq_true ((inR b.f4.f0 1 (wr .i64 (b.f2 - 1)))) with hb10 | hb10
   ·refine aT 13 hb10 ?_
    refine aT 14 hb10 ?_
    replace hb10 := inR_yes (hb10)
    refine go 5 ?_
    obtain ⟨r11, hr13, hf12⟩ := s_l1In b.f4.f1 0 (wr .i64 (b.f0 - 1))
    replace hr13 := hr13.symm; subst hr13
    refine ca hf12 Try.func146 ?_
    refine go 2 ?_
    rcases Bool.eq_false_or_eq_true ((inR b.f4.f1 0 (wr .i64 (b.f0 - 1)))) with hb15 | hb15
    ·refine aT 20 hb15 ?_
     refine aT 21 hb15 ?_
     refine aT 22 hb15 ?_
     replace hb15 := inR_yes (hb15)
     refine go 2 ?_
     obtain ⟨r16, hr18, hf17⟩ := s_NamesOk b.f4.f2 (by exact hb.2.1)
     replace hr18 := hr18.symm; subst hr18
     refine ca hf17 Try.func193 ?_
     refine go 2 ?_
     refine ek ⟨[(2, bV (namesOk b.f4.f2))], [], 512⟩ ?_
     refine X.ret ?_
     exact ⟨trivial, _, _, ⟨(namesOk b.f4.f2), (by rw [Bool.eq_iff_iff]; simp only [qcForm, Bool.and_eq_true, Bool.or_eq_true, inR_iff, decide_eq_true_eq, beq_iff_eq, Bool.false_eq_true, false_iff, true_iff, List.length_map]; first | (intro h; omega) | (intro h; simp_all; done) | (simp_all; done) | (simp_all; omega) | (constructor <;> intro h <;> (first | (simp_all; done) | (simp_all; omega) | omega))), rfl, rfl⟩, mkr⟩
    ·refine aF 20 hb15 ?_
     refine aF 21 hb15 ?_
     refine aF 22 hb15 ?_
     replace hb15 := inR_no (hb15)
     refine go 5 ?_
     refine ek ⟨[(2, bV false)], [], 512⟩ ?_
     refine X.ret ?_
     exact ⟨trivial, _, _, ⟨false, (by rw [Bool.eq_iff_iff]; simp only [qcForm, Bool.and_eq_true, Bool.or_eq_true, inR_iff, decide_eq_true_eq, beq_iff_eq, Bool.false_eq_true, false_iff, true_iff, List.length_map]; first | (intro h; omega) | (intro h; simp_all; done) | (simp_all; done) | (simp_all; omega) | (constructor <;> intro h <;> (first | (simp_all; done) | (simp_all; omega) | omega))), rfl, rfl⟩, mkr⟩
   ·refine aF 13 hb10 ?_
    refine aF 14 hb10 ?_
    replace hb10 := inR_no (hb10)
    refine go 13 ?_
    refine ek ⟨[(2, bV false)], [], 512⟩ ?_
    refine X.ret ?_
    exact ⟨trivial, _, _, ⟨false, (by rw [Bool.eq_iff_iff]; simp only [qcForm, Bool.and_eq_true, Bool.or_eq_true, inR_iff, decide_eq_true_eq, beq_iff_eq, Bool.false_eq_true, false_iff, true_iff, List.length_map]; first | (intro h; omega) | (intro h; simp_all; done) | (simp_all; done) | (simp_all; omega) | (constructor <;> intro h <;> (first | (simp_all; done) | (simp_all; omega) | omega))), rfl, rfl⟩, mkr⟩
 obtain ⟨_, _, ⟨r0, h1_, rfl, rfl⟩, hf⟩ := key
 exact ⟨r0, h1_, hf⟩

theorem i_qcForm (q : S68) (r : Int) (b : Int) (hq : Sm68 q) : ∃ r0 : Bool, (r0 = qcForm q r b) ∧ Fn Try.prog 175 [.e (.agg (cD (d68 q))), iV r, iV b] (lookH []) (bV r0) (lookH []) := by
 have key : ∃ x' h', ((fun x' h' => ∃ r0 : Bool, (r0 = qcForm q r b) ∧ x' = bV r0 ∧ h' = [])) x' h' ∧ Fn Try.prog 175 [.e (.agg (cD (d68 q))), iV r, iV b] (lookH []) x' (lookH h') := by
  refine Fn.bodyX (N := 26) hτ Try.func175 rfl rfl rfl rfl ?_
  refine sk ⟨[(1, iV r), (2, iV b), (3, .pt 64 0 0)], [(64, some (.box (cD (d68 q))))], 96⟩ ?_
  refine X.seq (rs 1 ?_)
  obtain ⟨r1, hr3, hf2⟩ := i_isRoot q
  replace hr3 := hr3.symm; subst hr3
  refine ca hf2 Try.func143 ?_
  refine go 1 ?_
  rcases Bool.eq_false_or_eq_true ((rootQ q)) with hb5 | hb5
  ·refine aT 8 hb5 ?_
   refine aT 9 hb5 ?_
   refine go 17 ?_
   refine ek ⟨[(6, bV true)], [], 416⟩ ?_
   refine X.ret ?_
   exact ⟨trivial, _, _, ⟨true, (by rw [Bool.eq_iff_iff]; simp only [qcForm, Bool.and_eq_true, Bool.or_eq_true, inR_iff, decide_eq_true_eq, beq_iff_eq, Bool.false_eq_true, false_iff, true_iff, List.length_map]; first | (intro h; omega) | (intro h; simp_all; done) | (simp_all; done) | (simp_all; omega) | (constructor <;> intro h <;> (first | (simp_all; done) | (simp_all; omega) | omega))), rfl, rfl⟩, mkr⟩
  ·refine aF 8 hb5 ?_
   refine aF 9 hb5 ?_
   refine go 3 ?_
   obtain ⟨r6, hr8, hf7⟩ := i_inRange q.f0 1 r
   replace hr8 := hr8.symm; subst hr8
   refine ca hf7 Try.func149 ?_
   refine go 1 ?_
   rcases Bool.eq_false_or_eq_true ((inR q.f0 1 r)) with hb10 | hb10
   ·refine aT 13 hb10 ?_
    refine aT 14 hb10 ?_
    replace hb10 := inR_yes (hb10)
    refine go 3 ?_
    obtain ⟨r11, hr13, hf12⟩ := i_inRange q.f1 0 b
    replace hr13 := hr13.symm; subst hr13
    refine ca hf12 Try.func149 ?_
    refine go 2 ?_
    rcases Bool.eq_false_or_eq_true ((inR q.f1 0 b)) with hb15 | hb15
    ·refine aT 18 hb15 ?_
     refine aT 19 hb15 ?_
     refine aT 20 hb15 ?_
     replace hb15 := inR_yes (hb15)
     refine go 2 ?_
     obtain ⟨r16, hr18, hf17⟩ := i_NamesOk q.f2 (by exact hq)
     replace hr18 := hr18.symm; subst hr18
     refine ca hf17 Try.func196 ?_
     refine go 3 ?_
     refine ek ⟨[(6, bV (namesOk q.f2))], [], 416⟩ ?_
     refine X.ret ?_
     exact ⟨trivial, _, _, ⟨(namesOk q.f2), (by rw [Bool.eq_iff_iff]; simp only [qcForm, Bool.and_eq_true, Bool.or_eq_true, inR_iff, decide_eq_true_eq, beq_iff_eq, Bool.false_eq_true, false_iff, true_iff, List.length_map]; first | (intro h; omega) | (intro h; simp_all; done) | (simp_all; done) | (simp_all; omega) | (constructor <;> intro h <;> (first | (simp_all; done) | (simp_all; omega) | omega))), rfl, rfl⟩, mkr⟩
    ·refine aF 18 hb15 ?_
     refine aF 19 hb15 ?_
     refine aF 20 hb15 ?_
     replace hb15 := inR_no (hb15)
     refine go 6 ?_
     refine ek ⟨[(6, bV false)], [], 416⟩ ?_
     refine X.ret ?_
     exact ⟨trivial, _, _, ⟨false, (by rw [Bool.eq_iff_iff]; simp only [qcForm, Bool.and_eq_true, Bool.or_eq_true, inR_iff, decide_eq_true_eq, beq_iff_eq, Bool.false_eq_true, false_iff, true_iff, List.length_map]; first | (intro h; omega) | (intro h; simp_all; done) | (simp_all; done) | (simp_all; omega) | (constructor <;> intro h <;> (first | (simp_all; done) | (simp_all; omega) | omega))), rfl, rfl⟩, mkr⟩
   ·refine aF 13 hb10 ?_
    refine aF 14 hb10 ?_
    replace hb10 := inR_no (hb10)
    refine go 12 ?_
    refine ek ⟨[(6, bV false)], [], 416⟩ ?_
    refine X.ret ?_
    exact ⟨trivial, _, _, ⟨false, (by rw [Bool.eq_iff_iff]; simp only [qcForm, Bool.and_eq_true, Bool.or_eq_true, inR_iff, decide_eq_true_eq, beq_iff_eq, Bool.false_eq_true, false_iff, true_iff, List.length_map]; first | (intro h; omega) | (intro h; simp_all; done) | (simp_all; done) | (simp_all; omega) | (constructor <;> intro h <;> (first | (simp_all; done) | (simp_all; omega) | omega))), rfl, rfl⟩, mkr⟩
 obtain ⟨_, _, ⟨r0, h1_, rfl, rfl⟩, hf⟩ := key
 exact ⟨r0, h1_, hf⟩

theorem s_l9Tc (b : S72) (hb : Sm72 b) : ∃ r0 : Bool, (r0 = tcForm b.f5 (wr .i64 (b.f2 - 1))) ∧ Fn Try.prog 170 [.e (.agg (cD (d72 b)))] (lookH []) (bV r0) (lookH []) := by
 have key : ∃ x' h', ((fun x' h' => ∃ r0 : Bool, (r0 = tcForm b.f5 (wr .i64 (b.f2 - 1))) ∧ x' = bV r0 ∧ h' = [])) x' h' ∧ Fn Try.prog 170 [.e (.agg (cD (d72 b)))] (lookH []) x' (lookH h') := by
  refine Fn.bodyX (N := 48) hτ Try.func170 rfl rfl rfl rfl ?_
  refine sk ⟨[(1, .pt 64 0 0)], [(64, some (.box (cD (d72 b))))], 96⟩ ?_
  refine sk ⟨[(1, .pt 64 0 0), (3, .pt 128 0 0)], [(64, some (.box (cD (d72 b)))), (128, some (.box (cD (d69 b.f5))))], 160⟩ ?_
  refine X.seq ?_
  refine X.seq (rs 1 ?_)
  obtain ⟨r1, hr3, hf2⟩ := s_l8None b.f5
  replace hr3 := hr3.symm; subst hr3
  refine ca hf2 Try.func194 ?_
  refine ek ⟨[(1, .pt 64 0 0), (3, .pt 128 0 0), (8, bV (noneT b.f5))], [(64, some (.box (cD (d72 b)))), (128, some (.box (cD (d69 b.f5))))], 192⟩ ?_
  refine if_ (b := (noneT b.f5)) (fun hb5 => ?_) (fun hb5 => ?_)
  ·refine sk ⟨[(2, bV true)], [], 208⟩ ?_
   refine X.ret ?_
   exact ⟨trivial, _, _, ⟨true, (by (first | have hz := all_yes (p := fun h => inR h 0 (wr .i64 (b.f5.f0 - 1))) (upto_all hA (by omega)) | have hz := all_no (p := fun h => inR h 0 (wr .i64 (b.f5.f0 - 1))) ‹_› (inR_ff ‹_›) | skip); rw [Bool.eq_iff_iff]; simp only [tcForm, Bool.and_eq_true, Bool.or_eq_true, inR_iff, decide_eq_true_eq, beq_iff_eq, Bool.false_eq_true, false_iff, true_iff, List.length_map]; first | (intro h; omega) | (intro h; simp_all; done) | (simp_all; done) | (simp_all; omega) | (constructor <;> intro h <;> (first | (simp_all; done) | (simp_all; omega) | omega))), rfl, rfl⟩, mkr⟩
  ·refine X.skip ?_
   refine X.seq ?_
   refine X.seq ?_
   have hm := hb.2.2.1.2
   refine rs 5 ?_
   obtain ⟨r6, hr8, hf7⟩ := s_l1In b.f5.f0 1 (wr .i64 (b.f2 - 1))
   replace hr8 := hr8.symm; subst hr8
   refine ca hf7 Try.func146 ?_
   refine go 2 ?_
   rcases Bool.eq_false_or_eq_true (!(inR b.f5.f0 1 (wr .i64 (b.f2 - 1)))) with hb10 | hb10
   ·refine aT 15 hb10 ?_
    refine aT 16 hb10 ?_
    replace hb10 := inR_no (bnot_yes (hb10))
    refine go 14 ?_
    refine ek ⟨[(3, .pt 128 0 0), (30, bV true)], [(128, some (.box (cD (d69 b.f5))))], 544⟩ ?_
    refine X.ifT (by kernel_rfl) ?_
    refine sk ⟨[(2, bV false)], [], 560⟩ ?_
    refine X.ret ?_
    exact ⟨trivial, _, _, ⟨false, (by (first | have hz := all_yes (p := fun h => inR h 0 (wr .i64 (b.f5.f0 - 1))) (upto_all hA (by omega)) | have hz := all_no (p := fun h => inR h 0 (wr .i64 (b.f5.f0 - 1))) ‹_› (inR_ff ‹_›) | skip); rw [Bool.eq_iff_iff]; simp only [tcForm, Bool.and_eq_true, Bool.or_eq_true, inR_iff, decide_eq_true_eq, beq_iff_eq, Bool.false_eq_true, false_iff, true_iff, List.length_map]; first | (intro h; omega) | (intro h; simp_all; done) | (simp_all; done) | (simp_all; omega) | (constructor <;> intro h <;> (first | (simp_all; done) | (simp_all; omega) | omega))), rfl, rfl⟩, mkr⟩
   ·refine aF 15 hb10 ?_
    refine aF 16 hb10 ?_
    replace hb10 := inR_yes (bnot_no (hb10))
    refine go 2 ?_
    obtain ⟨r11, hr13, hf12⟩ := s_NamesOk b.f5.f1 (by exact hb.2.2.1.1)
    replace hr13 := hr13.symm; subst hr13
    refine ca hf12 Try.func193 ?_
    refine go 3 ?_
    rcases Bool.eq_false_or_eq_true (!(namesOk b.f5.f1)) with hb15 | hb15
    ·refine aT 20 hb15 ?_
     refine aT 21 hb15 ?_
     refine aT 22 hb15 ?_
     replace hb15 := bnot_yes (hb15)
     refine go 8 ?_
     refine ek ⟨[(3, .pt 128 0 0), (30, bV true)], [(128, some (.box (cD (d69 b.f5))))], 544⟩ ?_
     refine X.ifT (by kernel_rfl) ?_
     refine sk ⟨[(2, bV false)], [], 560⟩ ?_
     refine X.ret ?_
     exact ⟨trivial, _, _, ⟨false, (by (first | have hz := all_yes (p := fun h => inR h 0 (wr .i64 (b.f5.f0 - 1))) (upto_all hA (by omega)) | have hz := all_no (p := fun h => inR h 0 (wr .i64 (b.f5.f0 - 1))) ‹_› (inR_ff ‹_›) | skip); rw [Bool.eq_iff_iff]; simp only [tcForm, Bool.and_eq_true, Bool.or_eq_true, inR_iff, decide_eq_true_eq, beq_iff_eq, Bool.false_eq_true, false_iff, true_iff, List.length_map]; first | (intro h; omega) | (intro h; simp_all; done) | (simp_all; done) | (simp_all; omega) | (constructor <;> intro h <;> (first | (simp_all; done) | (simp_all; omega) | omega))), rfl, rfl⟩, mkr⟩
    ·refine aF 20 hb15 ?_
     refine aF 21 hb15 ?_
     refine aF 22 hb15 ?_
     replace hb15 := bnot_no (hb15)
     refine go 8 ?_
     have el16 : (b.f5.f2.map dI).length = b.f5.f2.length := List.length_map ..
     have el17 : (b.f5.f1.map dS).length = b.f5.f1.length := List.length_map ..
     refine ek ⟨[(3, .pt 128 0 0), (30, bV (((b.f5.f2.map dI).length : Int) != ((b.f5.f1.map dS).length : Int)))], [(128, some (.box (cD (d69 b.f5))))], 544⟩ ?_
     refine if_ (b := (((b.f5.f2.map dI).length : Int) != ((b.f5.f1.map dS).length : Int))) (fun hb18 => ?_) (fun hb18 => ?_)
     ·replace hb18 := bne_iff_ne.1 (hb18)
      refine sk ⟨[(2, bV false)], [], 560⟩ ?_
      refine X.ret ?_
      exact ⟨trivial, _, _, ⟨false, (by (first | have hz := all_yes (p := fun h => inR h 0 (wr .i64 (b.f5.f0 - 1))) (upto_all hA (by omega)) | have hz := all_no (p := fun h => inR h 0 (wr .i64 (b.f5.f0 - 1))) ‹_› (inR_ff ‹_›) | skip); rw [Bool.eq_iff_iff]; simp only [tcForm, Bool.and_eq_true, Bool.or_eq_true, inR_iff, decide_eq_true_eq, beq_iff_eq, Bool.false_eq_true, false_iff, true_iff, List.length_map]; first | (intro h; omega) | (intro h; simp_all; done) | (simp_all; done) | (simp_all; omega) | (constructor <;> intro h <;> (first | (simp_all; done) | (simp_all; omega) | omega))), rfl, rfl⟩, mkr⟩
     ·replace hb18 := bne_eq_false_iff_eq.1 (hb18)
      refine X.skip ?_
      refine X.seq ?_
      refine sk ⟨[(3, .pt 128 0 0), (4, iV 0)], [(128, some (.box (cD (d69 b.f5))))], 560⟩ ?_
      refine X.block ?_
      -- 7: v4 : Int
      refine X.loop (σ := { g : Int // (fun (v4 : Int) => 0 ≤ v4 ∧ v4 ≤ b.f5.f2.length ∧ Upto (fun _ h => inR h 0 (wr .i64 (b.f5.f0 - 1)) = true) (fun n => b.f5.f2[n]?) v4) g }) (fun g => (fun (v4 : Int) => ⟨[(3, .pt 128 0 0), (4, iV v4)], [(128, some (.box (cD (d69 b.f5))))], 560⟩) g.1) (fun g => (fun (v4 : Int) => (b.f5.f2.length - v4).toNat) g.1) ⟨0, ⟨by first | omega | (dsimp only; omega), by first | omega | (dsimp only; omega), upto_zero⟩⟩ (Wk.less (by kernel_rfl)) (fun g => ?_)
      obtain ⟨v4, hg20⟩ := g
      have hg20 : 0 ≤ v4 ∧ v4 ≤ b.f5.f2.length ∧ Upto (fun _ h => inR h 0 (wr .i64 (b.f5.f0 - 1)) = true) (fun n => b.f5.f2[n]?) v4 := hg20
      obtain ⟨_, _, hA⟩ := hg20
      refine X.seq ?_
      refine sk ⟨[(3, .pt 128 0 0), (4, iV v4), (35, bV (decide ((v4 : Int) < ((b.f5.f2.map dI).length : Int))))], [(128, some (.box (cD (d69 b.f5))))], 640⟩ ?_
      refine if_ (b := decide ((v4 : Int) < ((b.f5.f2.map dI).length : Int))) (fun hb21 => ?_) (fun hb21 => ?_)
      ·replace hb21 := of_decide_eq_true (hb21)
       refine X.skip ?_
       refine X.seq ?_
       refine X.block ?_
       refine X.seq (rs 3 ?_)
       obtain ⟨x22, hx22⟩ : ∃ x, b.f5.f2[Int.toNat v4]? = some x := ⟨_, List.getElem?_eq_getElem (by first | omega | (simp; done) | (simp; omega))⟩
       refine CH.idx hτ (dI x22) (rows := (b.f5.f2.map dI)) (n := v4) (sz := 1) (by kernel_rfl) (by kernel_rfl) (by first | omega | (simp; done) | (simp; omega)) (by rw [List.getElem?_map, hx22]; rfl) (by kernel_rfl) ?_
       refine go 4 ?_
       obtain ⟨r23, hr25, hf24⟩ := s_l1In x22 0 (wr .i64 (b.f5.f0 - 1))
       replace hr25 := hr25.symm; subst hr25
       refine ca hf24 Try.func146 ?_
       refine go 1 ?_
       refine ek ⟨[(3, .pt 128 0 0), (4, iV v4), (47, bV (!(inR x22 0 (wr .i64 (b.f5.f0 - 1)))))], [(128, some (.box (cD (d69 b.f5))))], 800⟩ ?_
       refine if_ (b := !(inR x22 0 (wr .i64 (b.f5.f0 - 1)))) (fun hb27 => ?_) (fun hb27 => ?_)
       ·replace hb27 := inR_no (bnot_yes (hb27))
        refine sk ⟨[(2, bV false)], [], 816⟩ ?_
        refine X.ret ?_
        exact ⟨trivial, _, _, ⟨false, (by (first | have hz := all_yes (p := fun h => inR h 0 (wr .i64 (b.f5.f0 - 1))) (upto_all hA (by omega)) | have hz := all_no (p := fun h => inR h 0 (wr .i64 (b.f5.f0 - 1))) ‹_› (inR_ff ‹_›) | skip); rw [Bool.eq_iff_iff]; simp only [tcForm, Bool.and_eq_true, Bool.or_eq_true, inR_iff, decide_eq_true_eq, beq_iff_eq, Bool.false_eq_true, false_iff, true_iff, List.length_map]; first | (intro h; omega) | (intro h; simp_all; done) | (simp_all; done) | (simp_all; omega) | (constructor <;> intro h <;> (first | (simp_all; done) | (simp_all; omega) | omega))), rfl, rfl⟩, mkr⟩
       ·replace hb27 := inR_yes (bnot_no (hb27))
        refine X.skip ?_
        refine X.rk ⟨[(3, .pt 128 0 0), (4, iV (wrap64 (v4 + 1)))], [(128, some (.box (cD (d69 b.f5))))], 848⟩ hτ hmix (by kernel_rfl) (by kernel_rfl) (s2 := ⟨[(3, .pt 128 0 0), (4, iV (v4 + 1))], [(128, some (.box (cD (d69 b.f5))))], 848⟩) (congrArg (fun z : Int => (⟨[(3, .pt 128 0 0), (4, iV z)], [(128, some (.box (cD (d69 b.f5))))], 848⟩ : St)) (show wrap64 (v4 + 1) = (v4 + 1) by rw [w64 (n := (v4 + 1)) (by omega) (by omega)])) ?_
        refine ⟨⟨(v4 + 1), ⟨by first | omega | (dsimp only; omega), by first | omega | (dsimp only; omega), upto_nx (by first | omega | (dsimp only; omega)) hA ‹_› (inR_iff.2 ‹_›)⟩⟩, by first | exact rfl | omega | (dsimp only; omega) | (simp only [List.length_append, List.length_cons, List.length_nil, List.length_set]; omega) | (simp; done) | (simp; omega), Wk.mk' [(128, 128)] (by kernel_rfl) (by kernel_rfl) (by kernel_rfl)⟩
      ·replace hb21 := of_decide_eq_false (hb21)
       refine X.exit ?_
       refine sk ⟨[(2, bV true)], [], 656⟩ ?_
       refine X.ret ?_
       exact ⟨trivial, _, _, ⟨true, (by (first | have hz := all_yes (p := fun h => inR h 0 (wr .i64 (b.f5.f0 - 1))) (upto_all hA (by omega)) | have hz := all_no (p := fun h => inR h 0 (wr .i64 (b.f5.f0 - 1))) ‹_› (inR_ff ‹_›) | skip); rw [Bool.eq_iff_iff]; simp only [tcForm, Bool.and_eq_true, Bool.or_eq_true, inR_iff, decide_eq_true_eq, beq_iff_eq, Bool.false_eq_true, false_iff, true_iff, List.length_map]; first | (intro h; omega) | (intro h; simp_all; done) | (simp_all; done) | (simp_all; omega) | (constructor <;> intro h <;> (first | (simp_all; done) | (simp_all; omega) | omega))), rfl, rfl⟩, mkr⟩
 obtain ⟨_, _, ⟨r0, h1_, rfl, rfl⟩, hf⟩ := key
 exact ⟨r0, h1_, hf⟩

theorem i_tcForm (t : S69) (r : Int) (ht : Sm69 t) : ∃ r0 : Bool, (r0 = tcForm t r) ∧ Fn Try.prog 176 [.e (.agg (cD (d69 t))), iV r] (lookH []) (bV r0) (lookH []) := by
 have key : ∃ x' h', ((fun x' h' => ∃ r0 : Bool, (r0 = tcForm t r) ∧ x' = bV r0 ∧ h' = [])) x' h' ∧ Fn Try.prog 176 [.e (.agg (cD (d69 t))), iV r] (lookH []) x' (lookH h') := by
  refine Fn.bodyX (N := 41) hτ Try.func176 rfl rfl rfl rfl ?_
  refine sk ⟨[(1, iV r), (2, .pt 64 0 0)], [(64, some (.box (cD (d69 t))))], 96⟩ ?_
  refine X.seq ?_
  refine X.seq (rs 1 ?_)
  obtain ⟨r1, hr3, hf2⟩ := i_isNone t
  replace hr3 := hr3.symm; subst hr3
  refine ca hf2 Try.func197 ?_
  refine ek ⟨[(1, iV r), (2, .pt 64 0 0), (8, bV (noneT t))], [(64, some (.box (cD (d69 t))))], 128⟩ ?_
  refine if_ (b := (noneT t)) (fun hb5 => ?_) (fun hb5 => ?_)
  ·refine sk ⟨[(4, bV true)], [], 144⟩ ?_
   refine X.ret ?_
   exact ⟨trivial, _, _, ⟨true, (by (first | have hz := all_yes (p := fun h => inR h 0 (wr .i64 (t.f0 - 1))) (upto_all hA (by omega)) | have hz := all_no (p := fun h => inR h 0 (wr .i64 (t.f0 - 1))) ‹_› (inR_ff ‹_›) | skip); rw [Bool.eq_iff_iff]; simp only [tcForm, Bool.and_eq_true, Bool.or_eq_true, inR_iff, decide_eq_true_eq, beq_iff_eq, Bool.false_eq_true, false_iff, true_iff, List.length_map]; first | (intro h; omega) | (intro h; simp_all; done) | (simp_all; done) | (simp_all; omega) | (constructor <;> intro h <;> (first | (simp_all; done) | (simp_all; omega) | omega))), rfl, rfl⟩, mkr⟩
  ·refine X.skip ?_
   refine X.seq ?_
   refine X.seq ?_
   have hm := ht.2
   have el6 : (t.f2.map dI).length = t.f2.length := List.length_map ..
   refine rk ⟨[(1, iV r), (2, .pt 64 0 0), (10, lV (t.f2.map dI)), (11, iV ((t.f2.map dI).length : Int)), (12, iV 0)], [(64, some (.box (cD (d69 t))))], 192⟩ ?_
   refine X.block ?_
   -- 4: v12 : Int
   refine X.loop (σ := { g : Int // (fun (v12 : Int) => 0 ≤ v12 ∧ v12 ≤ t.f2.length ∧ Upto (fun _ h => inR h 0 (wr .i64 (t.f0 - 1)) = true) (fun n => t.f2[n]?) v12) g }) (fun g => (fun (v12 : Int) => ⟨[(1, iV r), (2, .pt 64 0 0), (10, lV (t.f2.map dI)), (11, iV ((t.f2.map dI).length : Int)), (12, iV v12)], [(64, some (.box (cD (d69 t))))], 192⟩) g.1) (fun g => (fun (v12 : Int) => (t.f2.length - v12).toNat) g.1) ⟨0, ⟨by first | omega | (dsimp only; omega), by first | omega | (dsimp only; omega), upto_zero⟩⟩ (Wk.less (by kernel_rfl)) (fun g => ?_)
   obtain ⟨v12, hg8⟩ := g
   have hg8 : 0 ≤ v12 ∧ v12 ≤ t.f2.length ∧ Upto (fun _ h => inR h 0 (wr .i64 (t.f0 - 1)) = true) (fun n => t.f2[n]?) v12 := hg8
   obtain ⟨_, _, hA⟩ := hg8
   refine sk ⟨[(1, iV r), (2, .pt 64 0 0), (10, lV (t.f2.map dI)), (11, iV ((t.f2.map dI).length : Int)), (12, iV v12), (13, bV (decide ((v12 : Int) < ((t.f2.map dI).length : Int))))], [(64, some (.box (cD (d69 t))))], 208⟩ ?_
   refine X.seq ?_
   refine if_ (b := decide ((v12 : Int) < ((t.f2.map dI).length : Int))) (fun hb9 => ?_) (fun hb9 => ?_)
   ·replace hb9 := of_decide_eq_true (hb9)
    refine X.skip ?_
    refine X.seq ?_
    refine X.block ?_
    refine X.seq (rs 0 ?_)
    obtain ⟨x10, hx10⟩ : ∃ x, t.f2[Int.toNat v12]? = some x := ⟨_, List.getElem?_eq_getElem (by first | omega | (simp; done) | (simp; omega))⟩
    refine CH.idx hτ (dI x10) (rows := (t.f2.map dI)) (n := v12) (sz := 1) (by kernel_rfl) (by kernel_rfl) (by first | omega | (simp; done) | (simp; omega)) (by rw [List.getElem?_map, hx10]; rfl) (by kernel_rfl) ?_
    refine go 2 ?_
    refine ek ⟨[(1, iV r), (2, .pt 64 0 0), (6, iV x10), (10, lV (t.f2.map dI)), (11, iV ((t.f2.map dI).length : Int)), (12, iV v12)], [(64, some (.box (cD (d69 t))))], 256⟩ ?_
    refine X.seq (rs 4 ?_)
    obtain ⟨r11, hr13, hf12⟩ := i_inRange x10 0 (wr .i64 (t.f0 - 1))
    replace hr13 := hr13.symm; subst hr13
    refine ca hf12 Try.func149 ?_
    refine go 1 ?_
    refine ek ⟨[(1, iV r), (2, .pt 64 0 0), (10, lV (t.f2.map dI)), (11, iV ((t.f2.map dI).length : Int)), (12, iV v12), (21, bV (!(inR x10 0 (wr .i64 (t.f0 - 1)))))], [(64, some (.box (cD (d69 t))))], 352⟩ ?_
    refine if_ (b := !(inR x10 0 (wr .i64 (t.f0 - 1)))) (fun hb15 => ?_) (fun hb15 => ?_)
    ·replace hb15 := inR_no (bnot_yes (hb15))
     refine sk ⟨[(4, bV false)], [], 368⟩ ?_
     refine X.ret ?_
     exact ⟨trivial, _, _, ⟨false, (by (first | have hz := all_yes (p := fun h => inR h 0 (wr .i64 (t.f0 - 1))) (upto_all hA (by omega)) | have hz := all_no (p := fun h => inR h 0 (wr .i64 (t.f0 - 1))) ‹_› (inR_ff ‹_›) | skip); rw [Bool.eq_iff_iff]; simp only [tcForm, Bool.and_eq_true, Bool.or_eq_true, inR_iff, decide_eq_true_eq, beq_iff_eq, Bool.false_eq_true, false_iff, true_iff, List.length_map]; first | (intro h; omega) | (intro h; simp_all; done) | (simp_all; done) | (simp_all; omega) | (constructor <;> intro h <;> (first | (simp_all; done) | (simp_all; omega) | omega))), rfl, rfl⟩, mkr⟩
    ·replace hb15 := inR_yes (bnot_no (hb15))
     refine X.skip ?_
     refine X.rk ⟨[(1, iV r), (2, .pt 64 0 0), (10, lV (t.f2.map dI)), (11, iV ((t.f2.map dI).length : Int)), (12, iV (wrap64 (v12 + 1)))], [(64, some (.box (cD (d69 t))))], 384⟩ hτ hmix (by kernel_rfl) (by kernel_rfl) (s2 := ⟨[(1, iV r), (2, .pt 64 0 0), (10, lV (t.f2.map dI)), (11, iV ((t.f2.map dI).length : Int)), (12, iV (v12 + 1))], [(64, some (.box (cD (d69 t))))], 384⟩) (congrArg (fun z : Int => (⟨[(1, iV r), (2, .pt 64 0 0), (10, lV (t.f2.map dI)), (11, iV ((t.f2.map dI).length : Int)), (12, iV z)], [(64, some (.box (cD (d69 t))))], 384⟩ : St)) (show wrap64 (v12 + 1) = (v12 + 1) by rw [w64 (n := (v12 + 1)) (by omega) (by omega)])) ?_
     refine ⟨⟨(v12 + 1), ⟨by first | omega | (dsimp only; omega), by first | omega | (dsimp only; omega), upto_nx (by first | omega | (dsimp only; omega)) hA ‹_› (inR_iff.2 ‹_›)⟩⟩, by first | exact rfl | omega | (dsimp only; omega) | (simp only [List.length_append, List.length_cons, List.length_nil, List.length_set]; omega) | (simp; done) | (simp; omega), Wk.mk' [(64, 64)] (by kernel_rfl) (by kernel_rfl) (by kernel_rfl)⟩
   ·replace hb9 := of_decide_eq_false (hb9)
    refine X.exit ?_
    refine X.seq (rs 3 ?_)
    obtain ⟨r16, hr18, hf17⟩ := i_inRange t.f0 1 r
    replace hr18 := hr18.symm; subst hr18
    refine ca hf17 Try.func149 ?_
    refine go 1 ?_
    rcases Bool.eq_false_or_eq_true ((inR t.f0 1 r)) with hb20 | hb20
    ·refine aT 26 hb20 ?_
     refine aT 27 hb20 ?_
     replace hb20 := inR_yes (hb20)
     refine go 2 ?_
     obtain ⟨r21, hr23, hf22⟩ := i_NamesOk t.f1 (by exact ht.1)
     replace hr23 := hr23.symm; subst hr23
     refine ca hf22 Try.func196 ?_
     refine go 2 ?_
     rcases Bool.eq_false_or_eq_true ((namesOk t.f1)) with hb25 | hb25
     ·refine aT 30 hb25 ?_
      refine aT 31 hb25 ?_
      refine aT 32 hb25 ?_
      refine go 9 ?_
      have el26 : (t.f1.map dS).length = t.f1.length := List.length_map ..
      refine ek ⟨[(4, bV (((t.f2.map dI).length : Int) == ((t.f1.map dS).length : Int)))], [], 512⟩ ?_
      refine X.ret ?_
      exact ⟨trivial, _, _, ⟨(((t.f2.map dI).length : Int) == ((t.f1.map dS).length : Int)), (by (first | have hz := all_yes (p := fun h => inR h 0 (wr .i64 (t.f0 - 1))) (upto_all hA (by omega)) | have hz := all_no (p := fun h => inR h 0 (wr .i64 (t.f0 - 1))) ‹_› (inR_ff ‹_›) | skip); rw [Bool.eq_iff_iff]; simp only [tcForm, Bool.and_eq_true, Bool.or_eq_true, inR_iff, decide_eq_true_eq, beq_iff_eq, Bool.false_eq_true, false_iff, true_iff, List.length_map]; first | (intro h; omega) | (intro h; simp_all; done) | (simp_all; done) | (simp_all; omega) | (constructor <;> intro h <;> (first | (simp_all; done) | (simp_all; omega) | omega))), rfl, rfl⟩, mkr⟩
     ·refine aF 30 hb25 ?_
      refine aF 31 hb25 ?_
      refine aF 32 hb25 ?_
      refine go 9 ?_
      refine ek ⟨[(4, bV false)], [], 512⟩ ?_
      refine X.ret ?_
      exact ⟨trivial, _, _, ⟨false, (by (first | have hz := all_yes (p := fun h => inR h 0 (wr .i64 (t.f0 - 1))) (upto_all hA (by omega)) | have hz := all_no (p := fun h => inR h 0 (wr .i64 (t.f0 - 1))) ‹_› (inR_ff ‹_›) | skip); rw [Bool.eq_iff_iff]; simp only [tcForm, Bool.and_eq_true, Bool.or_eq_true, inR_iff, decide_eq_true_eq, beq_iff_eq, Bool.false_eq_true, false_iff, true_iff, List.length_map]; first | (intro h; omega) | (intro h; simp_all; done) | (simp_all; done) | (simp_all; omega) | (constructor <;> intro h <;> (first | (simp_all; done) | (simp_all; omega) | omega))), rfl, rfl⟩, mkr⟩
    ·refine aF 26 hb20 ?_
     refine aF 27 hb20 ?_
     replace hb20 := inR_no (hb20)
     refine go 14 ?_
     refine ek ⟨[(4, bV false)], [], 512⟩ ?_
     refine X.ret ?_
     exact ⟨trivial, _, _, ⟨false, (by (first | have hz := all_yes (p := fun h => inR h 0 (wr .i64 (t.f0 - 1))) (upto_all hA (by omega)) | have hz := all_no (p := fun h => inR h 0 (wr .i64 (t.f0 - 1))) ‹_› (inR_ff ‹_›) | skip); rw [Bool.eq_iff_iff]; simp only [tcForm, Bool.and_eq_true, Bool.or_eq_true, inR_iff, decide_eq_true_eq, beq_iff_eq, Bool.false_eq_true, false_iff, true_iff, List.length_map]; first | (intro h; omega) | (intro h; simp_all; done) | (simp_all; done) | (simp_all; omega) | (constructor <;> intro h <;> (first | (simp_all; done) | (simp_all; omega) | omega))), rfl, rfl⟩, mkr⟩
 obtain ⟨_, _, ⟨r0, h1_, rfl, rfl⟩, hf⟩ := key
 exact ⟨r0, h1_, hf⟩

theorem s_TxOk (t : S35) (ht : Sm35 t) : ∃ r0 : Bool, (r0 = txOk t) ∧ Fn Try.prog 119 [.e (.agg (cD (d35 t)))] (lookH []) (bV r0) (lookH []) := by
 have key : ∃ x' h', ((fun x' h' => ∃ r0 : Bool, (r0 = txOk t) ∧ x' = bV r0 ∧ h' = [])) x' h' ∧ Fn Try.prog 119 [.e (.agg (cD (d35 t)))] (lookH []) x' (lookH h') := by
  refine Fn.bodyX (N := 33) hτ Try.func119 rfl rfl rfl rfl ?_
  refine sk ⟨[(1, .pt 64 0 0)], [(64, some (.box (cD (d35 t))))], 96⟩ ?_
  refine X.seq ?_
  refine X.seq (rs 2 ?_)
  obtain ⟨r1, hr3, hf2⟩ := s_NameOk t.f1 (by exact ht.1)
  replace hr3 := hr3.symm; subst hr3
  refine ca hf2 Try.func86 ?_
  refine go 2 ?_
  rcases Bool.eq_false_or_eq_true (!(nameOk t.f1)) with hb5 | hb5
  ·refine aT 6 hb5 ?_
   refine aT 7 hb5 ?_
   replace hb5 := bnot_yes (hb5)
   refine go 11 ?_
   refine ek ⟨[(1, .pt 64 0 0), (18, bV true)], [(64, some (.box (cD (d35 t))))], 352⟩ ?_
   refine X.ifT (by kernel_rfl) ?_
   refine sk ⟨[(2, bV false)], [], 368⟩ ?_
   refine X.ret ?_
   exact ⟨trivial, _, _, ⟨false, (by rw [Bool.eq_iff_iff]; simp only [txOk, Bool.and_eq_true, Bool.or_eq_true, inR_iff, decide_eq_true_eq, beq_iff_eq, Bool.false_eq_true, false_iff, true_iff, List.length_map]; first | (intro h; omega) | (intro h; simp_all; done) | (simp_all; done) | (simp_all; omega) | (constructor <;> intro h <;> (first | (simp_all; done) | (simp_all; omega) | omega))), rfl, rfl⟩, mkr⟩
  ·refine aF 6 hb5 ?_
   refine aF 7 hb5 ?_
   replace hb5 := bnot_no (hb5)
   refine go 2 ?_
   obtain ⟨r6, hr8, hf7⟩ := s_l1In t.f3 1 1000000
   replace hr8 := hr8.symm; subst hr8
   refine ca hf7 Try.func146 ?_
   refine go 3 ?_
   rcases Bool.eq_false_or_eq_true (!(inR t.f3 1 1000000)) with hb10 | hb10
   ·refine aT 11 hb10 ?_
    refine aT 12 hb10 ?_
    refine aT 13 hb10 ?_
    replace hb10 := inR_no (bnot_yes (hb10))
    refine go 5 ?_
    refine ek ⟨[(1, .pt 64 0 0), (18, bV true)], [(64, some (.box (cD (d35 t))))], 352⟩ ?_
    refine X.ifT (by kernel_rfl) ?_
    refine sk ⟨[(2, bV false)], [], 368⟩ ?_
    refine X.ret ?_
    exact ⟨trivial, _, _, ⟨false, (by rw [Bool.eq_iff_iff]; simp only [txOk, Bool.and_eq_true, Bool.or_eq_true, inR_iff, decide_eq_true_eq, beq_iff_eq, Bool.false_eq_true, false_iff, true_iff, List.length_map]; first | (intro h; omega) | (intro h; simp_all; done) | (simp_all; done) | (simp_all; omega) | (constructor <;> intro h <;> (first | (simp_all; done) | (simp_all; omega) | omega))), rfl, rfl⟩, mkr⟩
   ·refine aF 11 hb10 ?_
    refine aF 12 hb10 ?_
    refine aF 13 hb10 ?_
    replace hb10 := inR_yes (bnot_no (hb10))
    refine go 2 ?_
    obtain ⟨r11, hr13, hf12⟩ := s_l1In t.f4 0 10000
    replace hr13 := hr13.symm; subst hr13
    refine ca hf12 Try.func146 ?_
    refine go 2 ?_
    refine ek ⟨[(1, .pt 64 0 0), (18, bV (!(inR t.f4 0 10000)))], [(64, some (.box (cD (d35 t))))], 352⟩ ?_
    refine if_ (b := !(inR t.f4 0 10000)) (fun hb15 => ?_) (fun hb15 => ?_)
    ·replace hb15 := inR_no (bnot_yes (hb15))
     refine sk ⟨[(2, bV false)], [], 368⟩ ?_
     refine X.ret ?_
     exact ⟨trivial, _, _, ⟨false, (by rw [Bool.eq_iff_iff]; simp only [txOk, Bool.and_eq_true, Bool.or_eq_true, inR_iff, decide_eq_true_eq, beq_iff_eq, Bool.false_eq_true, false_iff, true_iff, List.length_map]; first | (intro h; omega) | (intro h; simp_all; done) | (simp_all; done) | (simp_all; omega) | (constructor <;> intro h <;> (first | (simp_all; done) | (simp_all; omega) | omega))), rfl, rfl⟩, mkr⟩
    ·replace hb15 := inR_yes (bnot_no (hb15))
     refine X.skip ?_
     refine X.seq ?_
     refine sk ⟨[(1, .pt 64 0 0), (21, bV (t.f0 == 1))], [(64, some (.box (cD (d35 t))))], 400⟩ ?_
     refine if_ (b := (t.f0 == 1)) (fun hb16 => ?_) (fun hb16 => ?_)
     ·replace hb16 := eq_of_beq (hb16)
      refine X.seq (rs 2 ?_)
      obtain ⟨r17, hr19, hf18⟩ := s_NameOk t.f2 (by exact ht.2)
      replace hr19 := hr19.symm; subst hr19
      refine ca hf18 Try.func86 ?_
      refine go 1 ?_
      refine ek ⟨[(2, bV (nameOk t.f2))], [], 464⟩ ?_
      refine X.ret ?_
      exact ⟨trivial, _, _, ⟨(nameOk t.f2), (by rw [Bool.eq_iff_iff]; simp only [txOk, Bool.and_eq_true, Bool.or_eq_true, inR_iff, decide_eq_true_eq, beq_iff_eq, Bool.false_eq_true, false_iff, true_iff, List.length_map]; first | (intro h; omega) | (intro h; simp_all; done) | (simp_all; done) | (simp_all; omega) | (constructor <;> intro h <;> (first | (simp_all; done) | (simp_all; omega) | omega))), rfl, rfl⟩, mkr⟩
     ·replace hb16 := beq_eq_false_iff_ne.1 (hb16)
      refine X.skip ?_
      refine X.seq (rs 2 ?_)
      obtain ⟨r21, hr23, hf22⟩ := s_l1In t.f0 2 3
      replace hr23 := hr23.symm; subst hr23
      refine ca hf22 Try.func146 ?_
      refine go 1 ?_
      rcases Bool.eq_false_or_eq_true ((inR t.f0 2 3)) with hb25 | hb25
      ·refine aT 27 hb25 ?_
       refine aT 28 hb25 ?_
       replace hb25 := inR_yes (hb25)
       refine go 5 ?_
       refine ek ⟨[(2, bV (t.f2.toList == (⟨#[]⟩ : ByteArray).toList))], [], 544⟩ ?_
       refine X.ret ?_
       exact ⟨trivial, _, _, ⟨(t.f2.toList == (⟨#[]⟩ : ByteArray).toList), (by rw [Bool.eq_iff_iff]; simp only [txOk, Bool.and_eq_true, Bool.or_eq_true, inR_iff, decide_eq_true_eq, beq_iff_eq, Bool.false_eq_true, false_iff, true_iff, List.length_map]; first | (intro h; omega) | (intro h; simp_all; done) | (simp_all; done) | (simp_all; omega) | (constructor <;> intro h <;> (first | (simp_all; done) | (simp_all; omega) | omega))), rfl, rfl⟩, mkr⟩
      ·refine aF 27 hb25 ?_
       refine aF 28 hb25 ?_
       replace hb25 := inR_no (hb25)
       refine go 5 ?_
       refine ek ⟨[(2, bV false)], [], 544⟩ ?_
       refine X.ret ?_
       exact ⟨trivial, _, _, ⟨false, (by rw [Bool.eq_iff_iff]; simp only [txOk, Bool.and_eq_true, Bool.or_eq_true, inR_iff, decide_eq_true_eq, beq_iff_eq, Bool.false_eq_true, false_iff, true_iff, List.length_map]; first | (intro h; omega) | (intro h; simp_all; done) | (simp_all; done) | (simp_all; omega) | (constructor <;> intro h <;> (first | (simp_all; done) | (simp_all; omega) | omega))), rfl, rfl⟩, mkr⟩
 obtain ⟨_, _, ⟨r0, h1_, rfl, rfl⟩, hf⟩ := key
 exact ⟨r0, h1_, hf⟩

theorem i_TxOk (t : S35) (ht : Sm35 t) : ∃ r0 : Bool, (r0 = txOk t) ∧ Fn Try.prog 114 [.e (.agg (cD (d35 t)))] (lookH []) (bV r0) (lookH []) := by
 have key : ∃ x' h', ((fun x' h' => ∃ r0 : Bool, (r0 = txOk t) ∧ x' = bV r0 ∧ h' = [])) x' h' ∧ Fn Try.prog 114 [.e (.agg (cD (d35 t)))] (lookH []) x' (lookH h') := by
  refine Fn.bodyX (N := 34) hτ Try.func114 rfl rfl rfl rfl ?_
  refine sk ⟨[(1, .pt 64 0 0)], [(64, some (.box (cD (d35 t))))], 96⟩ ?_
  refine X.seq ?_
  refine X.seq (rs 2 ?_)
  obtain ⟨r1, hr3, hf2⟩ := i_inRange t.f0 1 3
  replace hr3 := hr3.symm; subst hr3
  refine ca hf2 Try.func149 ?_
  refine go 2 ?_
  rcases Bool.eq_false_or_eq_true (!(inR t.f0 1 3)) with hb5 | hb5
  ·refine aT 6 hb5 ?_
   refine aT 7 hb5 ?_
   replace hb5 := inR_no (bnot_yes (hb5))
   refine go 17 ?_
   refine ek ⟨[(1, .pt 64 0 0), (24, bV true)], [(64, some (.box (cD (d35 t))))], 448⟩ ?_
   refine X.ifT (by kernel_rfl) ?_
   refine sk ⟨[(2, bV false)], [], 464⟩ ?_
   refine X.ret ?_
   exact ⟨trivial, _, _, ⟨false, (by rw [Bool.eq_iff_iff]; simp only [txOk, Bool.and_eq_true, Bool.or_eq_true, inR_iff, decide_eq_true_eq, beq_iff_eq, Bool.false_eq_true, false_iff, true_iff, List.length_map]; first | (intro h; omega) | (intro h; simp_all; done) | (simp_all; done) | (simp_all; omega) | (constructor <;> intro h <;> (first | (simp_all; done) | (simp_all; omega) | omega))), rfl, rfl⟩, mkr⟩
  ·refine aF 6 hb5 ?_
   refine aF 7 hb5 ?_
   replace hb5 := inR_yes (bnot_no (hb5))
   refine go 2 ?_
   obtain ⟨r6, hr8, hf7⟩ := i_NameOk t.f1 (by exact ht.1)
   replace hr8 := hr8.symm; subst hr8
   refine ca hf7 Try.func90 ?_
   refine go 3 ?_
   rcases Bool.eq_false_or_eq_true (!(nameOk t.f1)) with hb10 | hb10
   ·refine aT 11 hb10 ?_
    refine aT 12 hb10 ?_
    refine aT 13 hb10 ?_
    replace hb10 := bnot_yes (hb10)
    refine go 11 ?_
    refine ek ⟨[(1, .pt 64 0 0), (24, bV true)], [(64, some (.box (cD (d35 t))))], 448⟩ ?_
    refine X.ifT (by kernel_rfl) ?_
    refine sk ⟨[(2, bV false)], [], 464⟩ ?_
    refine X.ret ?_
    exact ⟨trivial, _, _, ⟨false, (by rw [Bool.eq_iff_iff]; simp only [txOk, Bool.and_eq_true, Bool.or_eq_true, inR_iff, decide_eq_true_eq, beq_iff_eq, Bool.false_eq_true, false_iff, true_iff, List.length_map]; first | (intro h; omega) | (intro h; simp_all; done) | (simp_all; done) | (simp_all; omega) | (constructor <;> intro h <;> (first | (simp_all; done) | (simp_all; omega) | omega))), rfl, rfl⟩, mkr⟩
   ·refine aF 11 hb10 ?_
    refine aF 12 hb10 ?_
    refine aF 13 hb10 ?_
    replace hb10 := bnot_no (hb10)
    refine go 2 ?_
    obtain ⟨r11, hr13, hf12⟩ := i_inRange t.f3 1 1000000
    replace hr13 := hr13.symm; subst hr13
    refine ca hf12 Try.func149 ?_
    refine go 3 ?_
    rcases Bool.eq_false_or_eq_true (!(inR t.f3 1 1000000)) with hb15 | hb15
    ·refine aT 17 hb15 ?_
     refine aT 18 hb15 ?_
     refine aT 19 hb15 ?_
     replace hb15 := inR_no (bnot_yes (hb15))
     refine go 5 ?_
     refine ek ⟨[(1, .pt 64 0 0), (24, bV true)], [(64, some (.box (cD (d35 t))))], 448⟩ ?_
     refine X.ifT (by kernel_rfl) ?_
     refine sk ⟨[(2, bV false)], [], 464⟩ ?_
     refine X.ret ?_
     exact ⟨trivial, _, _, ⟨false, (by rw [Bool.eq_iff_iff]; simp only [txOk, Bool.and_eq_true, Bool.or_eq_true, inR_iff, decide_eq_true_eq, beq_iff_eq, Bool.false_eq_true, false_iff, true_iff, List.length_map]; first | (intro h; omega) | (intro h; simp_all; done) | (simp_all; done) | (simp_all; omega) | (constructor <;> intro h <;> (first | (simp_all; done) | (simp_all; omega) | omega))), rfl, rfl⟩, mkr⟩
    ·refine aF 17 hb15 ?_
     refine aF 18 hb15 ?_
     refine aF 19 hb15 ?_
     replace hb15 := inR_yes (bnot_no (hb15))
     refine go 2 ?_
     obtain ⟨r16, hr18, hf17⟩ := i_inRange t.f4 0 10000
     replace hr18 := hr18.symm; subst hr18
     refine ca hf17 Try.func149 ?_
     refine go 2 ?_
     refine ek ⟨[(1, .pt 64 0 0), (24, bV (!(inR t.f4 0 10000)))], [(64, some (.box (cD (d35 t))))], 448⟩ ?_
     refine if_ (b := !(inR t.f4 0 10000)) (fun hb20 => ?_) (fun hb20 => ?_)
     ·replace hb20 := inR_no (bnot_yes (hb20))
      refine sk ⟨[(2, bV false)], [], 464⟩ ?_
      refine X.ret ?_
      exact ⟨trivial, _, _, ⟨false, (by rw [Bool.eq_iff_iff]; simp only [txOk, Bool.and_eq_true, Bool.or_eq_true, inR_iff, decide_eq_true_eq, beq_iff_eq, Bool.false_eq_true, false_iff, true_iff, List.length_map]; first | (intro h; omega) | (intro h; simp_all; done) | (simp_all; done) | (simp_all; omega) | (constructor <;> intro h <;> (first | (simp_all; done) | (simp_all; omega) | omega))), rfl, rfl⟩, mkr⟩
     ·replace hb20 := inR_yes (bnot_no (hb20))
      refine X.skip ?_
      refine X.seq ?_
      refine sk ⟨[(1, .pt 64 0 0), (27, bV (t.f0 == 1))], [(64, some (.box (cD (d35 t))))], 496⟩ ?_
      refine if_ (b := (t.f0 == 1)) (fun hb21 => ?_) (fun hb21 => ?_)
      ·replace hb21 := eq_of_beq (hb21)
       refine X.seq (rs 2 ?_)
       obtain ⟨r22, hr24, hf23⟩ := i_NameOk t.f2 (by exact ht.2)
       replace hr24 := hr24.symm; subst hr24
       refine ca hf23 Try.func90 ?_
       refine go 1 ?_
       refine ek ⟨[(2, bV (nameOk t.f2))], [], 560⟩ ?_
       refine X.ret ?_
       exact ⟨trivial, _, _, ⟨(nameOk t.f2), (by rw [Bool.eq_iff_iff]; simp only [txOk, Bool.and_eq_true, Bool.or_eq_true, inR_iff, decide_eq_true_eq, beq_iff_eq, Bool.false_eq_true, false_iff, true_iff, List.length_map]; first | (intro h; omega) | (intro h; simp_all; done) | (simp_all; done) | (simp_all; omega) | (constructor <;> intro h <;> (first | (simp_all; done) | (simp_all; omega) | omega))), rfl, rfl⟩, mkr⟩
      ·replace hb21 := beq_eq_false_iff_ne.1 (hb21)
       refine X.skip ?_
       refine sk ⟨[(2, bV (t.f2.toList == (⟨#[]⟩ : ByteArray).toList))], [], 560⟩ ?_
       refine X.ret ?_
       exact ⟨trivial, _, _, ⟨(t.f2.toList == (⟨#[]⟩ : ByteArray).toList), (by rw [Bool.eq_iff_iff]; simp only [txOk, Bool.and_eq_true, Bool.or_eq_true, inR_iff, decide_eq_true_eq, beq_iff_eq, Bool.false_eq_true, false_iff, true_iff, List.length_map]; first | (intro h; omega) | (intro h; simp_all; done) | (simp_all; done) | (simp_all; omega) | (constructor <;> intro h <;> (first | (simp_all; done) | (simp_all; omega) | omega))), rfl, rfl⟩, mkr⟩
 obtain ⟨_, _, ⟨r0, h1_, rfl, rfl⟩, hf⟩ := key
 exact ⟨r0, h1_, hf⟩

theorem i_txsOk (l : List S35) (hl : SmT l) : ∃ r0 : Bool, (r0 = l.all txOk) ∧ Fn Try.prog 177 [lV (l.map d35)] (lookH []) (bV r0) (lookH []) := by
 have key : ∃ x' h', ((fun x' h' => ∃ r0 : Bool, (r0 = l.all txOk) ∧ x' = bV r0 ∧ h' = [])) x' h' ∧ Fn Try.prog 177 [lV (l.map d35)] (lookH []) x' (lookH h') := by
  refine Fn.bodyX (N := 15) hτ Try.func177 rfl rfl rfl rfl ?_
  refine sk ⟨[(0, lV (l.map d35))], [], 80⟩ ?_
  refine X.seq ?_
  refine X.seq ?_
  have el1 : (l.map d35).length = l.length := List.length_map ..
  refine rk ⟨[(5, lV (l.map d35)), (6, iV ((l.map d35).length : Int)), (7, iV 0)], [], 128⟩ ?_
  refine X.block ?_
  -- 2: v7 : Int
  refine X.loop (σ := { g : Int // (fun (v7 : Int) => 0 ≤ v7 ∧ v7 ≤ l.length ∧ Upto (fun _ x => txOk x = true) (fun n => l[n]?) v7) g }) (fun g => (fun (v7 : Int) => ⟨[(5, lV (l.map d35)), (6, iV ((l.map d35).length : Int)), (7, iV v7)], [], 128⟩) g.1) (fun g => (fun (v7 : Int) => (l.length - v7).toNat) g.1) ⟨0, ⟨by first | omega | (dsimp only; omega), by first | omega | (dsimp only; omega), upto_zero⟩⟩ (Wk.less (by kernel_rfl)) (fun g => ?_)
  obtain ⟨v7, hg3⟩ := g
  have hg3 : 0 ≤ v7 ∧ v7 ≤ l.length ∧ Upto (fun _ x => txOk x = true) (fun n => l[n]?) v7 := hg3
  obtain ⟨_, _, hA⟩ := hg3
  refine X.seq ?_
  have hm := hl.1
  refine rk ⟨[(5, lV (l.map d35)), (6, iV ((l.map d35).length : Int)), (7, iV v7), (8, bV (decide ((v7 : Int) < ((l.map d35).length : Int))))], [], 144⟩ ?_
  refine X.seq ?_
  refine if_ (b := decide ((v7 : Int) < ((l.map d35).length : Int))) (fun hb4 => ?_) (fun hb4 => ?_)
  ·replace hb4 := of_decide_eq_true (hb4)
   refine X.skip ?_
   refine X.seq ?_
   refine X.block ?_
   refine X.seq (rs 0 ?_)
   obtain ⟨x5, hx5⟩ : ∃ x, l[Int.toNat v7]? = some x := ⟨_, List.getElem?_eq_getElem (by first | omega | (simp; done) | (simp; omega))⟩
   refine CH.idx hτ (d35 x5) (rows := (l.map d35)) (n := v7) (sz := 5) (by kernel_rfl) (by kernel_rfl) (by first | omega | (simp; done) | (simp; omega)) (by rw [List.getElem?_map, hx5]; rfl) (by kernel_rfl) ?_
   refine go 3 ?_
   refine ek ⟨[(4, .pt 176 0 0), (5, lV (l.map d35)), (6, iV ((l.map d35).length : Int)), (7, iV v7)], [(176, some (.box (cD (d35 x5))))], 208⟩ ?_
   refine X.seq (rs 1 ?_)
   obtain ⟨r6, hr8, hf7⟩ := i_TxOk x5 (by exact all_at hl.2 ‹_›)
   replace hr8 := hr8.symm; subst hr8
   refine ca hf7 Try.func114 ?_
   refine go 1 ?_
   refine ek ⟨[(5, lV (l.map d35)), (6, iV ((l.map d35).length : Int)), (7, iV v7), (13, bV (!(txOk x5)))], [], 256⟩ ?_
   refine if_ (b := !(txOk x5)) (fun hb10 => ?_) (fun hb10 => ?_)
   ·replace hb10 := bnot_yes (hb10)
    refine sk ⟨[(2, bV false)], [], 272⟩ ?_
    refine X.ret ?_
    exact ⟨trivial, _, _, ⟨false, (by first | exact (all_no ‹_› ‹_›).symm | exact (all_yes (upto_all hA (by omega))).symm), rfl, rfl⟩, mkr⟩
   ·replace hb10 := bnot_no (hb10)
    refine X.skip ?_
    refine X.rk ⟨[(5, lV (l.map d35)), (6, iV ((l.map d35).length : Int)), (7, iV (wrap64 (v7 + 1)))], [], 288⟩ hτ hmix (by kernel_rfl) (by kernel_rfl) (s2 := ⟨[(5, lV (l.map d35)), (6, iV ((l.map d35).length : Int)), (7, iV (v7 + 1))], [], 288⟩) (congrArg (fun z : Int => (⟨[(5, lV (l.map d35)), (6, iV ((l.map d35).length : Int)), (7, iV z)], [], 288⟩ : St)) (show wrap64 (v7 + 1) = (v7 + 1) by rw [w64 (n := (v7 + 1)) (by omega) (by omega)])) ?_
    refine ⟨⟨(v7 + 1), ⟨by first | omega | (dsimp only; omega), by first | omega | (dsimp only; omega), upto_nx (by first | omega | (dsimp only; omega)) hA ‹_› (‹_›)⟩⟩, by first | exact rfl | omega | (dsimp only; omega) | (simp only [List.length_append, List.length_cons, List.length_nil, List.length_set]; omega) | (simp; done) | (simp; omega), Wk.mk' [] (by kernel_rfl) (by kernel_rfl) (by kernel_rfl)⟩
  ·replace hb4 := of_decide_eq_false (hb4)
   refine X.exit ?_
   refine sk ⟨[(2, bV true)], [], 160⟩ ?_
   refine X.ret ?_
   exact ⟨trivial, _, _, ⟨true, (by first | exact (all_no ‹_› ‹_›).symm | exact (all_yes (upto_all hA (by omega))).symm), rfl, rfl⟩, mkr⟩
 obtain ⟨_, _, ⟨r0, h1_, rfl, rfl⟩, hf⟩ := key
 exact ⟨r0, h1_, hf⟩
end Go.Proofs.Ytggmeldoecnkaaa.Av
