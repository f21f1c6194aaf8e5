/-
What functions of the program come to, walked one by one.
Conditions: none beside those that each theorem names.
-/
import Derived.Test.YtggmeldoecnkaaaAvR
import Derived.Test.YtggmeldoecnkaaaAvH
import Derived.Test.YtggmeldoecnkaaaAv28
import Derived.Test.YtggmeldoecnkaaaAv36
set_option linter.unusedVariables false
set_option linter.unusedSimpArgs false
namespace Go.Proofs.Ytggmeldoecnkaaa.Av
open Go.RowKit
set_option maxRecDepth 20000
set_option maxHeartbeats 4000000

def mkStr (k : Int) (j : Int) (x : ByteArray) : Prop := x = mt (k + j)
def mkInt (k : Int) (j : Int) (x : Int) : Prop := x = k + j
def mkVal (k : Int) (j : Int) (x : S165) : Prop := x.f0 = mt (k + 2 * j) ∧ x.f1 = k + 2 * j + 1
def toVal (x : S158) : S165 := ⟨x.f0, x.f1⟩
def toQc (x : S55) : S68 := ⟨x.f0, x.f1, x.f2⟩
def toTc (x : S58) : S69 := ⟨x.f0, x.f1, x.f2⟩
def toBlock (x : S61) : S72 := ⟨x.f0, x.f1, x.f2, x.f3, (toQc x.f4), (toTc x.f5), (x.f6.map toTx), x.f7, (x.f8.map toVal), x.f9⟩

theorem map_idG {α : Type} {l q : List α} (hA : ∀ (j : Nat) (x : α), (j : Int) < l.length → l[j]? = some x → q[j]? = some (id x)) (hL : q.length = l.length) : q = l := by
  have := ts_end (f := id) (i := l.length) hA hL (by omega)
  simpa using this
/-- The sum of a weight. -/
def wgT {α : Type} (f : α → Nat) : List α → Nat
  | [] => 0
  | x :: l => f x + wgT f l
section
variable {α : Type} {f : α → Nat}
theorem wgT_app (l m : List α) : wgT f (l ++ m) = wgT f l + wgT f m := by
  induction l with
  | nil => simp [wgT]
  | cons x l ih => simp only [List.cons_append, wgT, ih]; omega
theorem wgT_take {l : List α} {i : Int} {x : α} (h0 : 0 ≤ i) (hx : l[i.toNat]? = some x) : wgT f (l.take (i + 1).toNat) = wgT f (l.take i.toNat) + f x := by
  rw [← take_succ h0 hx, wgT_app]
  rfl
theorem wgT_le (f : α → Nat) (l : List α) (n : Nat) : wgT f (l.take n) ≤ wgT f l := by
  have := wgT_app (f := f) (l.take n) (l.drop n)
  rw [List.take_append_drop] at this
  omega
theorem wgT_full {l : List α} {i : Int} (h : (l.length : Int) ≤ i) : wgT f (l.take i.toNat) = wgT f l := by rw [List.take_of_length_le (by omega)]
theorem wgT_mul {g : α → Nat} {c : Nat} (h : ∀ x, f x ≤ c * g x) (l : List α) : wgT f l ≤ c * wgT g l := by
  induction l with
  | nil => simp [wgT]
  | cons x l ih => simp only [wgT]; have := h x; rw [Nat.mul_add]; omega
theorem wgT_mp {β : Type} {t : β → α} {l : List β} {i : Int} {x : β} (h0 : 0 ≤ i) (hx : l[i.toNat]? = some x) : wgT f ((l.take (i + 1).toNat).map t) = wgT f ((l.take i.toNat).map t) + f (t x) := by
  rw [← take_succ h0 hx, List.map_append, wgT_app]
  rfl
theorem wgT_end {β : Type} {t : β → α} {l : List β} {i : Int} (h : (l.length : Int) ≤ i) : wgT f ((l.take i.toNat).map t) = wgT f (l.map t) := by rw [List.take_of_length_le (by omega)]
end
def blC (b : S72) : Nat := b.f4.f2.length + b.f5.f1.length + b.f5.f2.length + b.f6.length + b.f8.length
def blM (b : S72) : Nat := b.f4.f2.length + b.f5.f1.length + b.f5.f2.length + 5 * b.f6.length + 2 * b.f8.length
theorem blM_le (b : S72) : blM b ≤ 5 * blC b := by unfold blM blC; omega

theorem take_setB {α : Type} (l : List α) {i j : Nat} {y : α} (h : j ≤ i) : (l.set i y).take j = l.take j := by
  apply List.ext_getElem?
  intro n
  rw [List.getElem?_take, List.getElem?_take]
  split
  · rw [List.getElem?_set_ne (by omega)]
  · rfl

theorem wgT_setB {L : List S72} {i : Int} {y : S72} (h0 : 0 ≤ i) (hi : i < (L.length : Int)) : wgT blM ((L.set i.toNat y).take (i + 1).toNat) = wgT blM (L.take i.toNat) + (y.f4.f2.length + y.f5.f1.length + y.f5.f2.length + 5 * y.f6.length + 2 * y.f8.length) := by
  rw [wgT_take (x := y) h0 (by rw [List.getElem?_set_self (by omega)]), take_setB _ (Nat.le_refl _)]
  rfl
theorem wgT_takeB {l : List S72} {i : Int} {x : S72} (h0 : 0 ≤ i) (hx : l[i.toNat]? = some x) : wgT blM (l.take (i + 1).toNat) = wgT blM (l.take i.toNat) + (x.f4.f2.length + x.f5.f1.length + x.f5.f2.length + 5 * x.f6.length + 2 * x.f8.length) := wgT_take h0 hx
/-- A block's marks, from a number on. -/
def mkB1 (k : Int) (x : S72) : Prop := x.f0 = k ∧ x.f1 = k + 1 ∧ x.f2 = k + 2 ∧ x.f3 = mt (k + 3) ∧ x.f4.f0 = k + 4 ∧ x.f4.f1 = k + 5 ∧ Upto (mkStr (k + 6)) (fun n => x.f4.f2[n]?) x.f4.f2.length ∧ x.f5.f0 = k + 6 + x.f4.f2.length ∧ Upto (mkStr (k + 7 + x.f4.f2.length)) (fun n => x.f5.f1[n]?) x.f5.f1.length ∧ Upto (mkInt (k + 7 + x.f4.f2.length + x.f5.f1.length)) (fun n => x.f5.f2[n]?) x.f5.f2.length ∧ Upto (mkTx (k + 7 + x.f4.f2.length + x.f5.f1.length + x.f5.f2.length)) (fun n => x.f6[n]?) x.f6.length ∧ x.f7 = (Int.tmod (k + 7 + x.f4.f2.length + x.f5.f1.length + x.f5.f2.length + 5 * x.f6.length) 3 == 0) ∧ Upto (mkVal (k + 8 + x.f4.f2.length + x.f5.f1.length + x.f5.f2.length + 5 * x.f6.length)) (fun n => x.f8[n]?) x.f8.length ∧ x.f9 = mt (k + 8 + x.f4.f2.length + x.f5.f1.length + x.f5.f2.length + 5 * x.f6.length + 2 * x.f8.length)
def mkBk (k : Int) (l : List S72) (j : Int) (x : S72) : Prop := mkB1 (k + 9 * j + wgT blM (l.take j.toNat)) x
theorem mkBk_set {k : Int} {L : List S72} {i : Int} {y : S72} (hU : Upto (mkBk k L) (fun n => L[n]?) i) (h0 : 0 ≤ i) (hy : mkB1 (k + 9 * i + wgT blM (L.take i.toNat)) y) : Upto (mkBk k (L.set i.toNat y)) (fun n => (L.set i.toNat y)[n]?) (i + 1) := by
  intro j x h1 h2 hx
  have hx : (L.set i.toNat y)[j.toNat]? = some x := hx
  have ht : (L.set i.toNat y).take j.toNat = L.take j.toNat := take_setB _ (by omega)
  unfold mkBk
  rw [ht]
  by_cases q : j = i
  · subst q
    rw [set_get hx]
    exact hy
  · rw [List.getElem?_set_ne (by omega)] at hx
    exact hU j x h1 (by omega) hx
theorem upto_cast {α : Type} {R : Int → Int → α → Prop} {f : Nat → Option α} {a b n m : Int} (h : Upto (R a) f n) (e : a = b) (en : n = m) : Upto (R b) f m := by subst e; subst en; exact h
theorem addR_eq {l r0 : List S72} {b : S72} {r1 : Bool} (h1 : r1 = addOk l b) (h2 : r1 = true → r0 = addTo l b) (h3 : r1 = false → r0 = l) : addR l b = r0 := by
  cases hb : addOk l b with
  | true => rw [addR_yes hb, h2 (h1.trans hb)]
  | false => rw [addR_no hb, h3 (h1.trans hb)]
theorem addR_w {f : S72 → Nat} (l : List S72) (b : S72) : wgT f (addR l b) ≤ wgT f l + f b := by
  unfold addR
  split
  · unfold addTo insAt
    have h := wgT_app (f := f) (l.take (atOf l b)) (l.drop (atOf l b))
    rw [List.take_append_drop] at h
    rw [wgT_app, wgT_app]
    simp only [wgT]
    omega
  · omega
theorem t_eqStringS (l : List ByteArray) (m : List ByteArray) (hl : l.length ≤ 2000000) (hm : m.length ≤ 2000000) : ∃ r0 : Bool, (r0 = allEq l m) ∧ Fn Try.prog 144 [lV (l.map dS), lV (m.map dS)] (lookH []) (bV r0) (lookH []) := by
 have key : ∃ x' h', ((fun x' h' => ∃ r0 : Bool, (r0 = allEq l m) ∧ x' = bV r0 ∧ h' = [])) x' h' ∧ Fn Try.prog 144 [lV (l.map dS), lV (m.map dS)] (lookH []) x' (lookH h') := by
  refine Fn.bodyX (N := 26) hτ Try.func144 rfl rfl rfl rfl ?_
  refine sk ⟨[(0, lV (l.map dS)), (1, lV (m.map dS))], [], 80⟩ ?_
  refine X.seq ?_
  refine X.seq ?_
  have el1 : (l.map dS).length = l.length := List.length_map ..
  have el2 : (m.map dS).length = m.length := List.length_map ..
  refine rk ⟨[(0, lV (l.map dS)), (1, lV (m.map dS)), (10, bV (((l.map dS).length : Int) != ((m.map dS).length : Int)))], [], 160⟩ ?_
  refine if_ (b := (((l.map dS).length : Int) != ((m.map dS).length : Int))) (fun hb3 => ?_) (fun hb3 => ?_)
  ·replace hb3 := bne_iff_ne.1 (hb3)
   refine sk ⟨[(4, bV false)], [], 176⟩ ?_
   refine X.ret ?_
   exact ⟨trivial, _, _, ⟨false, (by first | exact fls (fun h => by have := congrArg List.length h; omega) | exact fls (eq_noS ‹_› ‹_› ‹_›) | exact tru (eq_all hA (by omega) (by omega))), rfl, rfl⟩, mkr⟩
  ·replace hb3 := bne_eq_false_iff_eq.1 (hb3)
   refine X.skip ?_
   refine X.seq ?_
   refine sk ⟨[(0, lV (l.map dS)), (1, lV (m.map dS)), (5, iV 0)], [], 176⟩ ?_
   refine X.block ?_
   -- 4: v5 : Int
   refine X.loop (σ := { g : Int // (fun (v5 : Int) => 0 ≤ v5 ∧ v5 ≤ l.length ∧ Upto (fun j x => m[j.toNat]? = some x) (fun n => l[n]?) v5) g }) (fun g => (fun (v5 : Int) => ⟨[(0, lV (l.map dS)), (1, lV (m.map dS)), (5, iV v5)], [], 176⟩) g.1) (fun g => (fun (v5 : Int) => (l.length - v5).toNat) g.1) ⟨0, ⟨by first | omega | (dsimp only; omega), by first | omega | (dsimp only; omega), upto_zero⟩⟩ (Wk.less (by kernel_rfl)) (fun g => ?_)
   obtain ⟨v5, hg5⟩ := g
   have hg5 : 0 ≤ v5 ∧ v5 ≤ l.length ∧ Upto (fun j x => m[j.toNat]? = some x) (fun n => l[n]?) v5 := hg5
   obtain ⟨_, _, hA⟩ := hg5
   refine X.seq ?_
   refine sk ⟨[(0, lV (l.map dS)), (1, lV (m.map dS)), (5, iV v5), (14, bV (decide ((v5 : Int) < ((l.map dS).length : Int))))], [], 240⟩ ?_
   refine if_ (b := decide ((v5 : Int) < ((l.map dS).length : Int))) (fun hb6 => ?_) (fun hb6 => ?_)
   ·replace hb6 := of_decide_eq_true (hb6)
    refine X.skip ?_
    refine X.seq ?_
    refine X.block ?_
    refine X.seq (rs 2 ?_)
    obtain ⟨x7, hx7⟩ : ∃ x, l[Int.toNat v5]? = some x := ⟨_, List.getElem?_eq_getElem (by first | omega | (simp; done) | (simp; omega))⟩
    refine CH.idx hτ (dS x7) (rows := (l.map dS)) (n := v5) (sz := 1) (by kernel_rfl) (by kernel_rfl) (by first | omega | (simp; done) | (simp; omega)) (by rw [List.getElem?_map, hx7]; rfl) (by kernel_rfl) ?_
    refine go 3 ?_
    obtain ⟨x8, hx8⟩ : ∃ x, m[Int.toNat v5]? = some x := ⟨_, List.getElem?_eq_getElem (by first | omega | (simp; done) | (simp; omega))⟩
    refine CH.idx hτ (dS x8) (rows := (m.map dS)) (n := v5) (sz := 1) (by kernel_rfl) (by kernel_rfl) (by first | omega | (simp; done) | (simp; omega)) (by rw [List.getElem?_map, hx8]; rfl) (by kernel_rfl) ?_
    refine go 2 ?_
    refine ek ⟨[(0, lV (l.map dS)), (1, lV (m.map dS)), (5, iV v5), (25, bV (!(x7.toList == x8.toList)))], [], 384⟩ ?_
    refine if_ (b := !(x7.toList == x8.toList)) (fun hb9 => ?_) (fun hb9 => ?_)
    ·replace hb9 := beq_no (bnot_yes (hb9))
     refine sk ⟨[(4, bV false)], [], 400⟩ ?_
     refine X.ret ?_
     exact ⟨trivial, _, _, ⟨false, (by first | exact fls (fun h => by have := congrArg List.length h; omega) | exact fls (eq_noS ‹_› ‹_› ‹_›) | exact tru (eq_all hA (by omega) (by omega))), rfl, rfl⟩, mkr⟩
    ·replace hb9 := beq_yes (bnot_no (hb9))
     refine X.skip ?_
     refine X.rk ⟨[(0, lV (l.map dS)), (1, lV (m.map dS)), (5, iV (wrap64 (v5 + 1)))], [], 432⟩ hτ hmix (by kernel_rfl) (by kernel_rfl) (s2 := ⟨[(0, lV (l.map dS)), (1, lV (m.map dS)), (5, iV (v5 + 1))], [], 432⟩) (congrArg (fun z : Int => (⟨[(0, lV (l.map dS)), (1, lV (m.map dS)), (5, iV z)], [], 432⟩ : St)) (show wrap64 (v5 + 1) = (v5 + 1) by rw [w64 (n := (v5 + 1)) (by omega) (by omega)])) ?_
     refine ⟨⟨(v5 + 1), ⟨by first | omega | (dsimp only; omega), by first | omega | (dsimp only; omega), upto_nx (by first | omega | (dsimp only; omega)) hA ‹_› (eq_stp ‹_› (tl_inj.1 ‹_›))⟩⟩, by first | exact rfl | omega | (dsimp only; omega) | (simp only [List.length_append, List.length_cons, List.length_nil, List.length_set]; omega) | (simp; done) | (simp; omega), Wk.mk' [] (by kernel_rfl) (by kernel_rfl) (by kernel_rfl)⟩
   ·replace hb6 := of_decide_eq_false (hb6)
    refine X.exit ?_
    refine sk ⟨[(4, bV true)], [], 256⟩ ?_
    refine X.ret ?_
    exact ⟨trivial, _, _, ⟨true, (by first | exact fls (fun h => by have := congrArg List.length h; omega) | exact fls (eq_noS ‹_› ‹_› ‹_›) | exact tru (eq_all hA (by omega) (by omega))), rfl, rfl⟩, mkr⟩
 obtain ⟨_, _, ⟨r0, h1_, rfl, rfl⟩, hf⟩ := key
 exact ⟨r0, h1_, hf⟩

theorem t_eqIntS (l : List Int) (m : List Int) (hl : l.length ≤ 2000000) (hm : m.length ≤ 2000000) : ∃ r0 : Bool, (r0 = allEq l m) ∧ Fn Try.prog 96 [lV (l.map dI), lV (m.map dI)] (lookH []) (bV r0) (lookH []) := by
 have key : ∃ x' h', ((fun x' h' => ∃ r0 : Bool, (r0 = allEq l m) ∧ x' = bV r0 ∧ h' = [])) x' h' ∧ Fn Try.prog 96 [lV (l.map dI), lV (m.map dI)] (lookH []) x' (lookH h') := by
  refine Fn.bodyX (N := 26) hτ Try.func96 rfl rfl rfl rfl ?_
  refine sk ⟨[(0, lV (l.map dI)), (1, lV (m.map dI))], [], 80⟩ ?_
  refine X.seq ?_
  refine X.seq ?_
  have el1 : (l.map dI).length = l.length := List.length_map ..
  have el2 : (m.map dI).length = m.length := List.length_map ..
  refine rk ⟨[(0, lV (l.map dI)), (1, lV (m.map dI)), (10, bV (((l.map dI).length : Int) != ((m.map dI).length : Int)))], [], 160⟩ ?_
  refine if_ (b := (((l.map dI).length : Int) != ((m.map dI).length : Int))) (fun hb3 => ?_) (fun hb3 => ?_)
  ·replace hb3 := bne_iff_ne.1 (hb3)
   refine sk ⟨[(4, bV false)], [], 176⟩ ?_
   refine X.ret ?_
   exact ⟨trivial, _, _, ⟨false, (by first | exact fls (fun h => by have := congrArg List.length h; omega) | exact fls (eq_no ‹_› ‹_› ‹_›) | exact tru (eq_all hA (by omega) (by omega))), rfl, rfl⟩, mkr⟩
  ·replace hb3 := bne_eq_false_iff_eq.1 (hb3)
   refine X.skip ?_
   refine X.seq ?_
   refine sk ⟨[(0, lV (l.map dI)), (1, lV (m.map dI)), (5, iV 0)], [], 176⟩ ?_
   refine X.block ?_
   -- 4: v5 : Int
   refine X.loop (σ := { g : Int // (fun (v5 : Int) => 0 ≤ v5 ∧ v5 ≤ l.length ∧ Upto (fun j x => m[j.toNat]? = some x) (fun n => l[n]?) v5) g }) (fun g => (fun (v5 : Int) => ⟨[(0, lV (l.map dI)), (1, lV (m.map dI)), (5, iV v5)], [], 176⟩) g.1) (fun g => (fun (v5 : Int) => (l.length - v5).toNat) g.1) ⟨0, ⟨by first | omega | (dsimp only; omega), by first | omega | (dsimp only; omega), upto_zero⟩⟩ (Wk.less (by kernel_rfl)) (fun g => ?_)
   obtain ⟨v5, hg5⟩ := g
   have hg5 : 0 ≤ v5 ∧ v5 ≤ l.length ∧ Upto (fun j x => m[j.toNat]? = some x) (fun n => l[n]?) v5 := hg5
   obtain ⟨_, _, hA⟩ := hg5
   refine X.seq ?_
   refine sk ⟨[(0, lV (l.map dI)), (1, lV (m.map dI)), (5, iV v5), (14, bV (decide ((v5 : Int) < ((l.map dI).length : Int))))], [], 240⟩ ?_
   refine if_ (b := decide ((v5 : Int) < ((l.map dI).length : Int))) (fun hb6 => ?_) (fun hb6 => ?_)
   ·replace hb6 := of_decide_eq_true (hb6)
    refine X.skip ?_
    refine X.seq ?_
    refine X.block ?_
    refine X.seq (rs 2 ?_)
    obtain ⟨x7, hx7⟩ : ∃ x, l[Int.toNat v5]? = some x := ⟨_, List.getElem?_eq_getElem (by first | omega | (simp; done) | (simp; omega))⟩
    refine CH.idx hτ (dI x7) (rows := (l.map dI)) (n := v5) (sz := 1) (by kernel_rfl) (by kernel_rfl) (by first | omega | (simp; done) | (simp; omega)) (by rw [List.getElem?_map, hx7]; rfl) (by kernel_rfl) ?_
    refine go 3 ?_
    obtain ⟨x8, hx8⟩ : ∃ x, m[Int.toNat v5]? = some x := ⟨_, List.getElem?_eq_getElem (by first | omega | (simp; done) | (simp; omega))⟩
    refine CH.idx hτ (dI x8) (rows := (m.map dI)) (n := v5) (sz := 1) (by kernel_rfl) (by kernel_rfl) (by first | omega | (simp; done) | (simp; omega)) (by rw [List.getElem?_map, hx8]; rfl) (by kernel_rfl) ?_
    refine go 2 ?_
    refine ek ⟨[(0, lV (l.map dI)), (1, lV (m.map dI)), (5, iV v5), (25, bV (x7 != x8))], [], 384⟩ ?_
    refine if_ (b := (x7 != x8)) (fun hb9 => ?_) (fun hb9 => ?_)
    ·replace hb9 := bne_iff_ne.1 (hb9)
     refine sk ⟨[(4, bV false)], [], 400⟩ ?_
     refine X.ret ?_
     exact ⟨trivial, _, _, ⟨false, (by first | exact fls (fun h => by have := congrArg List.length h; omega) | exact fls (eq_no ‹_› ‹_› ‹_›) | exact tru (eq_all hA (by omega) (by omega))), rfl, rfl⟩, mkr⟩
    ·replace hb9 := bne_eq_false_iff_eq.1 (hb9)
     refine X.skip ?_
     refine X.rk ⟨[(0, lV (l.map dI)), (1, lV (m.map dI)), (5, iV (wrap64 (v5 + 1)))], [], 432⟩ hτ hmix (by kernel_rfl) (by kernel_rfl) (s2 := ⟨[(0, lV (l.map dI)), (1, lV (m.map dI)), (5, iV (v5 + 1))], [], 432⟩) (congrArg (fun z : Int => (⟨[(0, lV (l.map dI)), (1, lV (m.map dI)), (5, iV z)], [], 432⟩ : St)) (show wrap64 (v5 + 1) = (v5 + 1) by rw [w64 (n := (v5 + 1)) (by omega) (by omega)])) ?_
     refine ⟨⟨(v5 + 1), ⟨by first | omega | (dsimp only; omega), by first | omega | (dsimp only; omega), upto_nx (by first | omega | (dsimp only; omega)) hA ‹_› (eq_stp ‹_› ‹_›)⟩⟩, by first | exact rfl | omega | (dsimp only; omega) | (simp only [List.length_append, List.length_cons, List.length_nil, List.length_set]; omega) | (simp; done) | (simp; omega), Wk.mk' [] (by kernel_rfl) (by kernel_rfl) (by kernel_rfl)⟩
   ·replace hb6 := of_decide_eq_false (hb6)
    refine X.exit ?_
    refine sk ⟨[(4, bV true)], [], 256⟩ ?_
    refine X.ret ?_
    exact ⟨trivial, _, _, ⟨true, (by first | exact fls (fun h => by have := congrArg List.length h; omega) | exact fls (eq_no ‹_› ‹_› ‹_›) | exact tru (eq_all hA (by omega) (by omega))), rfl, rfl⟩, mkr⟩
 obtain ⟨_, _, ⟨r0, h1_, rfl, rfl⟩, hf⟩ := key
 exact ⟨r0, h1_, hf⟩

theorem t_eqVal (a : S165) (b : S165) : ∃ r0 : Bool, (r0 = sm165 a b) ∧ Fn Try.prog 145 [.e (.agg [.d (.v (.string a.f0)), .d (.v (.int .i64 a.f1))]), .e (.agg [.d (.v (.string b.f0)), .d (.v (.int .i64 b.f1))])] (lookH []) (bV r0) (lookH []) := by
 have key : ∃ x' h', ((fun x' h' => ∃ r0 : Bool, (r0 = sm165 a b) ∧ x' = bV r0 ∧ h' = [])) x' h' ∧ Fn Try.prog 145 [.e (.agg [.d (.v (.string a.f0)), .d (.v (.int .i64 a.f1))]), .e (.agg [.d (.v (.string b.f0)), .d (.v (.int .i64 b.f1))])] (lookH []) x' (lookH h') := by
  refine Fn.bodyX (N := 15) hτ Try.func145 rfl rfl rfl rfl ?_
  refine sk ⟨[(2, .pt 64 0 0), (3, .pt 80 0 0)], [(64, some (.box [.d (.v (.string a.f0)), .d (.v (.int .i64 a.f1))])), (80, some (.box [.d (.v (.string b.f0)), .d (.v (.int .i64 b.f1))]))], 112⟩ ?_
  refine X.seq ?_
  refine sk ⟨[(2, .pt 64 0 0), (3, .pt 80 0 0), (9, bV (!(a.f0.toList == b.f0.toList)))], [(64, some (.box [.d (.v (.string a.f0)), .d (.v (.int .i64 a.f1))])), (80, some (.box [.d (.v (.string b.f0)), .d (.v (.int .i64 b.f1))]))], 192⟩ ?_
  refine if_ (b := !(a.f0.toList == b.f0.toList)) (fun hb1 => ?_) (fun hb1 => ?_)
  ·replace hb1 := beq_no (bnot_yes (hb1))
   refine sk ⟨[(4, bV false)], [], 208⟩ ?_
   refine X.ret ?_
   exact ⟨trivial, _, _, ⟨false, (by simp_all [sm165]), rfl, rfl⟩, mkr⟩
  ·replace hb1 := beq_yes (bnot_no (hb1))
   refine X.skip ?_
   refine X.seq ?_
   refine sk ⟨[(14, bV (a.f1 != b.f1))], [], 272⟩ ?_
   refine if_ (b := (a.f1 != b.f1)) (fun hb2 => ?_) (fun hb2 => ?_)
   ·replace hb2 := bne_iff_ne.1 (hb2)
    refine sk ⟨[(4, bV false)], [], 288⟩ ?_
    refine X.ret ?_
    exact ⟨trivial, _, _, ⟨false, (by simp_all [sm165]), rfl, rfl⟩, mkr⟩
   ·replace hb2 := bne_eq_false_iff_eq.1 (hb2)
    refine X.skip ?_
    refine sk ⟨[(4, bV true)], [], 288⟩ ?_
    refine X.ret ?_
    exact ⟨trivial, _, _, ⟨true, (by simp_all [sm165]), rfl, rfl⟩, mkr⟩
 obtain ⟨_, _, ⟨r0, h1_, rfl, rfl⟩, hf⟩ := key
 exact ⟨r0, h1_, hf⟩

theorem t_eqValS (l : List S165) (m : List S165) (hl : l.length ≤ 2000000) (hm : m.length ≤ 2000000) : ∃ r0 : Bool, (r0 = allEq l m) ∧ Fn Try.prog 77 [lV (l.map d165), lV (m.map d165)] (lookH []) (bV r0) (lookH []) := by
 have key : ∃ x' h', ((fun x' h' => ∃ r0 : Bool, (r0 = allEq l m) ∧ x' = bV r0 ∧ h' = [])) x' h' ∧ Fn Try.prog 77 [lV (l.map d165), lV (m.map d165)] (lookH []) x' (lookH h') := by
  refine Fn.bodyX (N := 27) hτ Try.func77 rfl rfl rfl rfl ?_
  refine sk ⟨[(0, lV (l.map d165)), (1, lV (m.map d165))], [], 80⟩ ?_
  refine X.seq ?_
  refine X.seq ?_
  have el1 : (l.map d165).length = l.length := List.length_map ..
  have el2 : (m.map d165).length = m.length := List.length_map ..
  refine rk ⟨[(0, lV (l.map d165)), (1, lV (m.map d165)), (10, bV (((l.map d165).length : Int) != ((m.map d165).length : Int)))], [], 160⟩ ?_
  refine if_ (b := (((l.map d165).length : Int) != ((m.map d165).length : Int))) (fun hb3 => ?_) (fun hb3 => ?_)
  ·replace hb3 := bne_iff_ne.1 (hb3)
   refine sk ⟨[(4, bV false)], [], 176⟩ ?_
   refine X.ret ?_
   exact ⟨trivial, _, _, ⟨false, (by first | exact fls (fun h => by have := congrArg List.length h; omega) | exact fls (eq_no ‹_› ‹_› ‹_›) | exact tru (eq_all hA (by omega) (by omega))), rfl, rfl⟩, mkr⟩
  ·replace hb3 := bne_eq_false_iff_eq.1 (hb3)
   refine X.skip ?_
   refine X.seq ?_
   refine sk ⟨[(0, lV (l.map d165)), (1, lV (m.map d165)), (5, iV 0)], [], 176⟩ ?_
   refine X.block ?_
   -- 4: v5 : Int
   refine X.loop (σ := { g : Int // (fun (v5 : Int) => 0 ≤ v5 ∧ v5 ≤ l.length ∧ Upto (fun j x => m[j.toNat]? = some x) (fun n => l[n]?) v5) g }) (fun g => (fun (v5 : Int) => ⟨[(0, lV (l.map d165)), (1, lV (m.map d165)), (5, iV v5)], [], 176⟩) g.1) (fun g => (fun (v5 : Int) => (l.length - v5).toNat) g.1) ⟨0, ⟨by first | omega | (dsimp only; omega), by first | omega | (dsimp only; omega), upto_zero⟩⟩ (Wk.less (by kernel_rfl)) (fun g => ?_)
   obtain ⟨v5, hg5⟩ := g
   have hg5 : 0 ≤ v5 ∧ v5 ≤ l.length ∧ Upto (fun j x => m[j.toNat]? = some x) (fun n => l[n]?) v5 := hg5
   obtain ⟨_, _, hA⟩ := hg5
   refine X.seq ?_
   refine sk ⟨[(0, lV (l.map d165)), (1, lV (m.map d165)), (5, iV v5), (14, bV (decide ((v5 : Int) < ((l.map d165).length : Int))))], [], 240⟩ ?_
   refine if_ (b := decide ((v5 : Int) < ((l.map d165).length : Int))) (fun hb6 => ?_) (fun hb6 => ?_)
   ·replace hb6 := of_decide_eq_true (hb6)
    refine X.skip ?_
    refine X.seq ?_
    refine X.block ?_
    refine X.seq (rs 2 ?_)
    obtain ⟨x7, hx7⟩ : ∃ x, l[Int.toNat v5]? = some x := ⟨_, List.getElem?_eq_getElem (by first | omega | (simp; done) | (simp; omega))⟩
    refine CH.idx hτ (d165 x7) (rows := (l.map d165)) (n := v5) (sz := 2) (by kernel_rfl) (by kernel_rfl) (by first | omega | (simp; done) | (simp; omega)) (by rw [List.getElem?_map, hx7]; rfl) (by kernel_rfl) ?_
    refine go 3 ?_
    obtain ⟨x8, hx8⟩ : ∃ x, m[Int.toNat v5]? = some x := ⟨_, List.getElem?_eq_getElem (by first | omega | (simp; done) | (simp; omega))⟩
    refine CH.idx hτ (d165 x8) (rows := (m.map d165)) (n := v5) (sz := 2) (by kernel_rfl) (by kernel_rfl) (by first | omega | (simp; done) | (simp; omega)) (by rw [List.getElem?_map, hx8]; rfl) (by kernel_rfl) ?_
    refine go 1 ?_
    obtain ⟨r9, hr11, hf10⟩ := t_eqVal x7 x8
    replace hr11 := hr11.symm; subst hr11
    refine ca hf10 Try.func145 ?_
    refine go 1 ?_
    refine ek ⟨[(0, lV (l.map d165)), (1, lV (m.map d165)), (5, iV v5), (26, bV (!(sm165 x7 x8)))], [], 400⟩ ?_
    refine if_ (b := !(sm165 x7 x8)) (fun hb13 => ?_) (fun hb13 => ?_)
    ·replace hb13 := sm_no sm165_iff (bnot_yes (hb13))
     refine sk ⟨[(4, bV false)], [], 416⟩ ?_
     refine X.ret ?_
     exact ⟨trivial, _, _, ⟨false, (by first | exact fls (fun h => by have := congrArg List.length h; omega) | exact fls (eq_no ‹_› ‹_› ‹_›) | exact tru (eq_all hA (by omega) (by omega))), rfl, rfl⟩, mkr⟩
    ·replace hb13 := (sm165_iff _ _).1 (bnot_no (hb13))
     refine X.skip ?_
     refine X.rk ⟨[(0, lV (l.map d165)), (1, lV (m.map d165)), (5, iV (wrap64 (v5 + 1)))], [], 448⟩ hτ hmix (by kernel_rfl) (by kernel_rfl) (s2 := ⟨[(0, lV (l.map d165)), (1, lV (m.map d165)), (5, iV (v5 + 1))], [], 448⟩) (congrArg (fun z : Int => (⟨[(0, lV (l.map d165)), (1, lV (m.map d165)), (5, iV z)], [], 448⟩ : St)) (show wrap64 (v5 + 1) = (v5 + 1) by rw [w64 (n := (v5 + 1)) (by omega) (by omega)])) ?_
     refine ⟨⟨(v5 + 1), ⟨by first | omega | (dsimp only; omega), by first | omega | (dsimp only; omega), upto_nx (by first | omega | (dsimp only; omega)) hA ‹_› (eq_stp ‹_› ‹_›)⟩⟩, by first | exact rfl | omega | (dsimp only; omega) | (simp only [List.length_append, List.length_cons, List.length_nil, List.length_set]; omega) | (simp; done) | (simp; omega), Wk.mk' [] (by kernel_rfl) (by kernel_rfl) (by kernel_rfl)⟩
   ·replace hb6 := of_decide_eq_false (hb6)
    refine X.exit ?_
    refine sk ⟨[(4, bV true)], [], 256⟩ ?_
    refine X.ret ?_
    exact ⟨trivial, _, _, ⟨true, (by first | exact fls (fun h => by have := congrArg List.length h; omega) | exact fls (eq_no ‹_› ‹_› ‹_›) | exact tru (eq_all hA (by omega) (by omega))), rfl, rfl⟩, mkr⟩
 obtain ⟨_, _, ⟨r0, h1_, rfl, rfl⟩, hf⟩ := key
 exact ⟨r0, h1_, hf⟩

theorem t_eqQc (q : S68) (r : S68) (hq : q.f2.length ≤ 2000000) (hr : r.f2.length ≤ 2000000) : ∃ r0 : Bool, (r0 = sameQ q r) ∧ Fn Try.prog 75 [.e (.agg (cD (d68 q))), .e (.agg (cD (d68 r)))] (lookH []) (bV r0) (lookH []) := by
 have key : ∃ x' h', ((fun x' h' => ∃ r0 : Bool, (r0 = sameQ q r) ∧ x' = bV r0 ∧ h' = [])) x' h' ∧ Fn Try.prog 75 [.e (.agg (cD (d68 q))), .e (.agg (cD (d68 r)))] (lookH []) x' (lookH h') := by
  refine Fn.bodyX (N := 21) hτ Try.func75 rfl rfl rfl rfl ?_
  refine sk ⟨[(2, .pt 64 0 0), (3, .pt 80 0 0)], [(64, some (.box (cD (d68 q)))), (80, some (.box (cD (d68 r))))], 112⟩ ?_
  refine X.seq ?_
  refine sk ⟨[(2, .pt 64 0 0), (3, .pt 80 0 0), (9, bV (q.f0 != r.f0))], [(64, some (.box (cD (d68 q)))), (80, some (.box (cD (d68 r))))], 192⟩ ?_
  refine if_ (b := (q.f0 != r.f0)) (fun hb1 => ?_) (fun hb1 => ?_)
  ·replace hb1 := bne_iff_ne.1 (hb1)
   refine sk ⟨[(4, bV false)], [], 208⟩ ?_
   refine X.ret ?_
   exact ⟨trivial, _, _, ⟨false, (by simp_all [sameQ]), rfl, rfl⟩, mkr⟩
  ·replace hb1 := bne_eq_false_iff_eq.1 (hb1)
   refine X.skip ?_
   refine X.seq ?_
   refine sk ⟨[(2, .pt 64 0 0), (3, .pt 80 0 0), (14, bV (q.f1 != r.f1))], [(64, some (.box (cD (d68 q)))), (80, some (.box (cD (d68 r))))], 272⟩ ?_
   refine if_ (b := (q.f1 != r.f1)) (fun hb2 => ?_) (fun hb2 => ?_)
   ·replace hb2 := bne_iff_ne.1 (hb2)
    refine sk ⟨[(4, bV false)], [], 288⟩ ?_
    refine X.ret ?_
    exact ⟨trivial, _, _, ⟨false, (by simp_all [sameQ]), rfl, rfl⟩, mkr⟩
   ·replace hb2 := bne_eq_false_iff_eq.1 (hb2)
    refine X.skip ?_
    refine X.seq ?_
    refine X.seq (rs 4 ?_)
    obtain ⟨r3, hr5, hf4⟩ := t_eqStringS q.f2 r.f2 (by first | assumption | omega) (by first | assumption | omega)
    replace hr5 := hr5.symm; subst hr5
    refine ca hf4 Try.func144 ?_
    refine go 1 ?_
    refine ek ⟨[(20, bV (!(allEq q.f2 r.f2)))], [], 368⟩ ?_
    refine if_ (b := !(allEq q.f2 r.f2)) (fun hb7 => ?_) (fun hb7 => ?_)
    ·replace hb7 := bnot_yes (hb7)
     refine sk ⟨[(4, bV false)], [], 384⟩ ?_
     refine X.ret ?_
     exact ⟨trivial, _, _, ⟨false, (by simp_all [sameQ]), rfl, rfl⟩, mkr⟩
    ·replace hb7 := bnot_no (hb7)
     refine X.skip ?_
     refine sk ⟨[(4, bV true)], [], 384⟩ ?_
     refine X.ret ?_
     exact ⟨trivial, _, _, ⟨true, (by simp_all [sameQ]), rfl, rfl⟩, mkr⟩
 obtain ⟨_, _, ⟨r0, h1_, rfl, rfl⟩, hf⟩ := key
 exact ⟨r0, h1_, hf⟩

theorem t_eqTc (q : S69) (r : S69) (hq : q.f1.length ≤ 2000000) (hq2 : q.f2.length ≤ 2000000) (hr : r.f1.length ≤ 2000000) (hr2 : r.f2.length ≤ 2000000) : ∃ r0 : Bool, (r0 = sameT q r) ∧ Fn Try.prog 76 [.e (.agg (cD (d69 q))), .e (.agg (cD (d69 r)))] (lookH []) (bV r0) (lookH []) := by
 have key : ∃ x' h', ((fun x' h' => ∃ r0 : Bool, (r0 = sameT q r) ∧ x' = bV r0 ∧ h' = [])) x' h' ∧ Fn Try.prog 76 [.e (.agg (cD (d69 q))), .e (.agg (cD (d69 r)))] (lookH []) x' (lookH h') := by
  refine Fn.bodyX (N := 22) hτ Try.func76 rfl rfl rfl rfl ?_
  refine sk ⟨[(2, .pt 64 0 0), (3, .pt 80 0 0)], [(64, some (.box (cD (d69 q)))), (80, some (.box (cD (d69 r))))], 112⟩ ?_
  refine X.seq ?_
  refine sk ⟨[(2, .pt 64 0 0), (3, .pt 80 0 0), (9, bV (q.f0 != r.f0))], [(64, some (.box (cD (d69 q)))), (80, some (.box (cD (d69 r))))], 192⟩ ?_
  refine if_ (b := (q.f0 != r.f0)) (fun hb1 => ?_) (fun hb1 => ?_)
  ·replace hb1 := bne_iff_ne.1 (hb1)
   refine sk ⟨[(4, bV false)], [], 208⟩ ?_
   refine X.ret ?_
   exact ⟨trivial, _, _, ⟨false, (by simp_all [sameT]), rfl, rfl⟩, mkr⟩
  ·replace hb1 := bne_eq_false_iff_eq.1 (hb1)
   refine X.skip ?_
   refine X.seq ?_
   refine X.seq (rs 4 ?_)
   obtain ⟨r2, hr4, hf3⟩ := t_eqStringS q.f1 r.f1 (by first | assumption | omega) (by first | assumption | omega)
   replace hr4 := hr4.symm; subst hr4
   refine ca hf3 Try.func144 ?_
   refine go 1 ?_
   refine ek ⟨[(2, .pt 64 0 0), (3, .pt 80 0 0), (15, bV (!(allEq q.f1 r.f1)))], [(64, some (.box (cD (d69 q)))), (80, some (.box (cD (d69 r))))], 288⟩ ?_
   refine if_ (b := !(allEq q.f1 r.f1)) (fun hb6 => ?_) (fun hb6 => ?_)
   ·replace hb6 := bnot_yes (hb6)
    refine sk ⟨[(4, bV false)], [], 304⟩ ?_
    refine X.ret ?_
    exact ⟨trivial, _, _, ⟨false, (by simp_all [sameT]), rfl, rfl⟩, mkr⟩
   ·replace hb6 := bnot_no (hb6)
    refine X.skip ?_
    refine X.seq ?_
    refine X.seq (rs 4 ?_)
    obtain ⟨r7, hr9, hf8⟩ := t_eqIntS q.f2 r.f2 (by first | assumption | omega) (by first | assumption | omega)
    replace hr9 := hr9.symm; subst hr9
    refine ca hf8 Try.func96 ?_
    refine go 1 ?_
    refine ek ⟨[(21, bV (!(allEq q.f2 r.f2)))], [], 384⟩ ?_
    refine if_ (b := !(allEq q.f2 r.f2)) (fun hb11 => ?_) (fun hb11 => ?_)
    ·replace hb11 := bnot_yes (hb11)
     refine sk ⟨[(4, bV false)], [], 400⟩ ?_
     refine X.ret ?_
     exact ⟨trivial, _, _, ⟨false, (by simp_all [sameT]), rfl, rfl⟩, mkr⟩
    ·replace hb11 := bnot_no (hb11)
     refine X.skip ?_
     refine sk ⟨[(4, bV true)], [], 400⟩ ?_
     refine X.ret ?_
     exact ⟨trivial, _, _, ⟨true, (by simp_all [sameT]), rfl, rfl⟩, mkr⟩
 obtain ⟨_, _, ⟨r0, h1_, rfl, rfl⟩, hf⟩ := key
 exact ⟨r0, h1_, hf⟩

theorem t_eqBlock (a : S72) (b : S72) (ha : Sm72 a) (hb : Sm72 b) : ∃ r0 : Bool, (r0 = sameB a b) ∧ Fn Try.prog 31 [.e (.agg (cD (d72 a))), .e (.agg (cD (d72 b)))] (lookH []) (bV r0) (lookH []) := by
 have key : ∃ x' h', ((fun x' h' => ∃ r0 : Bool, (r0 = sameB a b) ∧ x' = bV r0 ∧ h' = [])) x' h' ∧ Fn Try.prog 31 [.e (.agg (cD (d72 a))), .e (.agg (cD (d72 b)))] (lookH []) x' (lookH h') := by
  refine Fn.bodyX (N := 59) hτ Try.func31 rfl rfl rfl rfl ?_
  refine sk ⟨[(2, .pt 64 0 0), (3, .pt 80 0 0)], [(64, some (.box (cD (d72 a)))), (80, some (.box (cD (d72 b))))], 112⟩ ?_
  refine X.seq ?_
  refine sk ⟨[(2, .pt 64 0 0), (3, .pt 80 0 0), (9, bV (a.f0 != b.f0))], [(64, some (.box (cD (d72 a)))), (80, some (.box (cD (d72 b))))], 192⟩ ?_
  refine if_ (b := (a.f0 != b.f0)) (fun hb1 => ?_) (fun hb1 => ?_)
  ·replace hb1 := bne_iff_ne.1 (hb1)
   refine sk ⟨[(4, bV false)], [], 208⟩ ?_
   refine X.ret ?_
   exact ⟨trivial, _, _, ⟨false, (by simp_all [sameB]), rfl, rfl⟩, mkr⟩
  ·replace hb1 := bne_eq_false_iff_eq.1 (hb1)
   refine X.skip ?_
   refine X.seq ?_
   refine sk ⟨[(2, .pt 64 0 0), (3, .pt 80 0 0), (14, bV (a.f1 != b.f1))], [(64, some (.box (cD (d72 a)))), (80, some (.box (cD (d72 b))))], 272⟩ ?_
   refine if_ (b := (a.f1 != b.f1)) (fun hb2 => ?_) (fun hb2 => ?_)
   ·replace hb2 := bne_iff_ne.1 (hb2)
    refine sk ⟨[(4, bV false)], [], 288⟩ ?_
    refine X.ret ?_
    exact ⟨trivial, _, _, ⟨false, (by simp_all [sameB]), rfl, rfl⟩, mkr⟩
   ·replace hb2 := bne_eq_false_iff_eq.1 (hb2)
    refine X.skip ?_
    refine X.seq ?_
    refine sk ⟨[(2, .pt 64 0 0), (3, .pt 80 0 0), (19, bV (a.f2 != b.f2))], [(64, some (.box (cD (d72 a)))), (80, some (.box (cD (d72 b))))], 352⟩ ?_
    refine if_ (b := (a.f2 != b.f2)) (fun hb3 => ?_) (fun hb3 => ?_)
    ·replace hb3 := bne_iff_ne.1 (hb3)
     refine sk ⟨[(4, bV false)], [], 368⟩ ?_
     refine X.ret ?_
     exact ⟨trivial, _, _, ⟨false, (by simp_all [sameB]), rfl, rfl⟩, mkr⟩
    ·replace hb3 := bne_eq_false_iff_eq.1 (hb3)
     refine X.skip ?_
     refine X.seq ?_
     refine sk ⟨[(2, .pt 64 0 0), (3, .pt 80 0 0), (24, bV (!(a.f3.toList == b.f3.toList)))], [(64, some (.box (cD (d72 a)))), (80, some (.box (cD (d72 b))))], 432⟩ ?_
     refine if_ (b := !(a.f3.toList == b.f3.toList)) (fun hb4 => ?_) (fun hb4 => ?_)
     ·replace hb4 := beq_no (bnot_yes (hb4))
      refine sk ⟨[(4, bV false)], [], 448⟩ ?_
      refine X.ret ?_
      exact ⟨trivial, _, _, ⟨false, (by simp_all [sameB]), rfl, rfl⟩, mkr⟩
     ·replace hb4 := beq_yes (bnot_no (hb4))
      refine X.skip ?_
      refine X.seq ?_
      refine X.seq (rs 4 ?_)
      obtain ⟨r5, hr7, hf6⟩ := t_eqQc a.f4 b.f4 (by exact ha.2.1.1) (by exact hb.2.1.1)
      replace hr7 := hr7.symm; subst hr7
      refine ca hf6 Try.func75 ?_
      refine go 1 ?_
      refine ek ⟨[(2, .pt 64 0 0), (3, .pt 80 0 0), (30, bV (!(sameQ a.f4 b.f4)))], [(64, some (.box (cD (d72 a)))), (80, some (.box (cD (d72 b))))], 528⟩ ?_
      refine if_ (b := !(sameQ a.f4 b.f4)) (fun hb9 => ?_) (fun hb9 => ?_)
      ·replace hb9 := bnot_yes (hb9)
       refine sk ⟨[(4, bV false)], [], 544⟩ ?_
       refine X.ret ?_
       exact ⟨trivial, _, _, ⟨false, (by simp_all [sameB]), rfl, rfl⟩, mkr⟩
      ·replace hb9 := bnot_no (hb9)
       refine X.skip ?_
       refine X.seq ?_
       refine X.seq (rs 4 ?_)
       obtain ⟨r10, hr12, hf11⟩ := t_eqTc a.f5 b.f5 (by exact ha.2.2.1.1.1) (by exact ha.2.2.1.2) (by exact hb.2.2.1.1.1) (by exact hb.2.2.1.2)
       replace hr12 := hr12.symm; subst hr12
       refine ca hf11 Try.func76 ?_
       refine go 1 ?_
       refine ek ⟨[(2, .pt 64 0 0), (3, .pt 80 0 0), (36, bV (!(sameT a.f5 b.f5)))], [(64, some (.box (cD (d72 a)))), (80, some (.box (cD (d72 b))))], 624⟩ ?_
       refine if_ (b := !(sameT a.f5 b.f5)) (fun hb14 => ?_) (fun hb14 => ?_)
       ·replace hb14 := bnot_yes (hb14)
        refine sk ⟨[(4, bV false)], [], 640⟩ ?_
        refine X.ret ?_
        exact ⟨trivial, _, _, ⟨false, (by simp_all [sameB]), rfl, rfl⟩, mkr⟩
       ·replace hb14 := bnot_no (hb14)
        refine X.skip ?_
        refine X.seq ?_
        refine X.seq (rs 4 ?_)
        obtain ⟨r15, hr17, hf16⟩ := l_eqTxS a.f6 b.f6 (by exact ha.2.2.2.1.1) (by exact hb.2.2.2.1.1)
        replace hr17 := hr17.symm; subst hr17
        refine ca hf16 Try.func19 ?_
        refine go 1 ?_
        refine ek ⟨[(2, .pt 64 0 0), (3, .pt 80 0 0), (42, bV (!(allEq a.f6 b.f6)))], [(64, some (.box (cD (d72 a)))), (80, some (.box (cD (d72 b))))], 720⟩ ?_
        refine if_ (b := !(allEq a.f6 b.f6)) (fun hb19 => ?_) (fun hb19 => ?_)
        ·replace hb19 := bnot_yes (hb19)
         refine sk ⟨[(4, bV false)], [], 736⟩ ?_
         refine X.ret ?_
         exact ⟨trivial, _, _, ⟨false, (by simp_all [sameB]), rfl, rfl⟩, mkr⟩
        ·replace hb19 := bnot_no (hb19)
         refine X.skip ?_
         refine X.seq ?_
         refine X.seq (rs 4 ?_)
         refine CH.eqB (t := 4) (ng := true) (a := a.f7) (b := b.f7) (by kernel_rfl) (by kernel_rfl) Try.underlying4 ?_
         refine ek ⟨[(2, .pt 64 0 0), (3, .pt 80 0 0), (47, bV (!(a.f7 == b.f7)))], [(64, some (.box (cD (d72 a)))), (80, some (.box (cD (d72 b))))], 800⟩ ?_
         refine if_ (b := !(a.f7 == b.f7)) (fun hb20 => ?_) (fun hb20 => ?_)
         ·replace hb20 := beq_eq_false_iff_ne.1 (bnot_yes (hb20))
          refine sk ⟨[(4, bV false)], [], 816⟩ ?_
          refine X.ret ?_
          exact ⟨trivial, _, _, ⟨false, (by simp_all [sameB]), rfl, rfl⟩, mkr⟩
         ·replace hb20 := eq_of_beq (bnot_no (hb20))
          refine X.skip ?_
          refine X.seq ?_
          refine X.seq (rs 4 ?_)
          obtain ⟨r21, hr23, hf22⟩ := t_eqValS a.f8 b.f8 (by exact ha.2.2.2.2.1.1) (by exact hb.2.2.2.2.1.1)
          replace hr23 := hr23.symm; subst hr23
          refine ca hf22 Try.func77 ?_
          refine go 1 ?_
          refine ek ⟨[(2, .pt 64 0 0), (3, .pt 80 0 0), (53, bV (!(allEq a.f8 b.f8)))], [(64, some (.box (cD (d72 a)))), (80, some (.box (cD (d72 b))))], 896⟩ ?_
          refine if_ (b := !(allEq a.f8 b.f8)) (fun hb25 => ?_) (fun hb25 => ?_)
          ·replace hb25 := bnot_yes (hb25)
           refine sk ⟨[(4, bV false)], [], 912⟩ ?_
           refine X.ret ?_
           exact ⟨trivial, _, _, ⟨false, (by simp_all [sameB]), rfl, rfl⟩, mkr⟩
          ·replace hb25 := bnot_no (hb25)
           refine X.skip ?_
           refine X.seq ?_
           refine sk ⟨[(58, bV (!(a.f9.toList == b.f9.toList)))], [], 976⟩ ?_
           refine if_ (b := !(a.f9.toList == b.f9.toList)) (fun hb26 => ?_) (fun hb26 => ?_)
           ·replace hb26 := beq_no (bnot_yes (hb26))
            refine sk ⟨[(4, bV false)], [], 992⟩ ?_
            refine X.ret ?_
            exact ⟨trivial, _, _, ⟨false, (by simp_all [sameB]), rfl, rfl⟩, mkr⟩
           ·replace hb26 := beq_yes (bnot_no (hb26))
            refine X.skip ?_
            refine sk ⟨[(4, bV true)], [], 992⟩ ?_
            refine X.ret ?_
            exact ⟨trivial, _, _, ⟨true, (by simp_all [sameB]), rfl, rfl⟩, mkr⟩
 obtain ⟨_, _, ⟨r0, h1_, rfl, rfl⟩, hf⟩ := key
 exact ⟨r0, h1_, hf⟩

theorem t_markStringS (l : List ByteArray) (k : Int) (hl : l.length ≤ 2000000) (hk : 0 ≤ k ∧ k ≤ 100000000) : ∃ r0 : Int, ∃ q0 : List ByteArray, (q0.length = l.length ∧ r0 = k + l.length ∧ Upto (mkStr k) (fun n => q0[n]?) l.length) ∧ Fn Try.prog 78 [rV 0, iV k] (lookH [(0, some (.row 1 9 (l.map dS) false true))]) (iV r0) (lookH [(0, some (.row 1 9 (q0.map dS) false true))]) := by
 have key : ∃ x' h', ((fun x' h' => ∃ r0 : Int, ∃ q0 : List ByteArray, (q0.length = l.length ∧ r0 = k + l.length ∧ Upto (mkStr k) (fun n => q0[n]?) l.length) ∧ x' = iV r0 ∧ h' = [(0, some (.row 1 9 (q0.map dS) false true))])) x' h' ∧ Fn Try.prog 78 [rV 0, iV k] (lookH [(0, some (.row 1 9 (l.map dS) false true))]) x' (lookH h') := by
  refine Fn.bodyX (N := 20) hτ Try.func78 rfl rfl rfl rfl ?_
  refine sk ⟨[(0, rV 0), (1, iV k)], [(0, some (.row 1 9 (l.map dS) false true))], 80⟩ ?_
  refine X.seq ?_
  refine sk ⟨[(0, rV 0), (1, iV k), (5, iV 0)], [(0, some (.row 1 9 (l.map dS) false true))], 96⟩ ?_
  refine X.block ?_
  -- 2: L0 : List ByteArray, v1 : Int, v5 : Int
  refine X.loop (σ := { g : (List ByteArray) × Int × Int // (fun (L0 : List ByteArray) (v1 : Int) (v5 : Int) => 0 ≤ v5 ∧ v5 ≤ l.length ∧ v1 = k + 1 * v5 ∧ L0.length = l.length ∧ Upto (mkStr k) (fun n => L0[n]?) v5) g.1 g.2.1 g.2.2 }) (fun g => (fun (L0 : List ByteArray) (v1 : Int) (v5 : Int) => ⟨[(0, rV 0), (1, iV v1), (5, iV v5)], [(0, some (.row 1 9 (L0.map dS) false true))], 96⟩) g.1.1 g.1.2.1 g.1.2.2) (fun g => (fun (L0 : List ByteArray) (v1 : Int) (v5 : Int) => (l.length - v5).toNat) g.1.1 g.1.2.1 g.1.2.2) ⟨(l, k, 0), ⟨by first | omega | (dsimp only; omega), by first | omega | (dsimp only; omega), by first | omega | (dsimp only; omega), rfl, upto_zero⟩⟩ (Wk.less (by kernel_rfl)) (fun g => ?_)
  obtain ⟨⟨L0, v1, v5⟩, hg2⟩ := g
  have hg2 : 0 ≤ v5 ∧ v5 ≤ l.length ∧ v1 = k + 1 * v5 ∧ L0.length = l.length ∧ Upto (mkStr k) (fun n => L0[n]?) v5 := hg2
  obtain ⟨_, _, _, hL, hA⟩ := hg2
  refine X.seq ?_
  refine X.seq ?_
  have hlb : (l.map dS).length = l.length := List.length_map ..
  have el3 : (L0.map dS).length = L0.length := List.length_map ..
  refine rk ⟨[(0, rV 0), (1, iV v1), (5, iV v5), (9, bV (decide ((v5 : Int) < ((L0.map dS).length : Int))))], [(0, some (.row 1 9 (L0.map dS) false true))], 160⟩ ?_
  refine if_ (b := decide ((v5 : Int) < ((L0.map dS).length : Int))) (fun hb4 => ?_) (fun hb4 => ?_)
  ·replace hb4 := of_decide_eq_true (hb4)
   refine X.skip ?_
   refine X.seq ?_
   refine X.block ?_
   refine X.seq (rs 3 ?_)
   obtain ⟨r5, hr7, hf6⟩ := l_markText v1 (by omega)
   replace hr7 := hr7.symm; subst hr7
   refine ca hf6 Try.func58 ?_
   refine CH.idxR hτ (rows := (L0.map dS)) (n := v5) (b := 0) (by kernel_rfl) (by kernel_rfl) (by first | omega | (simp; done) | (simp; omega)) (by simp only [List.length_map, List.length_set]; first | omega | (simp; done) | (simp; omega)) (by kernel_rfl) ?_
   obtain ⟨x9, hx9⟩ : ∃ x, L0[Int.toNat v5]? = some x := ⟨_, List.getElem?_eq_getElem (by first | omega | (simp; done) | (simp; omega))⟩
   refine CH.row hτ (dS x9) (by kernel_rfl) (by kernel_rfl) (by rw [List.getElem?_map, hx9]; rfl) (by kernel_rfl) ?_
   refine CH.endk ⟨[(0, rV 0), (1, iV v1), (5, iV v5)], [(0, some (.row 1 9 ((L0.map dS).set (Int.toNat v5) (dS (mt v1))) false true))], 256⟩ (by kernel_rfl) (by kernel_rfl) (s2 := ⟨[(0, rV 0), (1, iV v1), (5, iV v5)], [(0, some (.row 1 9 ((L0.set (Int.toNat v5) (mt v1)).map dS) false true))], 256⟩) (congrArg (fun z : List (List D) => (⟨[(0, rV 0), (1, iV v1), (5, iV v5)], [(0, some (.row 1 9 z false true))], 256⟩ : St)) (show ((L0.map dS).set (Int.toNat v5) (dS (mt v1))) = ((L0.set (Int.toNat v5) (mt v1)).map dS) from List.map_set.symm)) ?_
   refine X.rk ⟨[(0, rV 0), (1, iV (wrap64 (v1 + 1))), (5, iV v5)], [(0, some (.row 1 9 ((L0.set (Int.toNat v5) (mt v1)).map dS) false true))], 304⟩ hτ hmix (by kernel_rfl) (by kernel_rfl) (s2 := ⟨[(0, rV 0), (1, iV (v1 + 1)), (5, iV v5)], [(0, some (.row 1 9 ((L0.set (Int.toNat v5) (mt v1)).map dS) false true))], 304⟩) (congrArg (fun z : Int => (⟨[(0, rV 0), (1, iV z), (5, iV v5)], [(0, some (.row 1 9 ((L0.set (Int.toNat v5) (mt v1)).map dS) false true))], 304⟩ : St)) (show wrap64 (v1 + 1) = (v1 + 1) by rw [w64 (n := (v1 + 1)) (by omega) (by omega)])) ?_
   refine X.rk ⟨[(0, rV 0), (1, iV (v1 + 1)), (5, iV (wrap64 (v5 + 1)))], [(0, some (.row 1 9 ((L0.set (Int.toNat v5) (mt v1)).map dS) false true))], 352⟩ hτ hmix (by kernel_rfl) (by kernel_rfl) (s2 := ⟨[(0, rV 0), (1, iV (v1 + 1)), (5, iV (v5 + 1))], [(0, some (.row 1 9 ((L0.set (Int.toNat v5) (mt v1)).map dS) false true))], 352⟩) (congrArg (fun z : Int => (⟨[(0, rV 0), (1, iV (v1 + 1)), (5, iV z)], [(0, some (.row 1 9 ((L0.set (Int.toNat v5) (mt v1)).map dS) false true))], 352⟩ : St)) (show wrap64 (v5 + 1) = (v5 + 1) by rw [w64 (n := (v5 + 1)) (by omega) (by omega)])) ?_
   refine ⟨⟨((L0.set (Int.toNat v5) (mt v1)), (v1 + 1), (v5 + 1)), ⟨by first | omega | (dsimp only; omega), by first | omega | (dsimp only; omega), by first | omega | (dsimp only; omega), by simp only [List.length_set]; omega, by (try simp only [List.set_set]); exact set_all hA (by first | omega | (dsimp only; omega)) (by show mt _ = mt _; congr 1; omega)⟩⟩, by first | exact rfl | omega | (dsimp only; omega) | (simp only [List.length_append, List.length_cons, List.length_nil, List.length_set]; omega) | (simp; done) | (simp; omega), Wk.mk' [] (by kernel_rfl) (by kernel_rfl) (by kernel_rfl)⟩
  ·replace hb4 := of_decide_eq_false (hb4)
   refine X.exit ?_
   refine sk ⟨[(4, iV v1)], [(0, some (.row 1 9 (L0.map dS) false true))], 192⟩ ?_
   refine X.ret ?_
   exact ⟨trivial, _, _, ⟨v1, L0, ⟨hL, by omega, upto_all hA (by omega)⟩, rfl, rfl⟩, mkr⟩
 obtain ⟨_, _, ⟨r0, q0, h1_, rfl, rfl⟩, hf⟩ := key
 exact ⟨r0, q0, h1_, hf⟩

theorem t_markIntS (l : List Int) (k : Int) (hl : l.length ≤ 2000000) (hk : 0 ≤ k ∧ k ≤ 100000000) : ∃ r0 : Int, ∃ q0 : List Int, (q0.length = l.length ∧ r0 = k + l.length ∧ Upto (mkInt k) (fun n => q0[n]?) l.length) ∧ Fn Try.prog 79 [rV 0, iV k] (lookH [(0, some (.row 1 3 (l.map dI) false true))]) (iV r0) (lookH [(0, some (.row 1 3 (q0.map dI) false true))]) := by
 have key : ∃ x' h', ((fun x' h' => ∃ r0 : Int, ∃ q0 : List Int, (q0.length = l.length ∧ r0 = k + l.length ∧ Upto (mkInt k) (fun n => q0[n]?) l.length) ∧ x' = iV r0 ∧ h' = [(0, some (.row 1 3 (q0.map dI) false true))])) x' h' ∧ Fn Try.prog 79 [rV 0, iV k] (lookH [(0, some (.row 1 3 (l.map dI) false true))]) x' (lookH h') := by
  refine Fn.bodyX (N := 19) hτ Try.func79 rfl rfl rfl rfl ?_
  refine sk ⟨[(0, rV 0), (1, iV k)], [(0, some (.row 1 3 (l.map dI) false true))], 80⟩ ?_
  refine X.seq ?_
  refine sk ⟨[(0, rV 0), (1, iV k), (5, iV 0)], [(0, some (.row 1 3 (l.map dI) false true))], 96⟩ ?_
  refine X.block ?_
  -- 2: L0 : List Int, v1 : Int, v5 : Int
  refine X.loop (σ := { g : (List Int) × Int × Int // (fun (L0 : List Int) (v1 : Int) (v5 : Int) => 0 ≤ v5 ∧ v5 ≤ l.length ∧ v1 = k + 1 * v5 ∧ L0.length = l.length ∧ Upto (mkInt k) (fun n => L0[n]?) v5) g.1 g.2.1 g.2.2 }) (fun g => (fun (L0 : List Int) (v1 : Int) (v5 : Int) => ⟨[(0, rV 0), (1, iV v1), (5, iV v5)], [(0, some (.row 1 3 (L0.map dI) false true))], 96⟩) g.1.1 g.1.2.1 g.1.2.2) (fun g => (fun (L0 : List Int) (v1 : Int) (v5 : Int) => (l.length - v5).toNat) g.1.1 g.1.2.1 g.1.2.2) ⟨(l, k, 0), ⟨by first | omega | (dsimp only; omega), by first | omega | (dsimp only; omega), by first | omega | (dsimp only; omega), rfl, upto_zero⟩⟩ (Wk.less (by kernel_rfl)) (fun g => ?_)
  obtain ⟨⟨L0, v1, v5⟩, hg2⟩ := g
  have hg2 : 0 ≤ v5 ∧ v5 ≤ l.length ∧ v1 = k + 1 * v5 ∧ L0.length = l.length ∧ Upto (mkInt k) (fun n => L0[n]?) v5 := hg2
  obtain ⟨_, _, _, hL, hA⟩ := hg2
  refine X.seq ?_
  refine X.seq ?_
  have hlb : (l.map dI).length = l.length := List.length_map ..
  have el3 : (L0.map dI).length = L0.length := List.length_map ..
  refine rk ⟨[(0, rV 0), (1, iV v1), (5, iV v5), (9, bV (decide ((v5 : Int) < ((L0.map dI).length : Int))))], [(0, some (.row 1 3 (L0.map dI) false true))], 160⟩ ?_
  refine if_ (b := decide ((v5 : Int) < ((L0.map dI).length : Int))) (fun hb4 => ?_) (fun hb4 => ?_)
  ·replace hb4 := of_decide_eq_true (hb4)
   refine X.skip ?_
   refine X.seq ?_
   refine X.block ?_
   refine X.seq (rs 3 ?_)
   refine CH.idxR hτ (rows := (L0.map dI)) (n := v5) (b := 0) (by kernel_rfl) (by kernel_rfl) (by first | omega | (simp; done) | (simp; omega)) (by simp only [List.length_map, List.length_set]; first | omega | (simp; done) | (simp; omega)) (by kernel_rfl) ?_
   obtain ⟨x5, hx5⟩ : ∃ x, L0[Int.toNat v5]? = some x := ⟨_, List.getElem?_eq_getElem (by first | omega | (simp; done) | (simp; omega))⟩
   refine CH.row hτ (dI x5) (by kernel_rfl) (by kernel_rfl) (by rw [List.getElem?_map, hx5]; rfl) (by kernel_rfl) ?_
   refine CH.endk ⟨[(0, rV 0), (1, iV v1), (5, iV v5)], [(0, some (.row 1 3 ((L0.map dI).set (Int.toNat v5) (dI v1)) false true))], 240⟩ (by kernel_rfl) (by kernel_rfl) (s2 := ⟨[(0, rV 0), (1, iV v1), (5, iV v5)], [(0, some (.row 1 3 ((L0.set (Int.toNat v5) v1).map dI) false true))], 240⟩) (congrArg (fun z : List (List D) => (⟨[(0, rV 0), (1, iV v1), (5, iV v5)], [(0, some (.row 1 3 z false true))], 240⟩ : St)) (show ((L0.map dI).set (Int.toNat v5) (dI v1)) = ((L0.set (Int.toNat v5) v1).map dI) from List.map_set.symm)) ?_
   refine X.rk ⟨[(0, rV 0), (1, iV (wrap64 (v1 + 1))), (5, iV v5)], [(0, some (.row 1 3 ((L0.set (Int.toNat v5) v1).map dI) false true))], 288⟩ hτ hmix (by kernel_rfl) (by kernel_rfl) (s2 := ⟨[(0, rV 0), (1, iV (v1 + 1)), (5, iV v5)], [(0, some (.row 1 3 ((L0.set (Int.toNat v5) v1).map dI) false true))], 288⟩) (congrArg (fun z : Int => (⟨[(0, rV 0), (1, iV z), (5, iV v5)], [(0, some (.row 1 3 ((L0.set (Int.toNat v5) v1).map dI) false true))], 288⟩ : St)) (show wrap64 (v1 + 1) = (v1 + 1) by rw [w64 (n := (v1 + 1)) (by omega) (by omega)])) ?_
   refine X.rk ⟨[(0, rV 0), (1, iV (v1 + 1)), (5, iV (wrap64 (v5 + 1)))], [(0, some (.row 1 3 ((L0.set (Int.toNat v5) v1).map dI) false true))], 336⟩ hτ hmix (by kernel_rfl) (by kernel_rfl) (s2 := ⟨[(0, rV 0), (1, iV (v1 + 1)), (5, iV (v5 + 1))], [(0, some (.row 1 3 ((L0.set (Int.toNat v5) v1).map dI) false true))], 336⟩) (congrArg (fun z : Int => (⟨[(0, rV 0), (1, iV (v1 + 1)), (5, iV z)], [(0, some (.row 1 3 ((L0.set (Int.toNat v5) v1).map dI) false true))], 336⟩ : St)) (show wrap64 (v5 + 1) = (v5 + 1) by rw [w64 (n := (v5 + 1)) (by omega) (by omega)])) ?_
   refine ⟨⟨((L0.set (Int.toNat v5) v1), (v1 + 1), (v5 + 1)), ⟨by first | omega | (dsimp only; omega), by first | omega | (dsimp only; omega), by first | omega | (dsimp only; omega), by simp only [List.length_set]; omega, by (try simp only [List.set_set]); exact set_all hA (by first | omega | (dsimp only; omega)) (by show _ = k + _; omega)⟩⟩, by first | exact rfl | omega | (dsimp only; omega) | (simp only [List.length_append, List.length_cons, List.length_nil, List.length_set]; omega) | (simp; done) | (simp; omega), Wk.mk' [] (by kernel_rfl) (by kernel_rfl) (by kernel_rfl)⟩
  ·replace hb4 := of_decide_eq_false (hb4)
   refine X.exit ?_
   refine sk ⟨[(4, iV v1)], [(0, some (.row 1 3 (L0.map dI) false true))], 192⟩ ?_
   refine X.ret ?_
   exact ⟨trivial, _, _, ⟨v1, L0, ⟨hL, by omega, upto_all hA (by omega)⟩, rfl, rfl⟩, mkr⟩
 obtain ⟨_, _, ⟨r0, q0, h1_, rfl, rfl⟩, hf⟩ := key
 exact ⟨r0, q0, h1_, hf⟩

theorem t_markValS (l : List S165) (k : Int) (hl : l.length ≤ 2000000) (hk : 0 ≤ k ∧ k ≤ 100000000) : ∃ r0 : Int, ∃ q0 : List S165, (q0.length = l.length ∧ r0 = k + 2 * l.length ∧ Upto (mkVal k) (fun n => q0[n]?) l.length) ∧ Fn Try.prog 80 [rV 0, iV k] (lookH [(0, some (.row 2 165 (l.map d165) false true))]) (iV r0) (lookH [(0, some (.row 2 165 (q0.map d165) false true))]) := by
 have key : ∃ x' h', ((fun x' h' => ∃ r0 : Int, ∃ q0 : List S165, (q0.length = l.length ∧ r0 = k + 2 * l.length ∧ Upto (mkVal k) (fun n => q0[n]?) l.length) ∧ x' = iV r0 ∧ h' = [(0, some (.row 2 165 (q0.map d165) false true))])) x' h' ∧ Fn Try.prog 80 [rV 0, iV k] (lookH [(0, some (.row 2 165 (l.map d165) false true))]) x' (lookH h') := by
  refine Fn.bodyX (N := 28) hτ Try.func80 rfl rfl rfl rfl ?_
  refine sk ⟨[(0, rV 0), (1, iV k)], [(0, some (.row 2 165 (l.map d165) false true))], 80⟩ ?_
  refine X.seq ?_
  refine sk ⟨[(0, rV 0), (1, iV k), (5, iV 0)], [(0, some (.row 2 165 (l.map d165) false true))], 96⟩ ?_
  refine X.block ?_
  -- 2: L0 : List S165, v1 : Int, v5 : Int
  refine X.loop (σ := { g : (List S165) × Int × Int // (fun (L0 : List S165) (v1 : Int) (v5 : Int) => 0 ≤ v5 ∧ v5 ≤ l.length ∧ v1 = k + 2 * v5 ∧ L0.length = l.length ∧ Upto (mkVal k) (fun n => L0[n]?) v5) g.1 g.2.1 g.2.2 }) (fun g => (fun (L0 : List S165) (v1 : Int) (v5 : Int) => ⟨[(0, rV 0), (1, iV v1), (5, iV v5)], [(0, some (.row 2 165 (L0.map d165) false true))], 96⟩) g.1.1 g.1.2.1 g.1.2.2) (fun g => (fun (L0 : List S165) (v1 : Int) (v5 : Int) => (l.length - v5).toNat) g.1.1 g.1.2.1 g.1.2.2) ⟨(l, k, 0), ⟨by first | omega | (dsimp only; omega), by first | omega | (dsimp only; omega), by first | omega | (dsimp only; omega), rfl, upto_zero⟩⟩ (Wk.less (by kernel_rfl)) (fun g => ?_)
  obtain ⟨⟨L0, v1, v5⟩, hg2⟩ := g
  have hg2 : 0 ≤ v5 ∧ v5 ≤ l.length ∧ v1 = k + 2 * v5 ∧ L0.length = l.length ∧ Upto (mkVal k) (fun n => L0[n]?) v5 := hg2
  obtain ⟨_, _, _, hL, hA⟩ := hg2
  refine X.seq ?_
  refine X.seq ?_
  have hlb : (l.map d165).length = l.length := List.length_map ..
  have el3 : (L0.map d165).length = L0.length := List.length_map ..
  refine rk ⟨[(0, rV 0), (1, iV v1), (5, iV v5), (9, bV (decide ((v5 : Int) < ((L0.map d165).length : Int))))], [(0, some (.row 2 165 (L0.map d165) false true))], 160⟩ ?_
  refine if_ (b := decide ((v5 : Int) < ((L0.map d165).length : Int))) (fun hb4 => ?_) (fun hb4 => ?_)
  ·replace hb4 := of_decide_eq_true (hb4)
   refine X.skip ?_
   refine X.seq ?_
   refine X.block ?_
   refine X.seq (rs 3 ?_)
   obtain ⟨r5, hr7, hf6⟩ := l_markText v1 (by omega)
   replace hr7 := hr7.symm; subst hr7
   refine ca hf6 Try.func58 ?_
   refine CH.idxR hτ (rows := (L0.map d165)) (n := v5) (b := 0) (by kernel_rfl) (by kernel_rfl) (by first | omega | (simp; done) | (simp; omega)) (by simp only [List.length_map, List.length_set]; first | omega | (simp; done) | (simp; omega)) (by kernel_rfl) ?_
   refine go 1 ?_
   obtain ⟨x9, hx9⟩ : ∃ x, L0[Int.toNat v5]? = some x := ⟨_, List.getElem?_eq_getElem (by first | omega | (simp; done) | (simp; omega))⟩
   refine CH.row hτ (d165 x9) (by kernel_rfl) (by kernel_rfl) (by rw [List.getElem?_map, hx9]; rfl) (by kernel_rfl) ?_
   refine CH.endk ⟨[(0, rV 0), (1, iV v1), (5, iV v5)], [(0, some (.row 2 165 ((L0.map d165).set (Int.toNat v5) (d165 (⟨(mt v1), x9.f1⟩ : S165))) false true))], 272⟩ (by kernel_rfl) (by kernel_rfl) (s2 := ⟨[(0, rV 0), (1, iV v1), (5, iV v5)], [(0, some (.row 2 165 ((L0.set (Int.toNat v5) (⟨(mt v1), x9.f1⟩ : S165)).map d165) false true))], 272⟩) (congrArg (fun z : List (List D) => (⟨[(0, rV 0), (1, iV v1), (5, iV v5)], [(0, some (.row 2 165 z false true))], 272⟩ : St)) (show ((L0.map d165).set (Int.toNat v5) (d165 (⟨(mt v1), x9.f1⟩ : S165))) = ((L0.set (Int.toNat v5) (⟨(mt v1), x9.f1⟩ : S165)).map d165) from List.map_set.symm)) ?_
   refine X.seq ?_
   refine X.rk ⟨[(0, rV 0), (1, iV (wrap64 (v1 + 1))), (5, iV v5)], [(0, some (.row 2 165 ((L0.set (Int.toNat v5) (⟨(mt v1), x9.f1⟩ : S165)).map d165) false true))], 320⟩ hτ hmix (by kernel_rfl) (by kernel_rfl) (s2 := ⟨[(0, rV 0), (1, iV (v1 + 1)), (5, iV v5)], [(0, some (.row 2 165 ((L0.set (Int.toNat v5) (⟨(mt v1), x9.f1⟩ : S165)).map d165) false true))], 320⟩) (congrArg (fun z : Int => (⟨[(0, rV 0), (1, iV z), (5, iV v5)], [(0, some (.row 2 165 ((L0.set (Int.toNat v5) (⟨(mt v1), x9.f1⟩ : S165)).map d165) false true))], 320⟩ : St)) (show wrap64 (v1 + 1) = (v1 + 1) by rw [w64 (n := (v1 + 1)) (by omega) (by omega)])) ?_
   refine X.seq (rs 3 ?_)
   refine CH.idxR hτ (rows := ((L0.set (Int.toNat v5) (⟨(mt v1), x9.f1⟩ : S165)).map d165)) (n := v5) (b := 0) (by kernel_rfl) (by kernel_rfl) (by first | omega | (simp; done) | (simp; omega)) (by simp only [List.length_map, List.length_set]; first | omega | (simp; done) | (simp; omega)) (by kernel_rfl) ?_
   refine go 1 ?_
   obtain ⟨x10, hx10⟩ : ∃ x, (L0.set (Int.toNat v5) (⟨(mt v1), x9.f1⟩ : S165))[Int.toNat v5]? = some x := ⟨_, List.getElem?_eq_getElem (by first | omega | (simp; done) | (simp; omega))⟩
   have qhx10 := set_get hx10
   refine CH.row hτ (d165 x10) (by kernel_rfl) (by kernel_rfl) (by rw [List.getElem?_map, hx10]; rfl) (by kernel_rfl) ?_
   refine CH.endk ⟨[(0, rV 0), (1, iV (v1 + 1)), (5, iV v5)], [(0, some (.row 2 165 (((L0.set (Int.toNat v5) (⟨(mt v1), x9.f1⟩ : S165)).map d165).set (Int.toNat v5) (d165 (⟨x10.f0, (v1 + 1)⟩ : S165))) false true))], 416⟩ (by kernel_rfl) (by kernel_rfl) (s2 := ⟨[(0, rV 0), (1, iV (v1 + 1)), (5, iV v5)], [(0, some (.row 2 165 (((L0.set (Int.toNat v5) (⟨(mt v1), x9.f1⟩ : S165)).set (Int.toNat v5) (⟨x10.f0, (v1 + 1)⟩ : S165)).map d165) false true))], 416⟩) (congrArg (fun z : List (List D) => (⟨[(0, rV 0), (1, iV (v1 + 1)), (5, iV v5)], [(0, some (.row 2 165 z false true))], 416⟩ : St)) (show (((L0.set (Int.toNat v5) (⟨(mt v1), x9.f1⟩ : S165)).map d165).set (Int.toNat v5) (d165 (⟨x10.f0, (v1 + 1)⟩ : S165))) = (((L0.set (Int.toNat v5) (⟨(mt v1), x9.f1⟩ : S165)).set (Int.toNat v5) (⟨x10.f0, (v1 + 1)⟩ : S165)).map d165) from List.map_set.symm)) ?_
   refine X.rk ⟨[(0, rV 0), (1, iV (wrap64 ((v1 + 1) + 1))), (5, iV v5)], [(0, some (.row 2 165 (((L0.set (Int.toNat v5) (⟨(mt v1), x9.f1⟩ : S165)).set (Int.toNat v5) (⟨x10.f0, (v1 + 1)⟩ : S165)).map d165) false true))], 464⟩ hτ hmix (by kernel_rfl) (by kernel_rfl) (s2 := ⟨[(0, rV 0), (1, iV ((v1 + 1) + 1)), (5, iV v5)], [(0, some (.row 2 165 (((L0.set (Int.toNat v5) (⟨(mt v1), x9.f1⟩ : S165)).set (Int.toNat v5) (⟨x10.f0, (v1 + 1)⟩ : S165)).map d165) false true))], 464⟩) (congrArg (fun z : Int => (⟨[(0, rV 0), (1, iV z), (5, iV v5)], [(0, some (.row 2 165 (((L0.set (Int.toNat v5) (⟨(mt v1), x9.f1⟩ : S165)).set (Int.toNat v5) (⟨x10.f0, (v1 + 1)⟩ : S165)).map d165) false true))], 464⟩ : St)) (show wrap64 ((v1 + 1) + 1) = ((v1 + 1) + 1) by rw [w64 (n := ((v1 + 1) + 1)) (by omega) (by omega)])) ?_
   refine X.rk ⟨[(0, rV 0), (1, iV ((v1 + 1) + 1)), (5, iV (wrap64 (v5 + 1)))], [(0, some (.row 2 165 (((L0.set (Int.toNat v5) (⟨(mt v1), x9.f1⟩ : S165)).set (Int.toNat v5) (⟨x10.f0, (v1 + 1)⟩ : S165)).map d165) false true))], 512⟩ hτ hmix (by kernel_rfl) (by kernel_rfl) (s2 := ⟨[(0, rV 0), (1, iV ((v1 + 1) + 1)), (5, iV (v5 + 1))], [(0, some (.row 2 165 (((L0.set (Int.toNat v5) (⟨(mt v1), x9.f1⟩ : S165)).set (Int.toNat v5) (⟨x10.f0, (v1 + 1)⟩ : S165)).map d165) false true))], 512⟩) (congrArg (fun z : Int => (⟨[(0, rV 0), (1, iV ((v1 + 1) + 1)), (5, iV z)], [(0, some (.row 2 165 (((L0.set (Int.toNat v5) (⟨(mt v1), x9.f1⟩ : S165)).set (Int.toNat v5) (⟨x10.f0, (v1 + 1)⟩ : S165)).map d165) false true))], 512⟩ : St)) (show wrap64 (v5 + 1) = (v5 + 1) by rw [w64 (n := (v5 + 1)) (by omega) (by omega)])) ?_
   refine ⟨⟨(((L0.set (Int.toNat v5) (⟨(mt v1), x9.f1⟩ : S165)).set (Int.toNat v5) (⟨x10.f0, (v1 + 1)⟩ : S165)), ((v1 + 1) + 1), (v5 + 1)), ⟨by first | omega | (dsimp only; omega), by first | omega | (dsimp only; omega), by first | omega | (dsimp only; omega), by simp only [List.length_set]; omega, by (try simp only [List.set_set]); exact set_all hA (by first | omega | (dsimp only; omega)) (by subst_vars; exact ⟨rfl, by dsimp only⟩)⟩⟩, by first | exact rfl | omega | (dsimp only; omega) | (simp only [List.length_append, List.length_cons, List.length_nil, List.length_set]; omega) | (simp; done) | (simp; omega), Wk.mk' [] (by kernel_rfl) (by kernel_rfl) (by kernel_rfl)⟩
  ·replace hb4 := of_decide_eq_false (hb4)
   refine X.exit ?_
   refine sk ⟨[(4, iV v1)], [(0, some (.row 2 165 (L0.map d165) false true))], 192⟩ ?_
   refine X.ret ?_
   exact ⟨trivial, _, _, ⟨v1, L0, ⟨hL, by omega, upto_all hA (by omega)⟩, rfl, rfl⟩, mkr⟩
 obtain ⟨_, _, ⟨r0, q0, h1_, rfl, rfl⟩, hf⟩ := key
 exact ⟨r0, q0, h1_, hf⟩

theorem t_heldStringS (l : List ByteArray) (k : Int) (hl : l.length ≤ 40000000) (hk : 0 ≤ k ∧ k ≤ 100000000) : ∃ r0 : Int, ((-1 ≤ r0 ∧ r0 ≤ k + l.length ∧ (0 ≤ r0 → r0 = k + l.length)) ∧ (Upto (mkStr k) (fun n => l[n]?) l.length → r0 = k + l.length)) ∧ Fn Try.prog 83 [lV (l.map dS), iV k] (lookH []) (iV r0) (lookH []) := by
 have key : ∃ x' h', ((fun x' h' => ∃ r0 : Int, ((-1 ≤ r0 ∧ r0 ≤ k + l.length ∧ (0 ≤ r0 → r0 = k + l.length)) ∧ (Upto (mkStr k) (fun n => l[n]?) l.length → r0 = k + l.length)) ∧ x' = iV r0 ∧ h' = [])) x' h' ∧ Fn Try.prog 83 [lV (l.map dS), iV k] (lookH []) x' (lookH h') := by
  refine Fn.bodyX (N := 22) hτ Try.func83 rfl rfl rfl rfl ?_
  refine sk ⟨[(0, lV (l.map dS)), (1, iV k)], [], 80⟩ ?_
  refine X.seq ?_
  refine sk ⟨[(0, lV (l.map dS)), (1, iV k), (5, iV 0)], [], 96⟩ ?_
  refine X.block ?_
  -- 2: v1 : Int, v5 : Int
  refine X.loop (σ := { g : Int × Int // (fun (v1 : Int) (v5 : Int) => 0 ≤ v5 ∧ v5 ≤ l.length ∧ v1 = k + 1 * v5) g.1 g.2 }) (fun g => (fun (v1 : Int) (v5 : Int) => ⟨[(0, lV (l.map dS)), (1, iV v1), (5, iV v5)], [], 96⟩) g.1.1 g.1.2) (fun g => (fun (v1 : Int) (v5 : Int) => (l.length - v5).toNat) g.1.1 g.1.2) ⟨(k, 0), ⟨by first | omega | (dsimp only; omega), by first | omega | (dsimp only; omega), by first | omega | (dsimp only; omega)⟩⟩ (Wk.less (by kernel_rfl)) (fun g => ?_)
  obtain ⟨⟨v1, v5⟩, hg2⟩ := g
  have hg2 : 0 ≤ v5 ∧ v5 ≤ l.length ∧ v1 = k + 1 * v5 := hg2
  obtain ⟨_, _, _⟩ := hg2
  refine X.seq ?_
  refine X.seq ?_
  have el3 : (l.map dS).length = l.length := List.length_map ..
  refine rk ⟨[(0, lV (l.map dS)), (1, iV v1), (5, iV v5), (9, bV (decide ((v5 : Int) < ((l.map dS).length : Int))))], [], 160⟩ ?_
  refine if_ (b := decide ((v5 : Int) < ((l.map dS).length : Int))) (fun hb4 => ?_) (fun hb4 => ?_)
  ·replace hb4 := of_decide_eq_true (hb4)
   refine X.skip ?_
   refine X.seq ?_
   refine X.block ?_
   refine X.seq ?_
   refine X.seq (rs 2 ?_)
   obtain ⟨x5, hx5⟩ : ∃ x, l[Int.toNat v5]? = some x := ⟨_, List.getElem?_eq_getElem (by first | omega | (simp; done) | (simp; omega))⟩
   refine CH.idx hτ (dS x5) (rows := (l.map dS)) (n := v5) (sz := 1) (by kernel_rfl) (by kernel_rfl) (by first | omega | (simp; done) | (simp; omega)) (by rw [List.getElem?_map, hx5]; rfl) (by kernel_rfl) ?_
   refine go 2 ?_
   obtain ⟨r6, hr8, hf7⟩ := l_markText v1 (by omega)
   replace hr8 := hr8.symm; subst hr8
   refine ca hf7 Try.func58 ?_
   refine go 1 ?_
   refine ek ⟨[(0, lV (l.map dS)), (1, iV v1), (5, iV v5), (18, bV (!(x5.toList == (mt v1).toList)))], [], 272⟩ ?_
   refine if_ (b := !(x5.toList == (mt v1).toList)) (fun hb10 => ?_) (fun hb10 => ?_)
   ·replace hb10 := beq_no (bnot_yes (hb10))
    refine sk ⟨[(4, iV (-1))], [], 288⟩ ?_
    refine X.ret ?_
    exact ⟨trivial, _, _, ⟨(-1), ⟨⟨by omega, by omega, fun h => by omega⟩, (fun hM => by first | omega | (have hq := hM _ _ (by omega) (by omega) (‹l[_]? = some _›); exfalso; exact ‹¬ _› (by rw [show _ = mt _ from hq]; congr 2; omega)))⟩, rfl, rfl⟩, mkr⟩
   ·replace hb10 := beq_yes (bnot_no (hb10))
    refine X.skip ?_
    refine X.rk ⟨[(0, lV (l.map dS)), (1, iV (wrap64 (v1 + 1))), (5, iV v5)], [], 320⟩ hτ hmix (by kernel_rfl) (by kernel_rfl) (s2 := ⟨[(0, lV (l.map dS)), (1, iV (v1 + 1)), (5, iV v5)], [], 320⟩) (congrArg (fun z : Int => (⟨[(0, lV (l.map dS)), (1, iV z), (5, iV v5)], [], 320⟩ : St)) (show wrap64 (v1 + 1) = (v1 + 1) by rw [w64 (n := (v1 + 1)) (by omega) (by omega)])) ?_
    refine X.rk ⟨[(0, lV (l.map dS)), (1, iV (v1 + 1)), (5, iV (wrap64 (v5 + 1)))], [], 368⟩ hτ hmix (by kernel_rfl) (by kernel_rfl) (s2 := ⟨[(0, lV (l.map dS)), (1, iV (v1 + 1)), (5, iV (v5 + 1))], [], 368⟩) (congrArg (fun z : Int => (⟨[(0, lV (l.map dS)), (1, iV (v1 + 1)), (5, iV z)], [], 368⟩ : St)) (show wrap64 (v5 + 1) = (v5 + 1) by rw [w64 (n := (v5 + 1)) (by omega) (by omega)])) ?_
    refine ⟨⟨((v1 + 1), (v5 + 1)), ⟨by first | omega | (dsimp only; omega), by first | omega | (dsimp only; omega), by first | omega | (dsimp only; omega)⟩⟩, by first | exact rfl | omega | (dsimp only; omega) | (simp only [List.length_append, List.length_cons, List.length_nil, List.length_set]; omega) | (simp; done) | (simp; omega), Wk.mk' [] (by kernel_rfl) (by kernel_rfl) (by kernel_rfl)⟩
  ·replace hb4 := of_decide_eq_false (hb4)
   refine X.exit ?_
   refine sk ⟨[(4, iV v1)], [], 192⟩ ?_
   refine X.ret ?_
   exact ⟨trivial, _, _, ⟨v1, ⟨⟨by omega, by omega, fun h => by omega⟩, (fun hM => by first | omega | (have hq := hM _ _ (by omega) (by omega) (‹l[_]? = some _›); exfalso; exact ‹¬ _› (by rw [show _ = mt _ from hq]; congr 2; omega)))⟩, rfl, rfl⟩, mkr⟩
 obtain ⟨_, _, ⟨r0, h1_, rfl, rfl⟩, hf⟩ := key
 exact ⟨r0, h1_, hf⟩

theorem t_heldIntS (l : List Int) (k : Int) (hl : l.length ≤ 40000000) (hk : 0 ≤ k ∧ k ≤ 100000000) : ∃ r0 : Int, ((-1 ≤ r0 ∧ r0 ≤ k + l.length ∧ (0 ≤ r0 → r0 = k + l.length)) ∧ (Upto (mkInt k) (fun n => l[n]?) l.length → r0 = k + l.length)) ∧ Fn Try.prog 84 [lV (l.map dI), iV k] (lookH []) (iV r0) (lookH []) := by
 have key : ∃ x' h', ((fun x' h' => ∃ r0 : Int, ((-1 ≤ r0 ∧ r0 ≤ k + l.length ∧ (0 ≤ r0 → r0 = k + l.length)) ∧ (Upto (mkInt k) (fun n => l[n]?) l.length → r0 = k + l.length)) ∧ x' = iV r0 ∧ h' = [])) x' h' ∧ Fn Try.prog 84 [lV (l.map dI), iV k] (lookH []) x' (lookH h') := by
  refine Fn.bodyX (N := 21) hτ Try.func84 rfl rfl rfl rfl ?_
  refine sk ⟨[(0, lV (l.map dI)), (1, iV k)], [], 80⟩ ?_
  refine X.seq ?_
  refine sk ⟨[(0, lV (l.map dI)), (1, iV k), (5, iV 0)], [], 96⟩ ?_
  refine X.block ?_
  -- 2: v1 : Int, v5 : Int
  refine X.loop (σ := { g : Int × Int // (fun (v1 : Int) (v5 : Int) => 0 ≤ v5 ∧ v5 ≤ l.length ∧ v1 = k + 1 * v5) g.1 g.2 }) (fun g => (fun (v1 : Int) (v5 : Int) => ⟨[(0, lV (l.map dI)), (1, iV v1), (5, iV v5)], [], 96⟩) g.1.1 g.1.2) (fun g => (fun (v1 : Int) (v5 : Int) => (l.length - v5).toNat) g.1.1 g.1.2) ⟨(k, 0), ⟨by first | omega | (dsimp only; omega), by first | omega | (dsimp only; omega), by first | omega | (dsimp only; omega)⟩⟩ (Wk.less (by kernel_rfl)) (fun g => ?_)
  obtain ⟨⟨v1, v5⟩, hg2⟩ := g
  have hg2 : 0 ≤ v5 ∧ v5 ≤ l.length ∧ v1 = k + 1 * v5 := hg2
  obtain ⟨_, _, _⟩ := hg2
  refine X.seq ?_
  refine X.seq ?_
  have el3 : (l.map dI).length = l.length := List.length_map ..
  refine rk ⟨[(0, lV (l.map dI)), (1, iV v1), (5, iV v5), (9, bV (decide ((v5 : Int) < ((l.map dI).length : Int))))], [], 160⟩ ?_
  refine if_ (b := decide ((v5 : Int) < ((l.map dI).length : Int))) (fun hb4 => ?_) (fun hb4 => ?_)
  ·replace hb4 := of_decide_eq_true (hb4)
   refine X.skip ?_
   refine X.seq ?_
   refine X.block ?_
   refine X.seq ?_
   refine X.seq (rs 2 ?_)
   obtain ⟨x5, hx5⟩ : ∃ x, l[Int.toNat v5]? = some x := ⟨_, List.getElem?_eq_getElem (by first | omega | (simp; done) | (simp; omega))⟩
   refine CH.idx hτ (dI x5) (rows := (l.map dI)) (n := v5) (sz := 1) (by kernel_rfl) (by kernel_rfl) (by first | omega | (simp; done) | (simp; omega)) (by rw [List.getElem?_map, hx5]; rfl) (by kernel_rfl) ?_
   refine go 3 ?_
   refine ek ⟨[(0, lV (l.map dI)), (1, iV v1), (5, iV v5), (17, bV (x5 != v1))], [], 256⟩ ?_
   refine if_ (b := (x5 != v1)) (fun hb6 => ?_) (fun hb6 => ?_)
   ·replace hb6 := bne_iff_ne.1 (hb6)
    refine sk ⟨[(4, iV (-1))], [], 272⟩ ?_
    refine X.ret ?_
    exact ⟨trivial, _, _, ⟨(-1), ⟨⟨by omega, by omega, fun h => by omega⟩, (fun hM => by first | omega | (have hq := hM _ _ (by omega) (by omega) (‹l[_]? = some _›); exfalso; have hq2 : _ = k + _ := hq; omega))⟩, rfl, rfl⟩, mkr⟩
   ·replace hb6 := bne_eq_false_iff_eq.1 (hb6)
    refine X.skip ?_
    refine X.rk ⟨[(0, lV (l.map dI)), (1, iV (wrap64 (v1 + 1))), (5, iV v5)], [], 304⟩ hτ hmix (by kernel_rfl) (by kernel_rfl) (s2 := ⟨[(0, lV (l.map dI)), (1, iV (v1 + 1)), (5, iV v5)], [], 304⟩) (congrArg (fun z : Int => (⟨[(0, lV (l.map dI)), (1, iV z), (5, iV v5)], [], 304⟩ : St)) (show wrap64 (v1 + 1) = (v1 + 1) by rw [w64 (n := (v1 + 1)) (by omega) (by omega)])) ?_
    refine X.rk ⟨[(0, lV (l.map dI)), (1, iV (v1 + 1)), (5, iV (wrap64 (v5 + 1)))], [], 352⟩ hτ hmix (by kernel_rfl) (by kernel_rfl) (s2 := ⟨[(0, lV (l.map dI)), (1, iV (v1 + 1)), (5, iV (v5 + 1))], [], 352⟩) (congrArg (fun z : Int => (⟨[(0, lV (l.map dI)), (1, iV (v1 + 1)), (5, iV z)], [], 352⟩ : St)) (show wrap64 (v5 + 1) = (v5 + 1) by rw [w64 (n := (v5 + 1)) (by omega) (by omega)])) ?_
    refine ⟨⟨((v1 + 1), (v5 + 1)), ⟨by first | omega | (dsimp only; omega), by first | omega | (dsimp only; omega), by first | omega | (dsimp only; omega)⟩⟩, by first | exact rfl | omega | (dsimp only; omega) | (simp only [List.length_append, List.length_cons, List.length_nil, List.length_set]; omega) | (simp; done) | (simp; omega), Wk.mk' [] (by kernel_rfl) (by kernel_rfl) (by kernel_rfl)⟩
  ·replace hb4 := of_decide_eq_false (hb4)
   refine X.exit ?_
   refine sk ⟨[(4, iV v1)], [], 192⟩ ?_
   refine X.ret ?_
   exact ⟨trivial, _, _, ⟨v1, ⟨⟨by omega, by omega, fun h => by omega⟩, (fun hM => by first | omega | (have hq := hM _ _ (by omega) (by omega) (‹l[_]? = some _›); exfalso; have hq2 : _ = k + _ := hq; omega))⟩, rfl, rfl⟩, mkr⟩
 obtain ⟨_, _, ⟨r0, h1_, rfl, rfl⟩, hf⟩ := key
 exact ⟨r0, h1_, hf⟩

theorem t_heldValS (l : List S165) (k : Int) (hl : l.length ≤ 40000000) (hk : 0 ≤ k ∧ k ≤ 100000000) : ∃ r0 : Int, ((-1 ≤ r0 ∧ r0 ≤ k + 2 * l.length ∧ (0 ≤ r0 → r0 = k + 2 * l.length)) ∧ (Upto (mkVal k) (fun n => l[n]?) l.length → r0 = k + 2 * l.length)) ∧ Fn Try.prog 85 [lV (l.map d165), iV k] (lookH []) (iV r0) (lookH []) := by
 have key : ∃ x' h', ((fun x' h' => ∃ r0 : Int, ((-1 ≤ r0 ∧ r0 ≤ k + 2 * l.length ∧ (0 ≤ r0 → r0 = k + 2 * l.length)) ∧ (Upto (mkVal k) (fun n => l[n]?) l.length → r0 = k + 2 * l.length)) ∧ x' = iV r0 ∧ h' = [])) x' h' ∧ Fn Try.prog 85 [lV (l.map d165), iV k] (lookH []) x' (lookH h') := by
  refine Fn.bodyX (N := 32) hτ Try.func85 rfl rfl rfl rfl ?_
  refine sk ⟨[(0, lV (l.map d165)), (1, iV k)], [], 80⟩ ?_
  refine X.seq ?_
  refine sk ⟨[(0, lV (l.map d165)), (1, iV k), (5, iV 0)], [], 96⟩ ?_
  refine X.block ?_
  -- 2: v1 : Int, v5 : Int
  refine X.loop (σ := { g : Int × Int // (fun (v1 : Int) (v5 : Int) => 0 ≤ v5 ∧ v5 ≤ l.length ∧ v1 = k + 2 * v5) g.1 g.2 }) (fun g => (fun (v1 : Int) (v5 : Int) => ⟨[(0, lV (l.map d165)), (1, iV v1), (5, iV v5)], [], 96⟩) g.1.1 g.1.2) (fun g => (fun (v1 : Int) (v5 : Int) => (l.length - v5).toNat) g.1.1 g.1.2) ⟨(k, 0), ⟨by first | omega | (dsimp only; omega), by first | omega | (dsimp only; omega), by first | omega | (dsimp only; omega)⟩⟩ (Wk.less (by kernel_rfl)) (fun g => ?_)
  obtain ⟨⟨v1, v5⟩, hg2⟩ := g
  have hg2 : 0 ≤ v5 ∧ v5 ≤ l.length ∧ v1 = k + 2 * v5 := hg2
  obtain ⟨_, _, _⟩ := hg2
  refine X.seq ?_
  refine X.seq ?_
  have el3 : (l.map d165).length = l.length := List.length_map ..
  refine rk ⟨[(0, lV (l.map d165)), (1, iV v1), (5, iV v5), (9, bV (decide ((v5 : Int) < ((l.map d165).length : Int))))], [], 160⟩ ?_
  refine if_ (b := decide ((v5 : Int) < ((l.map d165).length : Int))) (fun hb4 => ?_) (fun hb4 => ?_)
  ·replace hb4 := of_decide_eq_true (hb4)
   refine X.skip ?_
   refine X.seq ?_
   refine X.block ?_
   refine X.seq ?_
   refine X.seq (rs 2 ?_)
   obtain ⟨x5, hx5⟩ : ∃ x, l[Int.toNat v5]? = some x := ⟨_, List.getElem?_eq_getElem (by first | omega | (simp; done) | (simp; omega))⟩
   refine CH.idx hτ (d165 x5) (rows := (l.map d165)) (n := v5) (sz := 2) (by kernel_rfl) (by kernel_rfl) (by first | omega | (simp; done) | (simp; omega)) (by rw [List.getElem?_map, hx5]; rfl) (by kernel_rfl) ?_
   refine go 3 ?_
   obtain ⟨r6, hr8, hf7⟩ := l_markText v1 (by omega)
   replace hr8 := hr8.symm; subst hr8
   refine ca hf7 Try.func58 ?_
   refine go 1 ?_
   refine ek ⟨[(0, lV (l.map d165)), (1, iV v1), (5, iV v5), (19, bV (!(x5.f0.toList == (mt v1).toList)))], [], 288⟩ ?_
   refine if_ (b := !(x5.f0.toList == (mt v1).toList)) (fun hb10 => ?_) (fun hb10 => ?_)
   ·replace hb10 := beq_no (bnot_yes (hb10))
    refine sk ⟨[(4, iV (-1))], [], 304⟩ ?_
    refine X.ret ?_
    exact ⟨trivial, _, _, ⟨(-1), ⟨⟨by omega, by omega, fun h => by omega⟩, (fun hM => by first | omega | (have hq := hM _ _ (by omega) (by omega) (‹l[_]? = some _›); exfalso; first | (have := hq.2; omega) | (exact ‹¬ _› (by rw [hq.1]; congr 2; omega))))⟩, rfl, rfl⟩, mkr⟩
   ·replace hb10 := beq_yes (bnot_no (hb10))
    refine X.skip ?_
    refine X.seq ?_
    refine X.rk ⟨[(0, lV (l.map d165)), (1, iV (wrap64 (v1 + 1))), (5, iV v5)], [], 336⟩ hτ hmix (by kernel_rfl) (by kernel_rfl) (s2 := ⟨[(0, lV (l.map d165)), (1, iV (v1 + 1)), (5, iV v5)], [], 336⟩) (congrArg (fun z : Int => (⟨[(0, lV (l.map d165)), (1, iV z), (5, iV v5)], [], 336⟩ : St)) (show wrap64 (v1 + 1) = (v1 + 1) by rw [w64 (n := (v1 + 1)) (by omega) (by omega)])) ?_
    refine X.seq ?_
    refine X.seq (rs 2 ?_)
    refine CH.idx hτ (d165 x5) (rows := (l.map d165)) (n := v5) (sz := 2) (by kernel_rfl) (by kernel_rfl) (by first | omega | (simp; done) | (simp; omega)) (by rw [List.getElem?_map, hx5]; rfl) (by kernel_rfl) ?_
    refine go 4 ?_
    refine ek ⟨[(0, lV (l.map d165)), (1, iV (v1 + 1)), (5, iV v5), (28, bV (x5.f1 != (v1 + 1)))], [], 448⟩ ?_
    refine if_ (b := (x5.f1 != (v1 + 1))) (fun hb11 => ?_) (fun hb11 => ?_)
    ·replace hb11 := bne_iff_ne.1 (hb11)
     refine sk ⟨[(4, iV (-1))], [], 464⟩ ?_
     refine X.ret ?_
     exact ⟨trivial, _, _, ⟨(-1), ⟨⟨by omega, by omega, fun h => by omega⟩, (fun hM => by first | omega | (have hq := hM _ _ (by omega) (by omega) (‹l[_]? = some _›); exfalso; first | (have := hq.2; omega) | (exact ‹¬ _› (by rw [hq.1]; congr 2; omega))))⟩, rfl, rfl⟩, mkr⟩
    ·replace hb11 := bne_eq_false_iff_eq.1 (hb11)
     refine X.skip ?_
     refine X.rk ⟨[(0, lV (l.map d165)), (1, iV (wrap64 ((v1 + 1) + 1))), (5, iV v5)], [], 496⟩ hτ hmix (by kernel_rfl) (by kernel_rfl) (s2 := ⟨[(0, lV (l.map d165)), (1, iV ((v1 + 1) + 1)), (5, iV v5)], [], 496⟩) (congrArg (fun z : Int => (⟨[(0, lV (l.map d165)), (1, iV z), (5, iV v5)], [], 496⟩ : St)) (show wrap64 ((v1 + 1) + 1) = ((v1 + 1) + 1) by rw [w64 (n := ((v1 + 1) + 1)) (by omega) (by omega)])) ?_
     refine X.rk ⟨[(0, lV (l.map d165)), (1, iV ((v1 + 1) + 1)), (5, iV (wrap64 (v5 + 1)))], [], 544⟩ hτ hmix (by kernel_rfl) (by kernel_rfl) (s2 := ⟨[(0, lV (l.map d165)), (1, iV ((v1 + 1) + 1)), (5, iV (v5 + 1))], [], 544⟩) (congrArg (fun z : Int => (⟨[(0, lV (l.map d165)), (1, iV ((v1 + 1) + 1)), (5, iV z)], [], 544⟩ : St)) (show wrap64 (v5 + 1) = (v5 + 1) by rw [w64 (n := (v5 + 1)) (by omega) (by omega)])) ?_
     refine ⟨⟨(((v1 + 1) + 1), (v5 + 1)), ⟨by first | omega | (dsimp only; omega), by first | omega | (dsimp only; omega), by first | omega | (dsimp only; omega)⟩⟩, by first | exact rfl | omega | (dsimp only; omega) | (simp only [List.length_append, List.length_cons, List.length_nil, List.length_set]; omega) | (simp; done) | (simp; omega), Wk.mk' [] (by kernel_rfl) (by kernel_rfl) (by kernel_rfl)⟩
  ·replace hb4 := of_decide_eq_false (hb4)
   refine X.exit ?_
   refine sk ⟨[(4, iV v1)], [], 192⟩ ?_
   refine X.ret ?_
   exact ⟨trivial, _, _, ⟨v1, ⟨⟨by omega, by omega, fun h => by omega⟩, (fun hM => by first | omega | (have hq := hM _ _ (by omega) (by omega) (‹l[_]? = some _›); exfalso; first | (have := hq.2; omega) | (exact ‹¬ _› (by rw [hq.1]; congr 2; omega))))⟩, rfl, rfl⟩, mkr⟩
 obtain ⟨_, _, ⟨r0, h1_, rfl, rfl⟩, hf⟩ := key
 exact ⟨r0, h1_, hf⟩

theorem t_markQc (q : S68) (k : Int) (hl : q.f2.length ≤ 2000000) (hk : 0 ≤ k ∧ k ≤ 50000000) : ∃ r0 : Int, ∃ q0 : List ByteArray, (q0.length = q.f2.length ∧ r0 = k + q.f2.length ∧ Upto (mkStr k) (fun n => q0[n]?) q.f2.length) ∧ Fn Try.prog 81 [.e (.agg [.d (.v (.int .i64 q.f0)), .d (.v (.int .i64 q.f1)), .ref 0]), iV k] (lookH [(0, some (.row 1 9 (q.f2.map dS) false true))]) (iV r0) (lookH [(0, some (.row 1 9 (q0.map dS) false true))]) := by
 have key : ∃ x' h', ((fun x' h' => ∃ r0 : Int, ∃ q0 : List ByteArray, (q0.length = q.f2.length ∧ r0 = k + q.f2.length ∧ Upto (mkStr k) (fun n => q0[n]?) q.f2.length) ∧ x' = iV r0 ∧ h' = [(0, some (.row 1 9 (q0.map dS) false true))])) x' h' ∧ Fn Try.prog 81 [.e (.agg [.d (.v (.int .i64 q.f0)), .d (.v (.int .i64 q.f1)), .ref 0]), iV k] (lookH [(0, some (.row 1 9 (q.f2.map dS) false true))]) x' (lookH h') := by
  refine Fn.bodyX (N := 10) hτ Try.func81 rfl rfl rfl rfl ?_
  refine sk ⟨[(1, iV k), (2, .pt 64 0 0)], [(0, some (.row 1 9 (q.f2.map dS) false true)), (64, some (.box [.d (.v (.int .i64 q.f0)), .d (.v (.int .i64 q.f1)), .ref 0]))], 96⟩ ?_
  refine X.seq (rs 3 ?_)
  obtain ⟨r1, q2, hr4, hf3⟩ := t_markStringS q.f2 k (by first | assumption | omega) (by first | assumption | omega)
  obtain ⟨hql, hqk, hqm⟩ := hr4
  refine CH.callB hf3 Try.func78 ⟨rfl, rfl⟩ 0 1 9 (q.f2.map dS) true 9 (q2.map dS) (by kernel_rfl) (by kernel_rfl) (by kernel_rfl) (by kernel_rfl) (by kernel_rfl) (by first | (simp; done) | (simp; omega)) (by kernel_rfl) ?_
  refine go 1 ?_
  refine ek ⟨[(1, iV r1)], [(0, some (.row 1 9 (q2.map dS) false true))], 176⟩ ?_
  refine sk ⟨[(4, iV r1)], [(0, some (.row 1 9 (q2.map dS) false true))], 208⟩ ?_
  refine X.ret ?_
  exact ⟨trivial, _, _, ⟨r1, q2, ⟨hql, by omega, hqm⟩, rfl, rfl⟩, mkr⟩
 obtain ⟨_, _, ⟨r0, q0, h1_, rfl, rfl⟩, hf⟩ := key
 exact ⟨r0, q0, h1_, hf⟩

theorem t_markTc (t : S69) (k : Int) (hl : t.f1.length ≤ 2000000) (hl2 : t.f2.length ≤ 2000000) (hk : 0 ≤ k ∧ k ≤ 50000000) : ∃ r0 : Int, ∃ q0 : List ByteArray, ∃ q1 : List Int, (q0.length = t.f1.length ∧ q1.length = t.f2.length ∧ r0 = k + t.f1.length + t.f2.length ∧ Upto (mkStr k) (fun n => q0[n]?) t.f1.length ∧ Upto (mkInt (k + t.f1.length)) (fun n => q1[n]?) t.f2.length) ∧ Fn Try.prog 82 [.e (.agg [.d (.v (.int .i64 t.f0)), .ref 0, .ref 1]), iV k] (lookH [(0, some (.row 1 9 (t.f1.map dS) false true)), (1, some (.row 1 3 (t.f2.map dI) false true))]) (iV r0) (lookH [(0, some (.row 1 9 (q0.map dS) false true)), (1, some (.row 1 3 (q1.map dI) false true))]) := by
 have key : ∃ x' h', ((fun x' h' => ∃ r0 : Int, ∃ q0 : List ByteArray, ∃ q1 : List Int, (q0.length = t.f1.length ∧ q1.length = t.f2.length ∧ r0 = k + t.f1.length + t.f2.length ∧ Upto (mkStr k) (fun n => q0[n]?) t.f1.length ∧ Upto (mkInt (k + t.f1.length)) (fun n => q1[n]?) t.f2.length) ∧ x' = iV r0 ∧ h' = [(0, some (.row 1 9 (q0.map dS) false true)), (1, some (.row 1 3 (q1.map dI) false true))])) x' h' ∧ Fn Try.prog 82 [.e (.agg [.d (.v (.int .i64 t.f0)), .ref 0, .ref 1]), iV k] (lookH [(0, some (.row 1 9 (t.f1.map dS) false true)), (1, some (.row 1 3 (t.f2.map dI) false true))]) x' (lookH h') := by
  refine Fn.bodyX (N := 14) hτ Try.func82 rfl rfl rfl rfl ?_
  refine sk ⟨[(1, iV k), (2, .pt 64 0 0)], [(0, some (.row 1 9 (t.f1.map dS) false true)), (1, some (.row 1 3 (t.f2.map dI) false true)), (64, some (.box [.d (.v (.int .i64 t.f0)), .ref 0, .ref 1]))], 96⟩ ?_
  refine X.seq (rs 3 ?_)
  obtain ⟨r1, q2, hr4, hf3⟩ := t_markStringS t.f1 k (by first | assumption | omega) (by first | assumption | omega)
  obtain ⟨hql, hqk, hqm⟩ := hr4
  refine CH.callB hf3 Try.func78 ⟨rfl, rfl⟩ 0 1 9 (t.f1.map dS) true 9 (q2.map dS) (by kernel_rfl) (by kernel_rfl) (by kernel_rfl) (by kernel_rfl) (by kernel_rfl) (by first | (simp; done) | (simp; omega)) (by kernel_rfl) ?_
  refine go 1 ?_
  refine ek ⟨[(1, iV r1), (2, .pt 64 0 0)], [(0, some (.row 1 9 (q2.map dS) false true)), (1, some (.row 1 3 (t.f2.map dI) false true)), (64, some (.box [.d (.v (.int .i64 t.f0)), .ref 0, .ref 1]))], 176⟩ ?_
  refine X.seq ?_
  have e1 := hql
  have e2 := hqk
  have e3 := hqm
  refine rs 3 ?_
  obtain ⟨r5, q6, hr8, hf7⟩ := t_markIntS t.f2 r1 (by first | assumption | omega) (by first | assumption | omega)
  obtain ⟨hql, hqk, hqm⟩ := hr8
  refine CH.callB hf7 Try.func79 ⟨rfl, rfl⟩ 1 1 3 (t.f2.map dI) true 3 (q6.map dI) (by kernel_rfl) (by kernel_rfl) (by kernel_rfl) (by kernel_rfl) (by kernel_rfl) (by first | (simp; done) | (simp; omega)) (by kernel_rfl) ?_
  refine go 1 ?_
  refine ek ⟨[(1, iV r5)], [(0, some (.row 1 9 (q2.map dS) false true)), (1, some (.row 1 3 (q6.map dI) false true))], 256⟩ ?_
  refine sk ⟨[(4, iV r5)], [(0, some (.row 1 9 (q2.map dS) false true)), (1, some (.row 1 3 (q6.map dI) false true))], 288⟩ ?_
  refine X.ret ?_
  exact ⟨trivial, _, _, ⟨r5, q2, q6, ⟨e1, hql, by omega, e3, by rw [← e2]; exact hqm⟩, rfl, rfl⟩, mkr⟩
 obtain ⟨_, _, ⟨r0, q0, q1, h1_, rfl, rfl⟩, hf⟩ := key
 exact ⟨r0, q0, q1, h1_, hf⟩

theorem t_markBlock (b : S72) (k : Int) (hb : Sm72 b) (hk : 0 ≤ k ∧ k ≤ 30000000) : ∃ r0 : Int, ∃ q0 : List ByteArray, ∃ q1 : List ByteArray, ∃ q2 : List Int, ∃ q3 : List S35, ∃ q4 : List S165, (q0.length = b.f4.f2.length ∧ q1.length = b.f5.f1.length ∧ q2.length = b.f5.f2.length ∧ q3.length = b.f6.length ∧ q4.length = b.f8.length ∧ r0 = k + b.f4.f2.length + b.f5.f1.length + b.f5.f2.length + 5 * b.f6.length + 2 * b.f8.length ∧ Upto (mkStr k) (fun n => q0[n]?) b.f4.f2.length ∧ Upto (mkStr (k + b.f4.f2.length)) (fun n => q1[n]?) b.f5.f1.length ∧ Upto (mkInt (k + b.f4.f2.length + b.f5.f1.length)) (fun n => q2[n]?) b.f5.f2.length ∧ Upto (mkTx (k + b.f4.f2.length + b.f5.f1.length + b.f5.f2.length)) (fun n => q3[n]?) b.f6.length ∧ Upto (mkVal (k + b.f4.f2.length + b.f5.f1.length + b.f5.f2.length + 5 * b.f6.length)) (fun n => q4[n]?) b.f8.length) ∧ Fn Try.prog 33 [.e (.agg [.d (.v (.int .i64 b.f0)), .d (.v (.int .i64 b.f1)), .d (.v (.int .i64 b.f2)), .d (.v (.string b.f3)), .d (.v (.int .i64 b.f4.f0)), .d (.v (.int .i64 b.f4.f1)), .ref 0, .d (.v (.int .i64 b.f5.f0)), .ref 1, .ref 2, .ref 3, .d (.v (.bool b.f7)), .ref 4, .d (.v (.string b.f9))]), iV k] (lookH [(0, some (.row 1 9 (b.f4.f2.map dS) false true)), (1, some (.row 1 9 (b.f5.f1.map dS) false true)), (2, some (.row 1 3 (b.f5.f2.map dI) false true)), (3, some (.row 5 35 (b.f6.map d35) false true)), (4, some (.row 2 165 (b.f8.map d165) false true))]) (iV r0) (lookH [(0, some (.row 1 9 (q0.map dS) false true)), (1, some (.row 1 9 (q1.map dS) false true)), (2, some (.row 1 3 (q2.map dI) false true)), (3, some (.row 5 35 (q3.map d35) false true)), (4, some (.row 2 165 (q4.map d165) false true))]) := by
 have key : ∃ x' h', ((fun x' h' => ∃ r0 : Int, ∃ q0 : List ByteArray, ∃ q1 : List ByteArray, ∃ q2 : List Int, ∃ q3 : List S35, ∃ q4 : List S165, (q0.length = b.f4.f2.length ∧ q1.length = b.f5.f1.length ∧ q2.length = b.f5.f2.length ∧ q3.length = b.f6.length ∧ q4.length = b.f8.length ∧ r0 = k + b.f4.f2.length + b.f5.f1.length + b.f5.f2.length + 5 * b.f6.length + 2 * b.f8.length ∧ Upto (mkStr k) (fun n => q0[n]?) b.f4.f2.length ∧ Upto (mkStr (k + b.f4.f2.length)) (fun n => q1[n]?) b.f5.f1.length ∧ Upto (mkInt (k + b.f4.f2.length + b.f5.f1.length)) (fun n => q2[n]?) b.f5.f2.length ∧ Upto (mkTx (k + b.f4.f2.length + b.f5.f1.length + b.f5.f2.length)) (fun n => q3[n]?) b.f6.length ∧ Upto (mkVal (k + b.f4.f2.length + b.f5.f1.length + b.f5.f2.length + 5 * b.f6.length)) (fun n => q4[n]?) b.f8.length) ∧ x' = iV r0 ∧ h' = [(0, some (.row 1 9 (q0.map dS) false true)), (1, some (.row 1 9 (q1.map dS) false true)), (2, some (.row 1 3 (q2.map dI) false true)), (3, some (.row 5 35 (q3.map d35) false true)), (4, some (.row 2 165 (q4.map d165) false true))])) x' h' ∧ Fn Try.prog 33 [.e (.agg [.d (.v (.int .i64 b.f0)), .d (.v (.int .i64 b.f1)), .d (.v (.int .i64 b.f2)), .d (.v (.string b.f3)), .d (.v (.int .i64 b.f4.f0)), .d (.v (.int .i64 b.f4.f1)), .ref 0, .d (.v (.int .i64 b.f5.f0)), .ref 1, .ref 2, .ref 3, .d (.v (.bool b.f7)), .ref 4, .d (.v (.string b.f9))]), iV k] (lookH [(0, some (.row 1 9 (b.f4.f2.map dS) false true)), (1, some (.row 1 9 (b.f5.f1.map dS) false true)), (2, some (.row 1 3 (b.f5.f2.map dI) false true)), (3, some (.row 5 35 (b.f6.map d35) false true)), (4, some (.row 2 165 (b.f8.map d165) false true))]) x' (lookH h') := by
  refine Fn.bodyX (N := 22) hτ Try.func33 rfl rfl rfl rfl ?_
  refine sk ⟨[(1, iV k), (2, .pt 64 0 0)], [(0, some (.row 1 9 (b.f4.f2.map dS) false true)), (1, some (.row 1 9 (b.f5.f1.map dS) false true)), (2, some (.row 1 3 (b.f5.f2.map dI) false true)), (3, some (.row 5 35 (b.f6.map d35) false true)), (4, some (.row 2 165 (b.f8.map d165) false true)), (64, some (.box [.d (.v (.int .i64 b.f0)), .d (.v (.int .i64 b.f1)), .d (.v (.int .i64 b.f2)), .d (.v (.string b.f3)), .d (.v (.int .i64 b.f4.f0)), .d (.v (.int .i64 b.f4.f1)), .ref 0, .d (.v (.int .i64 b.f5.f0)), .ref 1, .ref 2, .ref 3, .d (.v (.bool b.f7)), .ref 4, .d (.v (.string b.f9))]))], 96⟩ ?_
  refine X.seq ?_
  obtain ⟨_, hbq, ⟨⟨hbt1, _⟩, hbt2⟩, ⟨hbx, _⟩, ⟨hbv, _⟩, _⟩ := hb
  have hbq1 := hbq.1
  refine rs 3 ?_
  obtain ⟨r1, q2, hr4, hf3⟩ := t_markQc b.f4 k (by first | assumption | omega) (by first | assumption | omega)
  obtain ⟨hl0, hk0, hm0⟩ := hr4
  refine CH.callB hf3 Try.func81 ⟨rfl, rfl⟩ 0 1 9 (b.f4.f2.map dS) true 9 (q2.map dS) (by kernel_rfl) (by kernel_rfl) (by kernel_rfl) (by kernel_rfl) (by kernel_rfl) (by first | (simp; done) | (simp; omega)) (by kernel_rfl) ?_
  refine go 1 ?_
  refine ek ⟨[(1, iV r1), (2, .pt 64 0 0)], [(0, some (.row 1 9 (q2.map dS) false true)), (1, some (.row 1 9 (b.f5.f1.map dS) false true)), (2, some (.row 1 3 (b.f5.f2.map dI) false true)), (3, some (.row 5 35 (b.f6.map d35) false true)), (4, some (.row 2 165 (b.f8.map d165) false true)), (64, some (.box [.d (.v (.int .i64 b.f0)), .d (.v (.int .i64 b.f1)), .d (.v (.int .i64 b.f2)), .d (.v (.string b.f3)), .d (.v (.int .i64 b.f4.f0)), .d (.v (.int .i64 b.f4.f1)), .ref 0, .d (.v (.int .i64 b.f5.f0)), .ref 1, .ref 2, .ref 3, .d (.v (.bool b.f7)), .ref 4, .d (.v (.string b.f9))]))], 176⟩ ?_
  refine X.seq (rs 3 ?_)
  obtain ⟨r5, q6, q7, hr9, hf8⟩ := t_markTc b.f5 r1 (by first | assumption | omega) (by first | assumption | omega) (by first | assumption | omega)
  obtain ⟨hl1, hl2, hk1, hm1, hm2⟩ := hr9
  refine CH.callG hf8 Try.func82 ⟨rfl, rfl⟩ [(1, 0), (2, 1)] (by kernel_rfl) (by kernel_rfl) (by kernel_rfl) (nb := true) (fun _ => (back_cons 1 9 (b.f5.f1.map dS) true 9 (q6.map dS) (by kernel_rfl) (by kernel_rfl) (by first | (simp; done) | (simp; omega)) (back_cons 1 3 (b.f5.f2.map dI) true 3 (q7.map dI) (by kernel_rfl) (by kernel_rfl) (by first | (simp; done) | (simp; omega)) back_nil))) (by kernel_rfl) ?_
  refine go 1 ?_
  refine ek ⟨[(1, iV r5), (2, .pt 64 0 0)], [(0, some (.row 1 9 (q2.map dS) false true)), (1, some (.row 1 9 (q6.map dS) false true)), (2, some (.row 1 3 (q7.map dI) false true)), (3, some (.row 5 35 (b.f6.map d35) false true)), (4, some (.row 2 165 (b.f8.map d165) false true)), (64, some (.box [.d (.v (.int .i64 b.f0)), .d (.v (.int .i64 b.f1)), .d (.v (.int .i64 b.f2)), .d (.v (.string b.f3)), .d (.v (.int .i64 b.f4.f0)), .d (.v (.int .i64 b.f4.f1)), .ref 0, .d (.v (.int .i64 b.f5.f0)), .ref 1, .ref 2, .ref 3, .d (.v (.bool b.f7)), .ref 4, .d (.v (.string b.f9))]))], 256⟩ ?_
  refine X.seq ?_
  have e0 := hk0
  have e1 := hk1
  refine rs 3 ?_
  obtain ⟨r10, q11, hr13, hf12⟩ := l_markTxS b.f6 r5 (by first | assumption | omega) (by omega)
  obtain ⟨hql, hqk, hqm⟩ := hr13
  refine CH.callB hf12 Try.func21 ⟨rfl, rfl⟩ 3 5 35 (b.f6.map d35) true 35 (q11.map d35) (by kernel_rfl) (by kernel_rfl) (by kernel_rfl) (by kernel_rfl) (by kernel_rfl) (by first | (simp; done) | (simp; omega)) (by kernel_rfl) ?_
  refine go 1 ?_
  refine ek ⟨[(1, iV r10), (2, .pt 64 0 0)], [(0, some (.row 1 9 (q2.map dS) false true)), (1, some (.row 1 9 (q6.map dS) false true)), (2, some (.row 1 3 (q7.map dI) false true)), (3, some (.row 5 35 (q11.map d35) false true)), (4, some (.row 2 165 (b.f8.map d165) false true)), (64, some (.box [.d (.v (.int .i64 b.f0)), .d (.v (.int .i64 b.f1)), .d (.v (.int .i64 b.f2)), .d (.v (.string b.f3)), .d (.v (.int .i64 b.f4.f0)), .d (.v (.int .i64 b.f4.f1)), .ref 0, .d (.v (.int .i64 b.f5.f0)), .ref 1, .ref 2, .ref 3, .d (.v (.bool b.f7)), .ref 4, .d (.v (.string b.f9))]))], 336⟩ ?_
  refine X.seq ?_
  have e2 := hql
  have e3 := hqk
  have e4 := hqm
  refine rs 3 ?_
  obtain ⟨r14, q15, hr17, hf16⟩ := t_markValS b.f8 r10 (by first | assumption | omega) (by first | assumption | omega)
  obtain ⟨hql, hqk, hqm⟩ := hr17
  refine CH.callB hf16 Try.func80 ⟨rfl, rfl⟩ 4 2 165 (b.f8.map d165) true 165 (q15.map d165) (by kernel_rfl) (by kernel_rfl) (by kernel_rfl) (by kernel_rfl) (by kernel_rfl) (by first | (simp; done) | (simp; omega)) (by kernel_rfl) ?_
  refine go 1 ?_
  refine ek ⟨[(1, iV r14)], [(0, some (.row 1 9 (q2.map dS) false true)), (1, some (.row 1 9 (q6.map dS) false true)), (2, some (.row 1 3 (q7.map dI) false true)), (3, some (.row 5 35 (q11.map d35) false true)), (4, some (.row 2 165 (q15.map d165) false true))], 416⟩ ?_
  refine sk ⟨[(4, iV r14)], [(0, some (.row 1 9 (q2.map dS) false true)), (1, some (.row 1 9 (q6.map dS) false true)), (2, some (.row 1 3 (q7.map dI) false true)), (3, some (.row 5 35 (q11.map d35) false true)), (4, some (.row 2 165 (q15.map d165) false true))], 448⟩ ?_
  refine X.ret ?_
  exact ⟨trivial, _, _, ⟨r14, q2, q6, q7, q11, q15, ⟨hl0, hl1, hl2, e2, hql, by omega, hm0, by rw [← e0]; exact hm1, by rw [← e0]; exact hm2, by rw [← e0, ← e1]; exact e4, by rw [← e0, ← e1, ← e3]; exact hqm⟩, rfl, rfl⟩, mkr⟩
 obtain ⟨_, _, ⟨r0, q0, q1, q2, q3, q4, h1_, rfl, rfl⟩, hf⟩ := key
 exact ⟨r0, q0, q1, q2, q3, q4, h1_, hf⟩

theorem l_szStringS (l : List ByteArray) (n : Int) (hw : l.length ≤ maxLen ∧ ∀ y ∈ l, y.size ≤ maxLen) (hn : 0 ≤ n ∧ n ≤ 2000000) : ∃ r0 : Int, (r0 ≤ n ∧ -1 ≤ r0 ∧ (0 ≤ r0 → (SmN l) ∧ r0 + l.length ≤ n)) ∧ Fn Try.prog 124 [lV (l.map dS), iV n] (lookH []) (iV r0) (lookH []) := by
 have key : ∃ x' h', ((fun x' h' => ∃ r0 : Int, (r0 ≤ n ∧ -1 ≤ r0 ∧ (0 ≤ r0 → (SmN l) ∧ r0 + l.length ≤ n)) ∧ x' = iV r0 ∧ h' = [])) x' h' ∧ Fn Try.prog 124 [lV (l.map dS), iV n] (lookH []) x' (lookH h') := by
  refine Fn.bodyX (N := 28) hτ Try.func124 rfl rfl rfl rfl ?_
  refine sk ⟨[(0, lV (l.map dS)), (1, iV n)], [], 80⟩ ?_
  refine X.seq ?_
  have hsl : l.length ≤ 9223372036854775807 := hw.1
  have el1 : (l.map dS).length = l.length := List.length_map ..
  refine X.rk ⟨[(0, lV (l.map dS)), (1, iV (wrap64 (n - ((l.map dS).length : Int))))], [], 160⟩ hτ hmix (by kernel_rfl) (by kernel_rfl) (s2 := ⟨[(0, lV (l.map dS)), (1, iV (n - ((l.map dS).length : Int)))], [], 160⟩) (congrArg (fun z : Int => (⟨[(0, lV (l.map dS)), (1, iV z)], [], 160⟩ : St)) (show wrap64 (n - ((l.map dS).length : Int)) = (n - ((l.map dS).length : Int)) by rw [w64 (n := (n - ((l.map dS).length : Int))) (by omega) (by omega)])) ?_
  refine X.seq ?_
  refine sk ⟨[(0, lV (l.map dS)), (1, iV (n - ((l.map dS).length : Int))), (11, bV (decide (((n - ((l.map dS).length : Int)) : Int) < 0)))], [], 192⟩ ?_
  refine if_ (b := decide (((n - ((l.map dS).length : Int)) : Int) < 0)) (fun hb2 => ?_) (fun hb2 => ?_)
  ·replace hb2 := of_decide_eq_true (hb2)
   refine sk ⟨[(4, iV (-1))], [], 208⟩ ?_
   refine X.ret ?_
   exact ⟨trivial, _, _, ⟨(-1), ⟨by omega, by omega, fun h => by first | omega | exact ⟨⟨by omega, mem_upto hA (by omega)⟩, by omega⟩⟩, rfl, rfl⟩, mkr⟩
  ·replace hb2 := of_decide_eq_false (hb2)
   refine X.skip ?_
   refine X.seq ?_
   refine sk ⟨[(0, lV (l.map dS)), (1, iV (n - ((l.map dS).length : Int))), (5, iV 0)], [], 208⟩ ?_
   refine X.block ?_
   -- 5: v1 : Int, v5 : Int
   refine X.loop (σ := { g : Int × Int // (fun (v1 : Int) (v5 : Int) => 0 ≤ v5 ∧ v5 ≤ l.length ∧ 0 ≤ v1 ∧ v1 ≤ n - l.length ∧ Upto (fun _ y => SmS y) (fun n => l[n]?) v5) g.1 g.2 }) (fun g => (fun (v1 : Int) (v5 : Int) => ⟨[(0, lV (l.map dS)), (1, iV v1), (5, iV v5)], [], 208⟩) g.1.1 g.1.2) (fun g => (fun (v1 : Int) (v5 : Int) => (l.length - v5).toNat) g.1.1 g.1.2) ⟨((n - ((l.map dS).length : Int)), 0), ⟨by first | omega | (dsimp only; omega), by first | omega | (dsimp only; omega), by first | omega | (dsimp only; omega), by simp only [List.length_map]; omega, upto_zero⟩⟩ (Wk.less (by kernel_rfl)) (fun g => ?_)
   obtain ⟨⟨v1, v5⟩, hg4⟩ := g
   have hg4 : 0 ≤ v5 ∧ v5 ≤ l.length ∧ 0 ≤ v1 ∧ v1 ≤ n - l.length ∧ Upto (fun _ y => SmS y) (fun n => l[n]?) v5 := hg4
   obtain ⟨_, _, _, _, hA⟩ := hg4
   refine X.seq ?_
   refine sk ⟨[(0, lV (l.map dS)), (1, iV v1), (5, iV v5), (15, bV (decide ((v5 : Int) < ((l.map dS).length : Int))))], [], 272⟩ ?_
   refine if_ (b := decide ((v5 : Int) < ((l.map dS).length : Int))) (fun hb5 => ?_) (fun hb5 => ?_)
   ·replace hb5 := of_decide_eq_true (hb5)
    refine X.skip ?_
    refine X.seq ?_
    refine X.block ?_
    refine X.seq (rs 3 ?_)
    obtain ⟨x6, hx6⟩ : ∃ x, l[Int.toNat v5]? = some x := ⟨_, List.getElem?_eq_getElem (by first | omega | (simp; done) | (simp; omega))⟩
    have hsx := hw.2 _ (List.mem_of_getElem? hx6); have hsx2 : _ ≤ 9223372036854775807 := hsx
    refine CH.idx hτ (dS x6) (rows := (l.map dS)) (n := v5) (sz := 1) (by kernel_rfl) (by kernel_rfl) (by first | omega | (simp; done) | (simp; omega)) (by rw [List.getElem?_map, hx6]; rfl) (by kernel_rfl) ?_
    refine go 4 ?_
    refine CH.endk ⟨[(0, lV (l.map dS)), (1, iV (wrap64 (v1 - (x6.size : Int)))), (5, iV v5)], [], 400⟩ (by kernel_rfl) (by kernel_rfl) (s2 := ⟨[(0, lV (l.map dS)), (1, iV (v1 - (x6.size : Int))), (5, iV v5)], [], 400⟩) (congrArg (fun z : Int => (⟨[(0, lV (l.map dS)), (1, iV z), (5, iV v5)], [], 400⟩ : St)) (show wrap64 (v1 - (x6.size : Int)) = (v1 - (x6.size : Int)) by rw [w64 (n := (v1 - (x6.size : Int))) (by omega) (by omega)])) ?_
    refine sk ⟨[(0, lV (l.map dS)), (1, iV (v1 - (x6.size : Int))), (5, iV v5), (26, bV (decide (((v1 - (x6.size : Int)) : Int) < 0)))], [], 432⟩ ?_
    refine if_ (b := decide (((v1 - (x6.size : Int)) : Int) < 0)) (fun hb7 => ?_) (fun hb7 => ?_)
    ·replace hb7 := of_decide_eq_true (hb7)
     refine sk ⟨[(4, iV (-1))], [], 448⟩ ?_
     refine X.ret ?_
     exact ⟨trivial, _, _, ⟨(-1), ⟨by omega, by omega, fun h => by first | omega | exact ⟨⟨by omega, mem_upto hA (by omega)⟩, by omega⟩⟩, rfl, rfl⟩, mkr⟩
    ·replace hb7 := of_decide_eq_false (hb7)
     refine X.skip ?_
     refine X.rk ⟨[(0, lV (l.map dS)), (1, iV (v1 - (x6.size : Int))), (5, iV (wrap64 (v5 + 1)))], [], 480⟩ hτ hmix (by kernel_rfl) (by kernel_rfl) (s2 := ⟨[(0, lV (l.map dS)), (1, iV (v1 - (x6.size : Int))), (5, iV (v5 + 1))], [], 480⟩) (congrArg (fun z : Int => (⟨[(0, lV (l.map dS)), (1, iV (v1 - (x6.size : Int))), (5, iV z)], [], 480⟩ : St)) (show wrap64 (v5 + 1) = (v5 + 1) by rw [w64 (n := (v5 + 1)) (by omega) (by omega)])) ?_
     refine ⟨⟨((v1 - (x6.size : Int)), (v5 + 1)), ⟨by first | omega | (dsimp only; omega), by first | omega | (dsimp only; omega), by first | omega | (dsimp only; omega), by first | omega | (dsimp only; omega), upto_nx (by first | omega | (dsimp only; omega)) hA ‹_› (by show _ ≤ 2000000; omega)⟩⟩, by first | exact rfl | omega | (dsimp only; omega) | (simp only [List.length_append, List.length_cons, List.length_nil, List.length_set]; omega) | (simp; done) | (simp; omega), Wk.mk' [] (by kernel_rfl) (by kernel_rfl) (by kernel_rfl)⟩
   ·replace hb5 := of_decide_eq_false (hb5)
    refine X.exit ?_
    refine sk ⟨[(4, iV v1)], [], 304⟩ ?_
    refine X.ret ?_
    exact ⟨trivial, _, _, ⟨v1, ⟨by omega, by omega, fun h => by first | omega | exact ⟨⟨by omega, mem_upto hA (by omega)⟩, by omega⟩⟩, rfl, rfl⟩, mkr⟩
 obtain ⟨_, _, ⟨r0, h1_, rfl, rfl⟩, hf⟩ := key
 exact ⟨r0, h1_, hf⟩

theorem l_szIntS (l : List Int) (n : Int) (hw : l.length ≤ maxLen ∧ ∀ y ∈ l, (Lit.int .i64 y).wf = true) (hn : 0 ≤ n ∧ n ≤ 2000000) : ∃ r0 : Int, (r0 ≤ n ∧ -1 ≤ r0 ∧ (0 ≤ r0 → (l.length ≤ 2000000) ∧ r0 + l.length ≤ n)) ∧ Fn Try.prog 125 [lV (l.map dI), iV n] (lookH []) (iV r0) (lookH []) := by
 have key : ∃ x' h', ((fun x' h' => ∃ r0 : Int, (r0 ≤ n ∧ -1 ≤ r0 ∧ (0 ≤ r0 → (l.length ≤ 2000000) ∧ r0 + l.length ≤ n)) ∧ x' = iV r0 ∧ h' = [])) x' h' ∧ Fn Try.prog 125 [lV (l.map dI), iV n] (lookH []) x' (lookH h') := by
  refine Fn.bodyX (N := 12) hτ Try.func125 rfl rfl rfl rfl ?_
  refine sk ⟨[(0, lV (l.map dI)), (1, iV n)], [], 80⟩ ?_
  refine X.seq ?_
  have hsl : l.length ≤ 9223372036854775807 := hw.1
  have el1 : (l.map dI).length = l.length := List.length_map ..
  refine X.rk ⟨[(1, iV (wrap64 (n - ((l.map dI).length : Int))))], [], 160⟩ hτ hmix (by kernel_rfl) (by kernel_rfl) (s2 := ⟨[(1, iV (n - ((l.map dI).length : Int)))], [], 160⟩) (congrArg (fun z : Int => (⟨[(1, iV z)], [], 160⟩ : St)) (show wrap64 (n - ((l.map dI).length : Int)) = (n - ((l.map dI).length : Int)) by rw [w64 (n := (n - ((l.map dI).length : Int))) (by omega) (by omega)])) ?_
  refine X.seq ?_
  refine sk ⟨[(1, iV (n - ((l.map dI).length : Int))), (10, bV (decide (((n - ((l.map dI).length : Int)) : Int) < 0)))], [], 192⟩ ?_
  refine if_ (b := decide (((n - ((l.map dI).length : Int)) : Int) < 0)) (fun hb2 => ?_) (fun hb2 => ?_)
  ·replace hb2 := of_decide_eq_true (hb2)
   refine sk ⟨[(4, iV (-1))], [], 208⟩ ?_
   refine X.ret ?_
   exact ⟨trivial, _, _, ⟨(-1), ⟨by omega, by omega, fun h => by first | omega | (simp only [List.length_map]; omega)⟩, rfl, rfl⟩, mkr⟩
  ·replace hb2 := of_decide_eq_false (hb2)
   refine X.skip ?_
   refine sk ⟨[(4, iV (n - ((l.map dI).length : Int)))], [], 224⟩ ?_
   refine X.ret ?_
   exact ⟨trivial, _, _, ⟨(n - ((l.map dI).length : Int)), ⟨by omega, by omega, fun h => by first | omega | (simp only [List.length_map]; omega)⟩, rfl, rfl⟩, mkr⟩
 obtain ⟨_, _, ⟨r0, h1_, rfl, rfl⟩, hf⟩ := key
 exact ⟨r0, h1_, hf⟩

theorem l_szVal (x : S158) (n : Int) (hw : w158 x) (hn : 0 ≤ n ∧ n ≤ 2000000) : ∃ r0 : Int, (r0 ≤ n ∧ -1 ≤ r0 ∧ (0 ≤ r0 → Sm165 (toVal x))) ∧ Fn Try.prog 126 [.e (.agg [.d (.v (.string x.f0)), .d (.v (.int .i64 x.f1))]), iV n] (lookH []) (iV r0) (lookH []) := by
 have key : ∃ x' h', ((fun x' h' => ∃ r0 : Int, (r0 ≤ n ∧ -1 ≤ r0 ∧ (0 ≤ r0 → Sm165 (toVal x))) ∧ x' = iV r0 ∧ h' = [])) x' h' ∧ Fn Try.prog 126 [.e (.agg [.d (.v (.string x.f0)), .d (.v (.int .i64 x.f1))]), iV n] (lookH []) x' (lookH h') := by
  refine Fn.bodyX (N := 13) hτ Try.func126 rfl rfl rfl rfl ?_
  refine sk ⟨[(1, iV n), (2, .pt 64 0 0)], [(64, some (.box [.d (.v (.string x.f0)), .d (.v (.int .i64 x.f1))]))], 96⟩ ?_
  refine X.seq ?_
  have hs0 : x.f0.size ≤ 9223372036854775807 := hw.1
  refine X.rk ⟨[(1, iV (wrap64 (n - (x.f0.size : Int))))], [], 192⟩ hτ hmix (by kernel_rfl) (by kernel_rfl) (s2 := ⟨[(1, iV (n - (x.f0.size : Int)))], [], 192⟩) (congrArg (fun z : Int => (⟨[(1, iV z)], [], 192⟩ : St)) (show wrap64 (n - (x.f0.size : Int)) = (n - (x.f0.size : Int)) by rw [w64 (n := (n - (x.f0.size : Int))) (by omega) (by omega)])) ?_
  refine X.seq ?_
  refine sk ⟨[(1, iV (n - (x.f0.size : Int))), (11, bV (decide (((n - (x.f0.size : Int)) : Int) < 0)))], [], 224⟩ ?_
  refine if_ (b := decide (((n - (x.f0.size : Int)) : Int) < 0)) (fun hb1 => ?_) (fun hb1 => ?_)
  ·replace hb1 := of_decide_eq_true (hb1)
   refine sk ⟨[(4, iV (-1))], [], 240⟩ ?_
   refine X.ret ?_
   exact ⟨trivial, _, _, ⟨(-1), ⟨by omega, by omega, fun h => by first | omega | exact m0⟩, rfl, rfl⟩, mkr⟩
  ·replace hb1 := of_decide_eq_false (hb1)
   refine X.skip ?_
   refine X.seq ?_
   have m0 : SmS x.f0 := (by show _ ≤ 2000000; omega)
   refine rk ⟨[(4, iV (n - (x.f0.size : Int)))], [], 256⟩ ?_
   refine X.ret ?_
   exact ⟨trivial, _, _, ⟨(n - (x.f0.size : Int)), ⟨by omega, by omega, fun h => by first | omega | exact m0⟩, rfl, rfl⟩, mkr⟩
 obtain ⟨_, _, ⟨r0, h1_, rfl, rfl⟩, hf⟩ := key
 exact ⟨r0, h1_, hf⟩

theorem l_szValS (l : List S158) (n : Int) (hw : l.length ≤ maxLen ∧ ∀ y ∈ l, w158 y) (hn : 0 ≤ n ∧ n ≤ 2000000) : ∃ r0 : Int, (r0 ≤ n ∧ -1 ≤ r0 ∧ (0 ≤ r0 → (SmV (l.map toVal)) ∧ r0 + l.length ≤ n)) ∧ Fn Try.prog 62 [lV (l.map d158), iV n] (lookH []) (iV r0) (lookH []) := by
 have key : ∃ x' h', ((fun x' h' => ∃ r0 : Int, (r0 ≤ n ∧ -1 ≤ r0 ∧ (0 ≤ r0 → (SmV (l.map toVal)) ∧ r0 + l.length ≤ n)) ∧ x' = iV r0 ∧ h' = [])) x' h' ∧ Fn Try.prog 62 [lV (l.map d158), iV n] (lookH []) x' (lookH h') := by
  refine Fn.bodyX (N := 27) hτ Try.func62 rfl rfl rfl rfl ?_
  refine sk ⟨[(0, lV (l.map d158)), (1, iV n)], [], 80⟩ ?_
  refine X.seq ?_
  have hsl : l.length ≤ 9223372036854775807 := hw.1
  have el1 : (l.map d158).length = l.length := List.length_map ..
  refine X.rk ⟨[(0, lV (l.map d158)), (1, iV (wrap64 (n - ((l.map d158).length : Int))))], [], 160⟩ hτ hmix (by kernel_rfl) (by kernel_rfl) (s2 := ⟨[(0, lV (l.map d158)), (1, iV (n - ((l.map d158).length : Int)))], [], 160⟩) (congrArg (fun z : Int => (⟨[(0, lV (l.map d158)), (1, iV z)], [], 160⟩ : St)) (show wrap64 (n - ((l.map d158).length : Int)) = (n - ((l.map d158).length : Int)) by rw [w64 (n := (n - ((l.map d158).length : Int))) (by omega) (by omega)])) ?_
  refine X.seq ?_
  refine sk ⟨[(0, lV (l.map d158)), (1, iV (n - ((l.map d158).length : Int))), (11, bV (decide (((n - ((l.map d158).length : Int)) : Int) < 0)))], [], 192⟩ ?_
  refine if_ (b := decide (((n - ((l.map d158).length : Int)) : Int) < 0)) (fun hb2 => ?_) (fun hb2 => ?_)
  ·replace hb2 := of_decide_eq_true (hb2)
   refine sk ⟨[(4, iV (-1))], [], 208⟩ ?_
   refine X.ret ?_
   exact ⟨trivial, _, _, ⟨(-1), ⟨by omega, by omega, fun h => by first | omega | exact ⟨⟨by rw [List.length_map]; omega, fun y hy => by obtain ⟨x, hx, rfl⟩ := List.mem_map.1 hy; exact mem_upto hA (by omega) x hx⟩, by omega⟩⟩, rfl, rfl⟩, mkr⟩
  ·replace hb2 := of_decide_eq_false (hb2)
   refine X.skip ?_
   refine X.seq ?_
   refine sk ⟨[(0, lV (l.map d158)), (1, iV (n - ((l.map d158).length : Int))), (5, iV 0)], [], 208⟩ ?_
   refine X.block ?_
   -- 5: v1 : Int, v5 : Int
   refine X.loop (σ := { g : Int × Int // (fun (v1 : Int) (v5 : Int) => 0 ≤ v5 ∧ v5 ≤ l.length ∧ 0 ≤ v1 ∧ v1 ≤ n - l.length ∧ Upto (fun _ y => Sm165 (toVal y)) (fun n => l[n]?) v5) g.1 g.2 }) (fun g => (fun (v1 : Int) (v5 : Int) => ⟨[(0, lV (l.map d158)), (1, iV v1), (5, iV v5)], [], 208⟩) g.1.1 g.1.2) (fun g => (fun (v1 : Int) (v5 : Int) => (l.length - v5).toNat) g.1.1 g.1.2) ⟨((n - ((l.map d158).length : Int)), 0), ⟨by first | omega | (dsimp only; omega), by first | omega | (dsimp only; omega), by first | omega | (dsimp only; omega), by simp only [List.length_map]; omega, upto_zero⟩⟩ (Wk.less (by kernel_rfl)) (fun g => ?_)
   obtain ⟨⟨v1, v5⟩, hg4⟩ := g
   have hg4 : 0 ≤ v5 ∧ v5 ≤ l.length ∧ 0 ≤ v1 ∧ v1 ≤ n - l.length ∧ Upto (fun _ y => Sm165 (toVal y)) (fun n => l[n]?) v5 := hg4
   obtain ⟨_, _, _, _, hA⟩ := hg4
   refine X.seq ?_
   refine sk ⟨[(0, lV (l.map d158)), (1, iV v1), (5, iV v5), (15, bV (decide ((v5 : Int) < ((l.map d158).length : Int))))], [], 272⟩ ?_
   refine if_ (b := decide ((v5 : Int) < ((l.map d158).length : Int))) (fun hb5 => ?_) (fun hb5 => ?_)
   ·replace hb5 := of_decide_eq_true (hb5)
    refine X.skip ?_
    refine X.seq ?_
    refine X.block ?_
    refine X.seq (rs 2 ?_)
    obtain ⟨x6, hx6⟩ : ∃ x, l[Int.toNat v5]? = some x := ⟨_, List.getElem?_eq_getElem (by first | omega | (simp; done) | (simp; omega))⟩
    refine CH.idx hτ (d158 x6) (rows := (l.map d158)) (n := v5) (sz := 2) (by kernel_rfl) (by kernel_rfl) (by first | omega | (simp; done) | (simp; omega)) (by rw [List.getElem?_map, hx6]; rfl) (by kernel_rfl) ?_
    refine go 2 ?_
    obtain ⟨r7, hr9, hf8⟩ := l_szVal x6 v1 (by exact hw.2 _ (List.mem_of_getElem? ‹_›)) (by omega)
    obtain ⟨hz1, hz0, hz2⟩ := hr9
    refine ca hf8 Try.func126 ?_
    refine go 1 ?_
    refine ek ⟨[(0, lV (l.map d158)), (1, iV r7), (5, iV v5)], [], 384⟩ ?_
    refine sk ⟨[(0, lV (l.map d158)), (1, iV r7), (5, iV v5), (25, bV (decide ((r7 : Int) < 0)))], [], 416⟩ ?_
    refine if_ (b := decide ((r7 : Int) < 0)) (fun hb10 => ?_) (fun hb10 => ?_)
    ·replace hb10 := of_decide_eq_true (hb10)
     refine sk ⟨[(4, iV (-1))], [], 432⟩ ?_
     refine X.ret ?_
     exact ⟨trivial, _, _, ⟨(-1), ⟨by omega, by omega, fun h => by first | omega | exact ⟨⟨by rw [List.length_map]; omega, fun y hy => by obtain ⟨x, hx, rfl⟩ := List.mem_map.1 hy; exact mem_upto hA (by omega) x hx⟩, by omega⟩⟩, rfl, rfl⟩, mkr⟩
    ·replace hb10 := of_decide_eq_false (hb10)
     refine X.skip ?_
     refine X.rk ⟨[(0, lV (l.map d158)), (1, iV r7), (5, iV (wrap64 (v5 + 1)))], [], 464⟩ hτ hmix (by kernel_rfl) (by kernel_rfl) (s2 := ⟨[(0, lV (l.map d158)), (1, iV r7), (5, iV (v5 + 1))], [], 464⟩) (congrArg (fun z : Int => (⟨[(0, lV (l.map d158)), (1, iV r7), (5, iV z)], [], 464⟩ : St)) (show wrap64 (v5 + 1) = (v5 + 1) by rw [w64 (n := (v5 + 1)) (by omega) (by omega)])) ?_
     refine ⟨⟨(r7, (v5 + 1)), ⟨by first | omega | (dsimp only; omega), by first | omega | (dsimp only; omega), by first | omega | (dsimp only; omega), by first | omega | (dsimp only; omega), upto_nx (by first | omega | (dsimp only; omega)) hA ‹_› (hz2 (by first | omega | (dsimp only; omega)))⟩⟩, by first | exact rfl | omega | (dsimp only; omega) | (simp only [List.length_append, List.length_cons, List.length_nil, List.length_set]; omega) | (simp; done) | (simp; omega), Wk.mk' [] (by kernel_rfl) (by kernel_rfl) (by kernel_rfl)⟩
   ·replace hb5 := of_decide_eq_false (hb5)
    refine X.exit ?_
    refine sk ⟨[(4, iV v1)], [], 304⟩ ?_
    refine X.ret ?_
    exact ⟨trivial, _, _, ⟨v1, ⟨by omega, by omega, fun h => by first | omega | exact ⟨⟨by rw [List.length_map]; omega, fun y hy => by obtain ⟨x, hx, rfl⟩ := List.mem_map.1 hy; exact mem_upto hA (by omega) x hx⟩, by omega⟩⟩, rfl, rfl⟩, mkr⟩
 obtain ⟨_, _, ⟨r0, h1_, rfl, rfl⟩, hf⟩ := key
 exact ⟨r0, h1_, hf⟩

theorem l_szQc (x : S55) (n : Int) (hw : w55 x) (hn : 0 ≤ n ∧ n ≤ 2000000) : ∃ r0 : Int, (r0 ≤ n ∧ -1 ≤ r0 ∧ (0 ≤ r0 → Sm68 (toQc x) ∧ r0 + x.f2.length ≤ n)) ∧ Fn Try.prog 60 [.e (.agg (cD (d55 x))), iV n] (lookH []) (iV r0) (lookH []) := by
 have key : ∃ x' h', ((fun x' h' => ∃ r0 : Int, (r0 ≤ n ∧ -1 ≤ r0 ∧ (0 ≤ r0 → Sm68 (toQc x) ∧ r0 + x.f2.length ≤ n)) ∧ x' = iV r0 ∧ h' = [])) x' h' ∧ Fn Try.prog 60 [.e (.agg (cD (d55 x))), iV n] (lookH []) x' (lookH h') := by
  refine Fn.bodyX (N := 12) hτ Try.func60 rfl rfl rfl rfl ?_
  refine sk ⟨[(1, iV n), (2, .pt 64 0 0)], [(64, some (.box (cD (d55 x))))], 96⟩ ?_
  refine X.seq ?_
  have hw2 := hw.2.2
  refine rs 3 ?_
  obtain ⟨r1, hr3, hf2⟩ := l_szStringS x.f2 n (by assumption) (by first | omega | assumption)
  obtain ⟨hz1, hz0, hz2⟩ := hr3
  refine ca hf2 Try.func124 ?_
  refine go 1 ?_
  refine ek ⟨[(1, iV r1)], [], 176⟩ ?_
  refine X.seq ?_
  refine sk ⟨[(1, iV r1), (10, bV (decide ((r1 : Int) < 0)))], [], 208⟩ ?_
  refine if_ (b := decide ((r1 : Int) < 0)) (fun hb4 => ?_) (fun hb4 => ?_)
  ·replace hb4 := of_decide_eq_true (hb4)
   refine sk ⟨[(4, iV (-1))], [], 224⟩ ?_
   refine X.ret ?_
   exact ⟨trivial, _, _, ⟨(-1), ⟨by omega, by omega, fun h => by first | omega | (have h9 := hz2 (by omega); exact ⟨h9.1, by omega⟩)⟩, rfl, rfl⟩, mkr⟩
  ·replace hb4 := of_decide_eq_false (hb4)
   refine X.skip ?_
   refine sk ⟨[(4, iV r1)], [], 240⟩ ?_
   refine X.ret ?_
   exact ⟨trivial, _, _, ⟨r1, ⟨by omega, by omega, fun h => by first | omega | (have h9 := hz2 (by omega); exact ⟨h9.1, by omega⟩)⟩, rfl, rfl⟩, mkr⟩
 obtain ⟨_, _, ⟨r0, h1_, rfl, rfl⟩, hf⟩ := key
 exact ⟨r0, h1_, hf⟩

theorem l_szTc (x : S58) (n : Int) (hw : w58 x) (hn : 0 ≤ n ∧ n ≤ 2000000) : ∃ r0 : Int, (r0 ≤ n ∧ -1 ≤ r0 ∧ (0 ≤ r0 → Sm69 (toTc x) ∧ r0 + x.f1.length + x.f2.length ≤ n)) ∧ Fn Try.prog 61 [.e (.agg (cD (d58 x))), iV n] (lookH []) (iV r0) (lookH []) := by
 have key : ∃ x' h', ((fun x' h' => ∃ r0 : Int, (r0 ≤ n ∧ -1 ≤ r0 ∧ (0 ≤ r0 → Sm69 (toTc x) ∧ r0 + x.f1.length + x.f2.length ≤ n)) ∧ x' = iV r0 ∧ h' = [])) x' h' ∧ Fn Try.prog 61 [.e (.agg (cD (d58 x))), iV n] (lookH []) x' (lookH h') := by
  refine Fn.bodyX (N := 18) hτ Try.func61 rfl rfl rfl rfl ?_
  refine sk ⟨[(1, iV n), (2, .pt 64 0 0)], [(64, some (.box (cD (d58 x))))], 96⟩ ?_
  refine X.seq ?_
  have hw1 := hw.2.1
  have hw2 := hw.2.2
  refine rs 3 ?_
  obtain ⟨r1, hr3, hf2⟩ := l_szStringS x.f1 n (by assumption) (by first | omega | assumption)
  obtain ⟨hz1, hz0, hz2⟩ := hr3
  refine ca hf2 Try.func124 ?_
  refine go 1 ?_
  refine ek ⟨[(1, iV r1), (2, .pt 64 0 0)], [(64, some (.box (cD (d58 x))))], 176⟩ ?_
  refine X.seq ?_
  refine sk ⟨[(1, iV r1), (2, .pt 64 0 0), (10, bV (decide ((r1 : Int) < 0)))], [(64, some (.box (cD (d58 x))))], 208⟩ ?_
  refine if_ (b := decide ((r1 : Int) < 0)) (fun hb4 => ?_) (fun hb4 => ?_)
  ·replace hb4 := of_decide_eq_true (hb4)
   refine sk ⟨[(4, iV (-1))], [], 224⟩ ?_
   refine X.ret ?_
   exact ⟨trivial, _, _, ⟨(-1), ⟨by omega, by omega, fun h => by first | omega | (have h9 := hz2 (by omega); exact ⟨⟨y1.1, h9.1⟩, by omega⟩)⟩, rfl, rfl⟩, mkr⟩
  ·replace hb4 := of_decide_eq_false (hb4)
   refine X.skip ?_
   refine X.seq ?_
   have y1 := hz2 (by omega)
   refine rs 3 ?_
   obtain ⟨r5, hr7, hf6⟩ := l_szIntS x.f2 r1 (by assumption) (by first | omega | assumption)
   obtain ⟨hz1, hz0, hz2⟩ := hr7
   refine ca hf6 Try.func125 ?_
   refine go 1 ?_
   refine ek ⟨[(1, iV r5)], [], 288⟩ ?_
   refine X.seq ?_
   refine sk ⟨[(1, iV r5), (16, bV (decide ((r5 : Int) < 0)))], [], 320⟩ ?_
   refine if_ (b := decide ((r5 : Int) < 0)) (fun hb8 => ?_) (fun hb8 => ?_)
   ·replace hb8 := of_decide_eq_true (hb8)
    refine sk ⟨[(4, iV (-1))], [], 336⟩ ?_
    refine X.ret ?_
    exact ⟨trivial, _, _, ⟨(-1), ⟨by omega, by omega, fun h => by first | omega | (have h9 := hz2 (by omega); exact ⟨⟨y1.1, h9.1⟩, by omega⟩)⟩, rfl, rfl⟩, mkr⟩
   ·replace hb8 := of_decide_eq_false (hb8)
    refine X.skip ?_
    refine sk ⟨[(4, iV r5)], [], 352⟩ ?_
    refine X.ret ?_
    exact ⟨trivial, _, _, ⟨r5, ⟨by omega, by omega, fun h => by first | omega | (have h9 := hz2 (by omega); exact ⟨⟨y1.1, h9.1⟩, by omega⟩)⟩, rfl, rfl⟩, mkr⟩
 obtain ⟨_, _, ⟨r0, h1_, rfl, rfl⟩, hf⟩ := key
 exact ⟨r0, h1_, hf⟩

theorem l_szBlock (x : S61) (n : Int) (hw : w61 x) (hn : 0 ≤ n ∧ n ≤ 2000000) : ∃ r0 : Int, (r0 ≤ n ∧ -1 ≤ r0 ∧ (0 ≤ r0 → Sm72 (toBlock x) ∧ r0 + blC (toBlock x) ≤ n)) ∧ Fn Try.prog 25 [.e (.agg (cD (d61 x))), iV n] (lookH []) (iV r0) (lookH []) := by
 have key : ∃ x' h', ((fun x' h' => ∃ r0 : Int, (r0 ≤ n ∧ -1 ≤ r0 ∧ (0 ≤ r0 → Sm72 (toBlock x) ∧ r0 + blC (toBlock x) ≤ n)) ∧ x' = iV r0 ∧ h' = [])) x' h' ∧ Fn Try.prog 25 [.e (.agg (cD (d61 x))), iV n] (lookH []) x' (lookH h') := by
  refine Fn.bodyX (N := 44) hτ Try.func25 rfl rfl rfl rfl ?_
  refine sk ⟨[(1, iV n), (2, .pt 64 0 0)], [(64, some (.box (cD (d61 x))))], 96⟩ ?_
  refine X.seq ?_
  obtain ⟨_, _, _, hv3, hv4, hv5, hv6, _, hv8, hv9⟩ := hw
  have hs3 : x.f3.size ≤ 9223372036854775807 := hv3
  have hs9 : x.f9.size ≤ 9223372036854775807 := hv9
  refine X.rk ⟨[(1, iV (wrap64 (n - (x.f3.size : Int)))), (2, .pt 64 0 0)], [(64, some (.box (cD (d61 x))))], 192⟩ hτ hmix (by kernel_rfl) (by kernel_rfl) (s2 := ⟨[(1, iV (n - (x.f3.size : Int))), (2, .pt 64 0 0)], [(64, some (.box (cD (d61 x))))], 192⟩) (congrArg (fun z : Int => (⟨[(1, iV z), (2, .pt 64 0 0)], [(64, some (.box (cD (d61 x))))], 192⟩ : St)) (show wrap64 (n - (x.f3.size : Int)) = (n - (x.f3.size : Int)) by rw [w64 (n := (n - (x.f3.size : Int))) (by omega) (by omega)])) ?_
  refine X.seq ?_
  refine sk ⟨[(1, iV (n - (x.f3.size : Int))), (2, .pt 64 0 0), (11, bV (decide (((n - (x.f3.size : Int)) : Int) < 0)))], [(64, some (.box (cD (d61 x))))], 224⟩ ?_
  refine if_ (b := decide (((n - (x.f3.size : Int)) : Int) < 0)) (fun hb1 => ?_) (fun hb1 => ?_)
  ·replace hb1 := of_decide_eq_true (hb1)
   refine sk ⟨[(4, iV (-1))], [], 240⟩ ?_
   refine X.ret ?_
   exact ⟨trivial, _, _, ⟨(-1), ⟨by omega, by omega, fun h => by first | omega | exact ⟨⟨m3, y4.1, y5.1, y6.1, y8.1, (by show x.f9.size ≤ 2000000; omega)⟩, by show _ + ((x.f4.f2.length + x.f5.f1.length + x.f5.f2.length + (x.f6.map toTx).length + (x.f8.map toVal).length : Nat) : Int) ≤ _; simp only [List.length_map]; omega⟩⟩, rfl, rfl⟩, mkr⟩
  ·replace hb1 := of_decide_eq_false (hb1)
   refine X.skip ?_
   refine X.seq ?_
   have m3 : SmS x.f3 := (by show _ ≤ 2000000; omega)
   refine rs 3 ?_
   obtain ⟨r2, hr4, hf3⟩ := l_szQc x.f4 (n - (x.f3.size : Int)) (by assumption) (by first | omega | assumption)
   obtain ⟨hz1, hz0, hz2⟩ := hr4
   refine ca hf3 Try.func60 ?_
   refine go 1 ?_
   refine ek ⟨[(1, iV r2), (2, .pt 64 0 0)], [(64, some (.box (cD (d61 x))))], 304⟩ ?_
   refine X.seq ?_
   refine sk ⟨[(1, iV r2), (2, .pt 64 0 0), (17, bV (decide ((r2 : Int) < 0)))], [(64, some (.box (cD (d61 x))))], 336⟩ ?_
   refine if_ (b := decide ((r2 : Int) < 0)) (fun hb5 => ?_) (fun hb5 => ?_)
   ·replace hb5 := of_decide_eq_true (hb5)
    refine sk ⟨[(4, iV (-1))], [], 352⟩ ?_
    refine X.ret ?_
    exact ⟨trivial, _, _, ⟨(-1), ⟨by omega, by omega, fun h => by first | omega | exact ⟨⟨m3, y4.1, y5.1, y6.1, y8.1, (by show x.f9.size ≤ 2000000; omega)⟩, by show _ + ((x.f4.f2.length + x.f5.f1.length + x.f5.f2.length + (x.f6.map toTx).length + (x.f8.map toVal).length : Nat) : Int) ≤ _; simp only [List.length_map]; omega⟩⟩, rfl, rfl⟩, mkr⟩
   ·replace hb5 := of_decide_eq_false (hb5)
    refine X.skip ?_
    refine X.seq ?_
    have y4 := hz2 (by omega)
    refine rs 3 ?_
    obtain ⟨r6, hr8, hf7⟩ := l_szTc x.f5 r2 (by assumption) (by first | omega | assumption)
    obtain ⟨hz1, hz0, hz2⟩ := hr8
    refine ca hf7 Try.func61 ?_
    refine go 1 ?_
    refine ek ⟨[(1, iV r6), (2, .pt 64 0 0)], [(64, some (.box (cD (d61 x))))], 416⟩ ?_
    refine X.seq ?_
    refine sk ⟨[(1, iV r6), (2, .pt 64 0 0), (23, bV (decide ((r6 : Int) < 0)))], [(64, some (.box (cD (d61 x))))], 448⟩ ?_
    refine if_ (b := decide ((r6 : Int) < 0)) (fun hb9 => ?_) (fun hb9 => ?_)
    ·replace hb9 := of_decide_eq_true (hb9)
     refine sk ⟨[(4, iV (-1))], [], 464⟩ ?_
     refine X.ret ?_
     exact ⟨trivial, _, _, ⟨(-1), ⟨by omega, by omega, fun h => by first | omega | exact ⟨⟨m3, y4.1, y5.1, y6.1, y8.1, (by show x.f9.size ≤ 2000000; omega)⟩, by show _ + ((x.f4.f2.length + x.f5.f1.length + x.f5.f2.length + (x.f6.map toTx).length + (x.f8.map toVal).length : Nat) : Int) ≤ _; simp only [List.length_map]; omega⟩⟩, rfl, rfl⟩, mkr⟩
    ·replace hb9 := of_decide_eq_false (hb9)
     refine X.skip ?_
     refine X.seq ?_
     have y5 := hz2 (by omega)
     refine rs 3 ?_
     obtain ⟨r10, hr12, hf11⟩ := l_szTxS x.f6 r6 (by assumption) (by first | omega | assumption)
     obtain ⟨hz1, hz0, hz2⟩ := hr12
     refine ca hf11 Try.func14 ?_
     refine go 1 ?_
     refine ek ⟨[(1, iV r10), (2, .pt 64 0 0)], [(64, some (.box (cD (d61 x))))], 528⟩ ?_
     refine X.seq ?_
     refine sk ⟨[(1, iV r10), (2, .pt 64 0 0), (29, bV (decide ((r10 : Int) < 0)))], [(64, some (.box (cD (d61 x))))], 560⟩ ?_
     refine if_ (b := decide ((r10 : Int) < 0)) (fun hb13 => ?_) (fun hb13 => ?_)
     ·replace hb13 := of_decide_eq_true (hb13)
      refine sk ⟨[(4, iV (-1))], [], 576⟩ ?_
      refine X.ret ?_
      exact ⟨trivial, _, _, ⟨(-1), ⟨by omega, by omega, fun h => by first | omega | exact ⟨⟨m3, y4.1, y5.1, y6.1, y8.1, (by show x.f9.size ≤ 2000000; omega)⟩, by show _ + ((x.f4.f2.length + x.f5.f1.length + x.f5.f2.length + (x.f6.map toTx).length + (x.f8.map toVal).length : Nat) : Int) ≤ _; simp only [List.length_map]; omega⟩⟩, rfl, rfl⟩, mkr⟩
     ·replace hb13 := of_decide_eq_false (hb13)
      refine X.skip ?_
      refine X.seq ?_
      have y6 := hz2 (by omega)
      refine rs 3 ?_
      obtain ⟨r14, hr16, hf15⟩ := l_szValS x.f8 r10 (by assumption) (by first | omega | assumption)
      obtain ⟨hz1, hz0, hz2⟩ := hr16
      refine ca hf15 Try.func62 ?_
      refine go 1 ?_
      refine ek ⟨[(1, iV r14), (2, .pt 64 0 0)], [(64, some (.box (cD (d61 x))))], 640⟩ ?_
      refine X.seq ?_
      refine sk ⟨[(1, iV r14), (2, .pt 64 0 0), (35, bV (decide ((r14 : Int) < 0)))], [(64, some (.box (cD (d61 x))))], 672⟩ ?_
      refine if_ (b := decide ((r14 : Int) < 0)) (fun hb17 => ?_) (fun hb17 => ?_)
      ·replace hb17 := of_decide_eq_true (hb17)
       refine sk ⟨[(4, iV (-1))], [], 688⟩ ?_
       refine X.ret ?_
       exact ⟨trivial, _, _, ⟨(-1), ⟨by omega, by omega, fun h => by first | omega | exact ⟨⟨m3, y4.1, y5.1, y6.1, y8.1, (by show x.f9.size ≤ 2000000; omega)⟩, by show _ + ((x.f4.f2.length + x.f5.f1.length + x.f5.f2.length + (x.f6.map toTx).length + (x.f8.map toVal).length : Nat) : Int) ≤ _; simp only [List.length_map]; omega⟩⟩, rfl, rfl⟩, mkr⟩
      ·replace hb17 := of_decide_eq_false (hb17)
       refine X.skip ?_
       refine X.seq ?_
       have y8 := hz2 (by omega)
       refine X.rk ⟨[(1, iV (wrap64 (r14 - (x.f9.size : Int))))], [], 768⟩ hτ hmix (by kernel_rfl) (by kernel_rfl) (s2 := ⟨[(1, iV (r14 - (x.f9.size : Int)))], [], 768⟩) (congrArg (fun z : Int => (⟨[(1, iV z)], [], 768⟩ : St)) (show wrap64 (r14 - (x.f9.size : Int)) = (r14 - (x.f9.size : Int)) by rw [w64 (n := (r14 - (x.f9.size : Int))) (by omega) (by omega)])) ?_
       refine X.seq ?_
       refine sk ⟨[(1, iV (r14 - (x.f9.size : Int))), (42, bV (decide (((r14 - (x.f9.size : Int)) : Int) < 0)))], [], 800⟩ ?_
       refine if_ (b := decide (((r14 - (x.f9.size : Int)) : Int) < 0)) (fun hb18 => ?_) (fun hb18 => ?_)
       ·replace hb18 := of_decide_eq_true (hb18)
        refine sk ⟨[(4, iV (-1))], [], 816⟩ ?_
        refine X.ret ?_
        exact ⟨trivial, _, _, ⟨(-1), ⟨by omega, by omega, fun h => by first | omega | exact ⟨⟨m3, y4.1, y5.1, y6.1, y8.1, (by show x.f9.size ≤ 2000000; omega)⟩, by show _ + ((x.f4.f2.length + x.f5.f1.length + x.f5.f2.length + (x.f6.map toTx).length + (x.f8.map toVal).length : Nat) : Int) ≤ _; simp only [List.length_map]; omega⟩⟩, rfl, rfl⟩, mkr⟩
       ·replace hb18 := of_decide_eq_false (hb18)
        refine X.skip ?_
        refine sk ⟨[(4, iV (r14 - (x.f9.size : Int)))], [], 832⟩ ?_
        refine X.ret ?_
        exact ⟨trivial, _, _, ⟨(r14 - (x.f9.size : Int)), ⟨by omega, by omega, fun h => by first | omega | exact ⟨⟨m3, y4.1, y5.1, y6.1, y8.1, (by show x.f9.size ≤ 2000000; omega)⟩, by show _ + ((x.f4.f2.length + x.f5.f1.length + x.f5.f2.length + (x.f6.map toTx).length + (x.f8.map toVal).length : Nat) : Int) ≤ _; simp only [List.length_map]; omega⟩⟩, rfl, rfl⟩, mkr⟩
 obtain ⟨_, _, ⟨r0, h1_, rfl, rfl⟩, hf⟩ := key
 exact ⟨r0, h1_, hf⟩

theorem l_szBlockS (l : List S61) (n : Int) (hw : l.length ≤ maxLen ∧ ∀ y ∈ l, w61 y) (hn : 0 ≤ n ∧ n ≤ 2000000) : ∃ r0 : Int, (r0 ≤ n ∧ -1 ≤ r0 ∧ (0 ≤ r0 → SmL (l.map toBlock) ∧ r0 + l.length + wgT blC (l.map toBlock) ≤ n)) ∧ Fn Try.prog 24 [lV (l.map d61), iV n] (lookH []) (iV r0) (lookH []) := by
 have key : ∃ x' h', ((fun x' h' => ∃ r0 : Int, (r0 ≤ n ∧ -1 ≤ r0 ∧ (0 ≤ r0 → SmL (l.map toBlock) ∧ r0 + l.length + wgT blC (l.map toBlock) ≤ n)) ∧ x' = iV r0 ∧ h' = [])) x' h' ∧ Fn Try.prog 24 [lV (l.map d61), iV n] (lookH []) x' (lookH h') := by
  refine Fn.bodyX (N := 27) hτ Try.func24 rfl rfl rfl rfl ?_
  refine sk ⟨[(0, lV (l.map d61)), (1, iV n)], [], 80⟩ ?_
  refine X.seq ?_
  have hsl : l.length ≤ 9223372036854775807 := hw.1
  have el1 : (l.map d61).length = l.length := List.length_map ..
  refine X.rk ⟨[(0, lV (l.map d61)), (1, iV (wrap64 (n - ((l.map d61).length : Int))))], [], 160⟩ hτ hmix (by kernel_rfl) (by kernel_rfl) (s2 := ⟨[(0, lV (l.map d61)), (1, iV (n - ((l.map d61).length : Int)))], [], 160⟩) (congrArg (fun z : Int => (⟨[(0, lV (l.map d61)), (1, iV z)], [], 160⟩ : St)) (show wrap64 (n - ((l.map d61).length : Int)) = (n - ((l.map d61).length : Int)) by rw [w64 (n := (n - ((l.map d61).length : Int))) (by omega) (by omega)])) ?_
  refine X.seq ?_
  refine sk ⟨[(0, lV (l.map d61)), (1, iV (n - ((l.map d61).length : Int))), (11, bV (decide (((n - ((l.map d61).length : Int)) : Int) < 0)))], [], 192⟩ ?_
  refine if_ (b := decide (((n - ((l.map d61).length : Int)) : Int) < 0)) (fun hb2 => ?_) (fun hb2 => ?_)
  ·replace hb2 := of_decide_eq_true (hb2)
   refine sk ⟨[(4, iV (-1))], [], 208⟩ ?_
   refine X.ret ?_
   exact ⟨trivial, _, _, ⟨(-1), ⟨by omega, by omega, fun h => by first | omega | (have h9 := wgT_end (f := blC) (t := toBlock) (l := l) (i := _) ‹_›; omega) | exact ⟨⟨by rw [List.length_map]; omega, fun y hy => by obtain ⟨x, hx, rfl⟩ := List.mem_map.1 hy; exact mem_upto hA (by omega) x hx⟩, by rw [wgT_end (by omega)] at hT; omega⟩⟩, rfl, rfl⟩, mkr⟩
  ·replace hb2 := of_decide_eq_false (hb2)
   refine X.skip ?_
   refine X.seq ?_
   refine sk ⟨[(0, lV (l.map d61)), (1, iV (n - ((l.map d61).length : Int))), (5, iV 0)], [], 208⟩ ?_
   refine X.block ?_
   -- 5: v1 : Int, v5 : Int
   refine X.loop (σ := { g : Int × Int // (fun (v1 : Int) (v5 : Int) => 0 ≤ v5 ∧ v5 ≤ l.length ∧ 0 ≤ v1 ∧ v1 + wgT blC ((l.take (v5).toNat).map toBlock) ≤ n - l.length ∧ Upto (fun _ y => Sm72 (toBlock y)) (fun n => l[n]?) v5) g.1 g.2 }) (fun g => (fun (v1 : Int) (v5 : Int) => ⟨[(0, lV (l.map d61)), (1, iV v1), (5, iV v5)], [], 208⟩) g.1.1 g.1.2) (fun g => (fun (v1 : Int) (v5 : Int) => (l.length - v5).toNat) g.1.1 g.1.2) ⟨((n - ((l.map d61).length : Int)), 0), ⟨by first | omega | (dsimp only; omega), by first | omega | (dsimp only; omega), by first | omega | (dsimp only; omega), by simp only [List.length_map, List.take_zero, List.map_nil, wgT, Int.toNat_zero]; omega, upto_zero⟩⟩ (Wk.less (by kernel_rfl)) (fun g => ?_)
   obtain ⟨⟨v1, v5⟩, hg4⟩ := g
   have hg4 : 0 ≤ v5 ∧ v5 ≤ l.length ∧ 0 ≤ v1 ∧ v1 + wgT blC ((l.take (v5).toNat).map toBlock) ≤ n - l.length ∧ Upto (fun _ y => Sm72 (toBlock y)) (fun n => l[n]?) v5 := hg4
   obtain ⟨_, _, _, hT, hA⟩ := hg4
   refine X.seq ?_
   refine sk ⟨[(0, lV (l.map d61)), (1, iV v1), (5, iV v5), (15, bV (decide ((v5 : Int) < ((l.map d61).length : Int))))], [], 272⟩ ?_
   refine if_ (b := decide ((v5 : Int) < ((l.map d61).length : Int))) (fun hb5 => ?_) (fun hb5 => ?_)
   ·replace hb5 := of_decide_eq_true (hb5)
    refine X.skip ?_
    refine X.seq ?_
    refine X.block ?_
    refine X.seq (rs 2 ?_)
    obtain ⟨x6, hx6⟩ : ∃ x, l[Int.toNat v5]? = some x := ⟨_, List.getElem?_eq_getElem (by first | omega | (simp; done) | (simp; omega))⟩
    refine CH.idx hτ (d61 x6) (rows := (l.map d61)) (n := v5) (sz := 14) (by kernel_rfl) (by kernel_rfl) (by first | omega | (simp; done) | (simp; omega)) (by rw [List.getElem?_map, hx6]; rfl) (by kernel_rfl) ?_
    refine go 2 ?_
    obtain ⟨r7, hr9, hf8⟩ := l_szBlock x6 v1 (by exact hw.2 _ (List.mem_of_getElem? ‹_›)) (by omega)
    obtain ⟨hz1, hz0, hz2⟩ := hr9
    refine ca hf8 Try.func25 ?_
    refine go 1 ?_
    refine ek ⟨[(0, lV (l.map d61)), (1, iV r7), (5, iV v5)], [], 384⟩ ?_
    refine sk ⟨[(0, lV (l.map d61)), (1, iV r7), (5, iV v5), (25, bV (decide ((r7 : Int) < 0)))], [], 416⟩ ?_
    refine if_ (b := decide ((r7 : Int) < 0)) (fun hb10 => ?_) (fun hb10 => ?_)
    ·replace hb10 := of_decide_eq_true (hb10)
     refine sk ⟨[(4, iV (-1))], [], 432⟩ ?_
     refine X.ret ?_
     exact ⟨trivial, _, _, ⟨(-1), ⟨by omega, by omega, fun h => by first | omega | (have h9 := wgT_end (f := blC) (t := toBlock) (l := l) (i := _) ‹_›; omega) | exact ⟨⟨by rw [List.length_map]; omega, fun y hy => by obtain ⟨x, hx, rfl⟩ := List.mem_map.1 hy; exact mem_upto hA (by omega) x hx⟩, by rw [wgT_end (by omega)] at hT; omega⟩⟩, rfl, rfl⟩, mkr⟩
    ·replace hb10 := of_decide_eq_false (hb10)
     refine X.skip ?_
     refine X.rk ⟨[(0, lV (l.map d61)), (1, iV r7), (5, iV (wrap64 (v5 + 1)))], [], 464⟩ hτ hmix (by kernel_rfl) (by kernel_rfl) (s2 := ⟨[(0, lV (l.map d61)), (1, iV r7), (5, iV (v5 + 1))], [], 464⟩) (congrArg (fun z : Int => (⟨[(0, lV (l.map d61)), (1, iV r7), (5, iV z)], [], 464⟩ : St)) (show wrap64 (v5 + 1) = (v5 + 1) by rw [w64 (n := (v5 + 1)) (by omega) (by omega)])) ?_
     refine ⟨⟨(r7, (v5 + 1)), ⟨by first | omega | (dsimp only; omega), by first | omega | (dsimp only; omega), by first | omega | (dsimp only; omega), (by have h9 := hz2 (by first | omega | (dsimp only; omega)); rw [wgT_mp (by first | omega | (dsimp only; omega)) ‹_›]; have h8 := h9.2; omega), upto_nx (by first | omega | (dsimp only; omega)) hA ‹_› (hz2 (by first | omega | (dsimp only; omega))).1⟩⟩, by first | exact rfl | omega | (dsimp only; omega) | (simp only [List.length_append, List.length_cons, List.length_nil, List.length_set]; omega) | (simp; done) | (simp; omega), Wk.mk' [] (by kernel_rfl) (by kernel_rfl) (by kernel_rfl)⟩
   ·replace hb5 := of_decide_eq_false (hb5)
    refine X.exit ?_
    refine sk ⟨[(4, iV v1)], [], 304⟩ ?_
    refine X.ret ?_
    exact ⟨trivial, _, _, ⟨v1, ⟨by omega, by omega, fun h => by first | omega | (have h9 := wgT_end (f := blC) (t := toBlock) (l := l) (i := _) ‹_›; omega) | exact ⟨⟨by rw [List.length_map]; omega, fun y hy => by obtain ⟨x, hx, rfl⟩ := List.mem_map.1 hy; exact mem_upto hA (by omega) x hx⟩, by rw [wgT_end (by omega)] at hT; omega⟩⟩, rfl, rfl⟩, mkr⟩
 obtain ⟨_, _, ⟨r0, h1_, rfl, rfl⟩, hf⟩ := key
 exact ⟨r0, h1_, hf⟩

theorem l_toStringS (l : List ByteArray) (hl : l.length ≤ 2000000) : ∃ r0 : List ByteArray, (r0 = l) ∧ Fn Try.prog 131 [lV (l.map dS)] (lookH []) (rV 64) (lookH [(64, some (.row 1 9 (r0.map dS) false true))]) := by
 have key : ∃ x' h', ((fun x' h' => ∃ r0 : List ByteArray, (r0 = l) ∧ x' = rV 64 ∧ h' = [(64, some (.row 1 9 (r0.map dS) false true))])) x' h' ∧ Fn Try.prog 131 [lV (l.map dS)] (lookH []) x' (lookH h') := by
  refine Fn.bodyX (N := 22) hτ Try.func131 rfl rfl rfl rfl ?_
  refine sk ⟨[(0, lV (l.map dS))], [], 80⟩ ?_
  refine X.seq ?_
  have el1 : (l.map dS).length = l.length := List.length_map ..
  refine rs 2 ?_
  refine CH.mks hτ (n := (l.map dS).length) (bys := 16) (by kernel_rfl) (by kernel_rfl) (by first | omega | (simp only [List.length_map]; omega) | (simp; omega)) (by first | omega | (simp only [List.length_map]; omega) | (simp; omega)) (by kernel_rfl) ?_
  refine go 1 ?_
  refine CH.endk ⟨[(0, lV (l.map dS)), (3, rV 112)], [(112, some (.row 1 9 (List.replicate ((l.map dS).length) (dS (⟨#[]⟩ : ByteArray))) false true))], 144⟩ (by kernel_rfl) (by kernel_rfl) (s2 := ⟨[(0, lV (l.map dS)), (3, rV 112)], [(112, some (.row 1 9 ((List.replicate ((l.map dS).length) (⟨#[]⟩ : ByteArray)).map dS) false true))], 144⟩) (congrArg (fun z : List (List D) => (⟨[(0, lV (l.map dS)), (3, rV 112)], [(112, some (.row 1 9 z false true))], 144⟩ : St)) (show List.replicate ((l.map dS).length) (dS (⟨#[]⟩ : ByteArray)) = ((List.replicate ((l.map dS).length) (⟨#[]⟩ : ByteArray)).map dS) from List.map_replicate.symm)) ?_
  refine X.seq ?_
  refine sk ⟨[(0, lV (l.map dS)), (3, rV 112), (4, iV 0)], [(112, some (.row 1 9 ((List.replicate ((l.map dS).length) (⟨#[]⟩ : ByteArray)).map dS) false true))], 160⟩ ?_
  refine X.block ?_
  -- 3: Lv3 : List ByteArray, v4 : Int
  refine X.loop (σ := { g : (List ByteArray) × Int // (fun (Lv3 : List ByteArray) (v4 : Int) => 0 ≤ v4 ∧ v4 ≤ l.length ∧ Lv3.length = l.length ∧ ∀ (j : Nat) (x : ByteArray), (j : Int) < v4 → l[j]? = some x → Lv3[j]? = some (id x)) g.1 g.2 }) (fun g => (fun (Lv3 : List ByteArray) (v4 : Int) => ⟨[(0, lV (l.map dS)), (3, rV 112), (4, iV v4)], [(112, some (.row 1 9 (Lv3.map dS) false true))], 160⟩) g.1.1 g.1.2) (fun g => (fun (Lv3 : List ByteArray) (v4 : Int) => (l.length - v4).toNat) g.1.1 g.1.2) ⟨((List.replicate ((l.map dS).length) (⟨#[]⟩ : ByteArray)), 0), ⟨by first | omega | (dsimp only; omega), by first | omega | (dsimp only; omega), by simp, fun j x h => by first | omega | (dsimp only; omega)⟩⟩ (Wk.less (by kernel_rfl)) (fun g => ?_)
  obtain ⟨⟨Lv3, v4⟩, hg3⟩ := g
  have hg3 : 0 ≤ v4 ∧ v4 ≤ l.length ∧ Lv3.length = l.length ∧ ∀ (j : Nat) (x : ByteArray), (j : Int) < v4 → l[j]? = some x → Lv3[j]? = some (id x) := hg3
  obtain ⟨_, _, hL, hA⟩ := hg3
  refine X.seq ?_
  refine sk ⟨[(0, lV (l.map dS)), (3, rV 112), (4, iV v4), (11, bV (decide ((v4 : Int) < ((l.map dS).length : Int))))], [(112, some (.row 1 9 (Lv3.map dS) false true))], 224⟩ ?_
  refine if_ (b := decide ((v4 : Int) < ((l.map dS).length : Int))) (fun hb4 => ?_) (fun hb4 => ?_)
  ·replace hb4 := of_decide_eq_true (hb4)
   refine X.skip ?_
   refine X.seq ?_
   refine X.block ?_
   refine rs 4 ?_
   obtain ⟨x5, hx5⟩ : ∃ x, l[Int.toNat v4]? = some x := ⟨_, List.getElem?_eq_getElem (by first | omega | (simp; done) | (simp; omega))⟩
   refine CH.idx hτ (dS x5) (rows := (l.map dS)) (n := v4) (sz := 1) (by kernel_rfl) (by kernel_rfl) (by first | omega | (simp; done) | (simp; omega)) (by rw [List.getElem?_map, hx5]; rfl) (by kernel_rfl) ?_
   refine go 1 ?_
   refine CH.idxR hτ (rows := (Lv3.map dS)) (n := v4) (b := 112) (by kernel_rfl) (by kernel_rfl) (by first | omega | (simp; done) | (simp; omega)) (by simp only [List.length_map, List.length_set]; first | omega | (simp; done) | (simp; omega)) (by kernel_rfl) ?_
   obtain ⟨x6, hx6⟩ : ∃ x, Lv3[Int.toNat v4]? = some x := ⟨_, List.getElem?_eq_getElem (by first | omega | (simp; done) | (simp; omega))⟩
   refine CH.row hτ (dS x6) (by kernel_rfl) (by kernel_rfl) (by rw [List.getElem?_map, hx6]; rfl) (by kernel_rfl) ?_
   refine CH.endk ⟨[(0, lV (l.map dS)), (3, rV 112), (4, iV v4)], [(112, some (.row 1 9 ((Lv3.map dS).set (Int.toNat v4) (dS x5)) false true))], 352⟩ (by kernel_rfl) (by kernel_rfl) (s2 := ⟨[(0, lV (l.map dS)), (3, rV 112), (4, iV v4)], [(112, some (.row 1 9 ((Lv3.set (Int.toNat v4) x5).map dS) false true))], 352⟩) (congrArg (fun z : List (List D) => (⟨[(0, lV (l.map dS)), (3, rV 112), (4, iV v4)], [(112, some (.row 1 9 z false true))], 352⟩ : St)) (show ((Lv3.map dS).set (Int.toNat v4) (dS x5)) = ((Lv3.set (Int.toNat v4) x5).map dS) from List.map_set.symm)) ?_
   refine X.rk ⟨[(0, lV (l.map dS)), (3, rV 112), (4, iV (wrap64 (v4 + 1)))], [(112, some (.row 1 9 ((Lv3.set (Int.toNat v4) x5).map dS) false true))], 400⟩ hτ hmix (by kernel_rfl) (by kernel_rfl) (s2 := ⟨[(0, lV (l.map dS)), (3, rV 112), (4, iV (v4 + 1))], [(112, some (.row 1 9 ((Lv3.set (Int.toNat v4) x5).map dS) false true))], 400⟩) (congrArg (fun z : Int => (⟨[(0, lV (l.map dS)), (3, rV 112), (4, iV z)], [(112, some (.row 1 9 ((Lv3.set (Int.toNat v4) x5).map dS) false true))], 400⟩ : St)) (show wrap64 (v4 + 1) = (v4 + 1) by rw [w64 (n := (v4 + 1)) (by omega) (by omega)])) ?_
   refine ⟨⟨((Lv3.set (Int.toNat v4) x5), (v4 + 1)), ⟨by first | omega | (dsimp only; omega), by first | omega | (dsimp only; omega), by simp; omega, ts_next (f := id) hA (by first | omega | (dsimp only; omega)) (by first | omega | (dsimp only; omega)) ‹_›⟩⟩, by first | exact rfl | omega | (dsimp only; omega) | (simp only [List.length_append, List.length_cons, List.length_nil, List.length_set]; omega) | (simp; done) | (simp; omega), Wk.mk' [(112, 112)] (by kernel_rfl) (by kernel_rfl) (by kernel_rfl)⟩
  ·replace hb4 := of_decide_eq_false (hb4)
   refine X.exit ?_
   refine sk ⟨[(2, rV 112)], [(112, some (.row 1 9 (Lv3.map dS) false true))], 256⟩ ?_
   refine X.ret ?_
   exact ⟨trivial, _, _, ⟨Lv3, map_idG (fun j x h hx => hA j x (by omega) hx) hL, rfl, rfl⟩, .inl (Ret.mk' [(64, 112)] (by kernel_rfl) (by kernel_rfl) (by kernel_rfl))⟩
 obtain ⟨_, _, ⟨r0, h1_, rfl, rfl⟩, hf⟩ := key
 exact ⟨r0, h1_, hf⟩

theorem l_toIntS (l : List Int) (hl : l.length ≤ 2000000) : ∃ r0 : List Int, (r0 = l) ∧ Fn Try.prog 132 [lV (l.map dI)] (lookH []) (rV 64) (lookH [(64, some (.row 1 3 (r0.map dI) false true))]) := by
 have key : ∃ x' h', ((fun x' h' => ∃ r0 : List Int, (r0 = l) ∧ x' = rV 64 ∧ h' = [(64, some (.row 1 3 (r0.map dI) false true))])) x' h' ∧ Fn Try.prog 132 [lV (l.map dI)] (lookH []) x' (lookH h') := by
  refine Fn.bodyX (N := 22) hτ Try.func132 rfl rfl rfl rfl ?_
  refine sk ⟨[(0, lV (l.map dI))], [], 80⟩ ?_
  refine X.seq ?_
  have el1 : (l.map dI).length = l.length := List.length_map ..
  refine rs 2 ?_
  refine CH.mks hτ (n := (l.map dI).length) (bys := 8) (by kernel_rfl) (by kernel_rfl) (by first | omega | (simp only [List.length_map]; omega) | (simp; omega)) (by first | omega | (simp only [List.length_map]; omega) | (simp; omega)) (by kernel_rfl) ?_
  refine go 1 ?_
  refine CH.endk ⟨[(0, lV (l.map dI)), (3, rV 112)], [(112, some (.row 1 3 (List.replicate ((l.map dI).length) (dI 0)) false true))], 144⟩ (by kernel_rfl) (by kernel_rfl) (s2 := ⟨[(0, lV (l.map dI)), (3, rV 112)], [(112, some (.row 1 3 ((List.replicate ((l.map dI).length) 0).map dI) false true))], 144⟩) (congrArg (fun z : List (List D) => (⟨[(0, lV (l.map dI)), (3, rV 112)], [(112, some (.row 1 3 z false true))], 144⟩ : St)) (show List.replicate ((l.map dI).length) (dI 0) = ((List.replicate ((l.map dI).length) 0).map dI) from List.map_replicate.symm)) ?_
  refine X.seq ?_
  refine sk ⟨[(0, lV (l.map dI)), (3, rV 112), (4, iV 0)], [(112, some (.row 1 3 ((List.replicate ((l.map dI).length) 0).map dI) false true))], 160⟩ ?_
  refine X.block ?_
  -- 3: Lv3 : List Int, v4 : Int
  refine X.loop (σ := { g : (List Int) × Int // (fun (Lv3 : List Int) (v4 : Int) => 0 ≤ v4 ∧ v4 ≤ l.length ∧ Lv3.length = l.length ∧ ∀ (j : Nat) (x : Int), (j : Int) < v4 → l[j]? = some x → Lv3[j]? = some (id x)) g.1 g.2 }) (fun g => (fun (Lv3 : List Int) (v4 : Int) => ⟨[(0, lV (l.map dI)), (3, rV 112), (4, iV v4)], [(112, some (.row 1 3 (Lv3.map dI) false true))], 160⟩) g.1.1 g.1.2) (fun g => (fun (Lv3 : List Int) (v4 : Int) => (l.length - v4).toNat) g.1.1 g.1.2) ⟨((List.replicate ((l.map dI).length) 0), 0), ⟨by first | omega | (dsimp only; omega), by first | omega | (dsimp only; omega), by simp, fun j x h => by first | omega | (dsimp only; omega)⟩⟩ (Wk.less (by kernel_rfl)) (fun g => ?_)
  obtain ⟨⟨Lv3, v4⟩, hg3⟩ := g
  have hg3 : 0 ≤ v4 ∧ v4 ≤ l.length ∧ Lv3.length = l.length ∧ ∀ (j : Nat) (x : Int), (j : Int) < v4 → l[j]? = some x → Lv3[j]? = some (id x) := hg3
  obtain ⟨_, _, hL, hA⟩ := hg3
  refine X.seq ?_
  refine sk ⟨[(0, lV (l.map dI)), (3, rV 112), (4, iV v4), (11, bV (decide ((v4 : Int) < ((l.map dI).length : Int))))], [(112, some (.row 1 3 (Lv3.map dI) false true))], 224⟩ ?_
  refine if_ (b := decide ((v4 : Int) < ((l.map dI).length : Int))) (fun hb4 => ?_) (fun hb4 => ?_)
  ·replace hb4 := of_decide_eq_true (hb4)
   refine X.skip ?_
   refine X.seq ?_
   refine X.block ?_
   refine rs 4 ?_
   obtain ⟨x5, hx5⟩ : ∃ x, l[Int.toNat v4]? = some x := ⟨_, List.getElem?_eq_getElem (by first | omega | (simp; done) | (simp; omega))⟩
   refine CH.idx hτ (dI x5) (rows := (l.map dI)) (n := v4) (sz := 1) (by kernel_rfl) (by kernel_rfl) (by first | omega | (simp; done) | (simp; omega)) (by rw [List.getElem?_map, hx5]; rfl) (by kernel_rfl) ?_
   refine go 1 ?_
   refine CH.idxR hτ (rows := (Lv3.map dI)) (n := v4) (b := 112) (by kernel_rfl) (by kernel_rfl) (by first | omega | (simp; done) | (simp; omega)) (by simp only [List.length_map, List.length_set]; first | omega | (simp; done) | (simp; omega)) (by kernel_rfl) ?_
   obtain ⟨x6, hx6⟩ : ∃ x, Lv3[Int.toNat v4]? = some x := ⟨_, List.getElem?_eq_getElem (by first | omega | (simp; done) | (simp; omega))⟩
   refine CH.row hτ (dI x6) (by kernel_rfl) (by kernel_rfl) (by rw [List.getElem?_map, hx6]; rfl) (by kernel_rfl) ?_
   refine CH.endk ⟨[(0, lV (l.map dI)), (3, rV 112), (4, iV v4)], [(112, some (.row 1 3 ((Lv3.map dI).set (Int.toNat v4) (dI x5)) false true))], 352⟩ (by kernel_rfl) (by kernel_rfl) (s2 := ⟨[(0, lV (l.map dI)), (3, rV 112), (4, iV v4)], [(112, some (.row 1 3 ((Lv3.set (Int.toNat v4) x5).map dI) false true))], 352⟩) (congrArg (fun z : List (List D) => (⟨[(0, lV (l.map dI)), (3, rV 112), (4, iV v4)], [(112, some (.row 1 3 z false true))], 352⟩ : St)) (show ((Lv3.map dI).set (Int.toNat v4) (dI x5)) = ((Lv3.set (Int.toNat v4) x5).map dI) from List.map_set.symm)) ?_
   refine X.rk ⟨[(0, lV (l.map dI)), (3, rV 112), (4, iV (wrap64 (v4 + 1)))], [(112, some (.row 1 3 ((Lv3.set (Int.toNat v4) x5).map dI) false true))], 400⟩ hτ hmix (by kernel_rfl) (by kernel_rfl) (s2 := ⟨[(0, lV (l.map dI)), (3, rV 112), (4, iV (v4 + 1))], [(112, some (.row 1 3 ((Lv3.set (Int.toNat v4) x5).map dI) false true))], 400⟩) (congrArg (fun z : Int => (⟨[(0, lV (l.map dI)), (3, rV 112), (4, iV z)], [(112, some (.row 1 3 ((Lv3.set (Int.toNat v4) x5).map dI) false true))], 400⟩ : St)) (show wrap64 (v4 + 1) = (v4 + 1) by rw [w64 (n := (v4 + 1)) (by omega) (by omega)])) ?_
   refine ⟨⟨((Lv3.set (Int.toNat v4) x5), (v4 + 1)), ⟨by first | omega | (dsimp only; omega), by first | omega | (dsimp only; omega), by simp; omega, ts_next (f := id) hA (by first | omega | (dsimp only; omega)) (by first | omega | (dsimp only; omega)) ‹_›⟩⟩, by first | exact rfl | omega | (dsimp only; omega) | (simp only [List.length_append, List.length_cons, List.length_nil, List.length_set]; omega) | (simp; done) | (simp; omega), Wk.mk' [(112, 112)] (by kernel_rfl) (by kernel_rfl) (by kernel_rfl)⟩
  ·replace hb4 := of_decide_eq_false (hb4)
   refine X.exit ?_
   refine sk ⟨[(2, rV 112)], [(112, some (.row 1 3 (Lv3.map dI) false true))], 256⟩ ?_
   refine X.ret ?_
   exact ⟨trivial, _, _, ⟨Lv3, map_idG (fun j x h hx => hA j x (by omega) hx) hL, rfl, rfl⟩, .inl (Ret.mk' [(64, 112)] (by kernel_rfl) (by kernel_rfl) (by kernel_rfl))⟩
 obtain ⟨_, _, ⟨r0, h1_, rfl, rfl⟩, hf⟩ := key
 exact ⟨r0, h1_, hf⟩

theorem l_toVal (x : S158) : ∃ r0 : S165, (r0 = toVal x) ∧ Fn Try.prog 133 [.e (.agg [.d (.v (.string x.f0)), .d (.v (.int .i64 x.f1))])] (lookH []) (.e (.agg [.d (.v (.string r0.f0)), .d (.v (.int .i64 r0.f1))])) (lookH []) := by
 have key : ∃ x' h', ((fun x' h' => ∃ r0 : S165, (r0 = toVal x) ∧ x' = .e (.agg [.d (.v (.string r0.f0)), .d (.v (.int .i64 r0.f1))]) ∧ h' = [])) x' h' ∧ Fn Try.prog 133 [.e (.agg [.d (.v (.string x.f0)), .d (.v (.int .i64 x.f1))])] (lookH []) x' (lookH h') := by
  refine Fn.bodyX (N := 11) hτ Try.func133 rfl rfl rfl rfl ?_
  refine sk ⟨[(1, .pt 64 0 0), (2, .pt 80 0 0)], [(64, some (.box [.d (.v (.string x.f0)), .d (.v (.int .i64 x.f1))])), (80, some (.box [.d (.v (.string (⟨#[]⟩ : ByteArray))), .d (.v (.int .i64 0))]))], 96⟩ ?_
  refine sk ⟨[(1, .pt 64 0 0), (2, .pt 80 0 0), (3, .pt 96 0 0)], [(64, some (.box [.d (.v (.string x.f0)), .d (.v (.int .i64 x.f1))])), (80, some (.box [.d (.v (.string (⟨#[]⟩ : ByteArray))), .d (.v (.int .i64 0))])), (96, some (.box [.d (.v (.string (⟨#[]⟩ : ByteArray))), .d (.v (.int .i64 0))]))], 112⟩ ?_
  refine sk ⟨[(1, .pt 64 0 0), (2, .pt 80 0 0), (3, .pt 96 0 0)], [(64, some (.box [.d (.v (.string x.f0)), .d (.v (.int .i64 x.f1))])), (80, some (.box [.d (.v (.string (⟨#[]⟩ : ByteArray))), .d (.v (.int .i64 0))])), (96, some (.box [.d (.v (.string x.f0)), .d (.v (.int .i64 0))]))], 176⟩ ?_
  refine sk ⟨[(2, .pt 80 0 0), (3, .pt 96 0 0)], [(80, some (.box [.d (.v (.string (⟨#[]⟩ : ByteArray))), .d (.v (.int .i64 0))])), (96, some (.box [.d (.v (.string x.f0)), .d (.v (.int .i64 x.f1))]))], 240⟩ ?_
  refine sk ⟨[(2, .pt 80 0 0)], [(80, some (.box [.d (.v (.string x.f0)), .d (.v (.int .i64 x.f1))]))], 272⟩ ?_
  refine X.ret ?_
  exact ⟨trivial, _, _, ⟨(⟨x.f0, x.f1⟩ : S165), rfl, rfl, rfl⟩, mkr⟩
 obtain ⟨_, _, ⟨r0, h1_, rfl, rfl⟩, hf⟩ := key
 exact ⟨r0, h1_, hf⟩

theorem l_toValS (l : List S158) (hl : l.length ≤ 2000000) : ∃ r0 : List S165, (r0 = l.map toVal) ∧ Fn Try.prog 69 [lV (l.map d158)] (lookH []) (rV 64) (lookH [(64, some (.row 2 165 (r0.map d165) false true))]) := by
 have key : ∃ x' h', ((fun x' h' => ∃ r0 : List S165, (r0 = l.map toVal) ∧ x' = rV 64 ∧ h' = [(64, some (.row 2 165 (r0.map d165) false true))])) x' h' ∧ Fn Try.prog 69 [lV (l.map d158)] (lookH []) x' (lookH h') := by
  refine Fn.bodyX (N := 23) hτ Try.func69 rfl rfl rfl rfl ?_
  refine sk ⟨[(0, lV (l.map d158))], [], 80⟩ ?_
  refine X.seq ?_
  have el1 : (l.map d158).length = l.length := List.length_map ..
  refine rs 2 ?_
  refine CH.mks hτ (n := (l.map d158).length) (bys := 24) (by kernel_rfl) (by kernel_rfl) (by first | omega | (simp only [List.length_map]; omega) | (simp; omega)) (by first | omega | (simp only [List.length_map]; omega) | (simp; omega)) (by kernel_rfl) ?_
  refine go 1 ?_
  refine CH.endk ⟨[(0, lV (l.map d158)), (3, rV 112)], [(112, some (.row 2 165 (List.replicate ((l.map d158).length) (d165 z165)) false true))], 144⟩ (by kernel_rfl) (by kernel_rfl) (s2 := ⟨[(0, lV (l.map d158)), (3, rV 112)], [(112, some (.row 2 165 ((List.replicate ((l.map d158).length) z165).map d165) false true))], 144⟩) (congrArg (fun z : List (List D) => (⟨[(0, lV (l.map d158)), (3, rV 112)], [(112, some (.row 2 165 z false true))], 144⟩ : St)) (show List.replicate ((l.map d158).length) (d165 z165) = ((List.replicate ((l.map d158).length) z165).map d165) from List.map_replicate.symm)) ?_
  refine X.seq ?_
  refine sk ⟨[(0, lV (l.map d158)), (3, rV 112), (4, iV 0)], [(112, some (.row 2 165 ((List.replicate ((l.map d158).length) z165).map d165) false true))], 160⟩ ?_
  refine X.block ?_
  -- 3: Lv3 : List S165, v4 : Int
  refine X.loop (σ := { g : (List S165) × Int // (fun (Lv3 : List S165) (v4 : Int) => 0 ≤ v4 ∧ v4 ≤ l.length ∧ Lv3.length = l.length ∧ ∀ (j : Nat) (x : S158), (j : Int) < v4 → l[j]? = some x → Lv3[j]? = some (toVal x)) g.1 g.2 }) (fun g => (fun (Lv3 : List S165) (v4 : Int) => ⟨[(0, lV (l.map d158)), (3, rV 112), (4, iV v4)], [(112, some (.row 2 165 (Lv3.map d165) false true))], 160⟩) g.1.1 g.1.2) (fun g => (fun (Lv3 : List S165) (v4 : Int) => (l.length - v4).toNat) g.1.1 g.1.2) ⟨((List.replicate ((l.map d158).length) z165), 0), ⟨by first | omega | (dsimp only; omega), by first | omega | (dsimp only; omega), by simp, fun j x h => by first | omega | (dsimp only; omega)⟩⟩ (Wk.less (by kernel_rfl)) (fun g => ?_)
  obtain ⟨⟨Lv3, v4⟩, hg3⟩ := g
  have hg3 : 0 ≤ v4 ∧ v4 ≤ l.length ∧ Lv3.length = l.length ∧ ∀ (j : Nat) (x : S158), (j : Int) < v4 → l[j]? = some x → Lv3[j]? = some (toVal x) := hg3
  obtain ⟨_, _, hL, hA⟩ := hg3
  refine X.seq ?_
  refine sk ⟨[(0, lV (l.map d158)), (3, rV 112), (4, iV v4), (11, bV (decide ((v4 : Int) < ((l.map d158).length : Int))))], [(112, some (.row 2 165 (Lv3.map d165) false true))], 224⟩ ?_
  refine if_ (b := decide ((v4 : Int) < ((l.map d158).length : Int))) (fun hb4 => ?_) (fun hb4 => ?_)
  ·replace hb4 := of_decide_eq_true (hb4)
   refine X.skip ?_
   refine X.seq ?_
   refine X.block ?_
   refine rs 4 ?_
   obtain ⟨x5, hx5⟩ : ∃ x, l[Int.toNat v4]? = some x := ⟨_, List.getElem?_eq_getElem (by first | omega | (simp; done) | (simp; omega))⟩
   refine CH.idx hτ (d158 x5) (rows := (l.map d158)) (n := v4) (sz := 2) (by kernel_rfl) (by kernel_rfl) (by first | omega | (simp; done) | (simp; omega)) (by rw [List.getElem?_map, hx5]; rfl) (by kernel_rfl) ?_
   refine go 1 ?_
   obtain ⟨r6, hr8, hf7⟩ := l_toVal x5
   replace hr8 := hr8.symm; subst hr8
   refine ca hf7 Try.func133 ?_
   refine CH.idxR hτ (rows := (Lv3.map d165)) (n := v4) (b := 112) (by kernel_rfl) (by kernel_rfl) (by first | omega | (simp; done) | (simp; omega)) (by simp only [List.length_map, List.length_set]; first | omega | (simp; done) | (simp; omega)) (by kernel_rfl) ?_
   obtain ⟨x10, hx10⟩ : ∃ x, Lv3[Int.toNat v4]? = some x := ⟨_, List.getElem?_eq_getElem (by first | omega | (simp; done) | (simp; omega))⟩
   refine CH.row hτ (d165 x10) (by kernel_rfl) (by kernel_rfl) (by rw [List.getElem?_map, hx10]; rfl) (by kernel_rfl) ?_
   refine CH.endk ⟨[(0, lV (l.map d158)), (3, rV 112), (4, iV v4)], [(112, some (.row 2 165 ((Lv3.map d165).set (Int.toNat v4) (d165 ((toVal x5)))) false true))], 368⟩ (by kernel_rfl) (by kernel_rfl) (s2 := ⟨[(0, lV (l.map d158)), (3, rV 112), (4, iV v4)], [(112, some (.row 2 165 ((Lv3.set (Int.toNat v4) ((toVal x5))).map d165) false true))], 368⟩) (congrArg (fun z : List (List D) => (⟨[(0, lV (l.map d158)), (3, rV 112), (4, iV v4)], [(112, some (.row 2 165 z false true))], 368⟩ : St)) (show ((Lv3.map d165).set (Int.toNat v4) (d165 ((toVal x5)))) = ((Lv3.set (Int.toNat v4) ((toVal x5))).map d165) from List.map_set.symm)) ?_
   refine X.rk ⟨[(0, lV (l.map d158)), (3, rV 112), (4, iV (wrap64 (v4 + 1)))], [(112, some (.row 2 165 ((Lv3.set (Int.toNat v4) ((toVal x5))).map d165) false true))], 416⟩ hτ hmix (by kernel_rfl) (by kernel_rfl) (s2 := ⟨[(0, lV (l.map d158)), (3, rV 112), (4, iV (v4 + 1))], [(112, some (.row 2 165 ((Lv3.set (Int.toNat v4) ((toVal x5))).map d165) false true))], 416⟩) (congrArg (fun z : Int => (⟨[(0, lV (l.map d158)), (3, rV 112), (4, iV z)], [(112, some (.row 2 165 ((Lv3.set (Int.toNat v4) ((toVal x5))).map d165) false true))], 416⟩ : St)) (show wrap64 (v4 + 1) = (v4 + 1) by rw [w64 (n := (v4 + 1)) (by omega) (by omega)])) ?_
   refine ⟨⟨((Lv3.set (Int.toNat v4) ((toVal x5))), (v4 + 1)), ⟨by first | omega | (dsimp only; omega), by first | omega | (dsimp only; omega), by simp; omega, ts_next (f := toVal) hA (by first | omega | (dsimp only; omega)) (by first | omega | (dsimp only; omega)) ‹_›⟩⟩, by first | exact rfl | omega | (dsimp only; omega) | (simp only [List.length_append, List.length_cons, List.length_nil, List.length_set]; omega) | (simp; done) | (simp; omega), Wk.mk' [(112, 112)] (by kernel_rfl) (by kernel_rfl) (by kernel_rfl)⟩
  ·replace hb4 := of_decide_eq_false (hb4)
   refine X.exit ?_
   refine sk ⟨[(2, rV 112)], [(112, some (.row 2 165 (Lv3.map d165) false true))], 256⟩ ?_
   refine X.ret ?_
   exact ⟨trivial, _, _, ⟨Lv3, ts_end hA hL (by omega), rfl, rfl⟩, .inl (Ret.mk' [(64, 112)] (by kernel_rfl) (by kernel_rfl) (by kernel_rfl))⟩
 obtain ⟨_, _, ⟨r0, h1_, rfl, rfl⟩, hf⟩ := key
 exact ⟨r0, h1_, hf⟩

theorem l_toQc (x : S55) (hl : x.f2.length ≤ 2000000) : ∃ r0 : S68, (r0 = toQc x) ∧ Fn Try.prog 67 [.e (.agg (cD (d55 x)))] (lookH []) (.e (.agg [.d (.v (.int .i64 r0.f0)), .d (.v (.int .i64 r0.f1)), .ref 64])) (lookH [(64, some (.row 1 9 (r0.f2.map dS) false true))]) := by
 have key : ∃ x' h', ((fun x' h' => ∃ r0 : S68, (r0 = toQc x) ∧ x' = .e (.agg [.d (.v (.int .i64 r0.f0)), .d (.v (.int .i64 r0.f1)), .ref 64]) ∧ h' = [(64, some (.row 1 9 (r0.f2.map dS) false true))])) x' h' ∧ Fn Try.prog 67 [.e (.agg (cD (d55 x)))] (lookH []) x' (lookH h') := by
  refine Fn.bodyX (N := 15) hτ Try.func67 rfl rfl rfl rfl ?_
  refine sk ⟨[(1, .pt 64 0 0), (2, .pt 80 0 0)], [(64, some (.box (cD (d55 x)))), (80, some (.box [.d (.v (.int .i64 0)), .d (.v (.int .i64 0)), .nil]))], 96⟩ ?_
  refine sk ⟨[(1, .pt 64 0 0), (2, .pt 80 0 0), (3, .pt 96 0 0)], [(64, some (.box (cD (d55 x)))), (80, some (.box [.d (.v (.int .i64 0)), .d (.v (.int .i64 0)), .nil])), (96, some (.box [.d (.v (.int .i64 0)), .d (.v (.int .i64 0)), .nil]))], 112⟩ ?_
  refine sk ⟨[(1, .pt 64 0 0), (2, .pt 80 0 0), (3, .pt 96 0 0)], [(64, some (.box (cD (d55 x)))), (80, some (.box [.d (.v (.int .i64 0)), .d (.v (.int .i64 0)), .nil])), (96, some (.box [.d (.v (.int .i64 x.f0)), .d (.v (.int .i64 0)), .nil]))], 176⟩ ?_
  refine sk ⟨[(1, .pt 64 0 0), (2, .pt 80 0 0), (3, .pt 96 0 0)], [(64, some (.box (cD (d55 x)))), (80, some (.box [.d (.v (.int .i64 0)), .d (.v (.int .i64 0)), .nil])), (96, some (.box [.d (.v (.int .i64 x.f0)), .d (.v (.int .i64 x.f1)), .nil]))], 240⟩ ?_
  refine X.seq (rs 2 ?_)
  obtain ⟨r1, hr3, hf2⟩ := l_toStringS x.f2 (by first | assumption | omega)
  replace hr3 := hr3.symm; subst hr3
  refine ca hf2 Try.func131 ?_
  refine go 2 ?_
  refine ek ⟨[(2, .pt 80 0 0), (3, .pt 96 0 0)], [(80, some (.box [.d (.v (.int .i64 0)), .d (.v (.int .i64 0)), .nil])), (96, some (.box [.d (.v (.int .i64 x.f0)), .d (.v (.int .i64 x.f1)), .ref 272])), (272, some (.row 1 9 (x.f2.map dS) false true))], 320⟩ ?_
  refine sk ⟨[(2, .pt 80 0 0)], [(80, some (.box [.d (.v (.int .i64 x.f0)), .d (.v (.int .i64 x.f1)), .ref 272])), (272, some (.row 1 9 (x.f2.map dS) false true))], 352⟩ ?_
  refine X.ret ?_
  exact ⟨trivial, _, _, ⟨(⟨x.f0, x.f1, x.f2⟩ : S68), rfl, rfl, rfl⟩, .inl (Ret.mk' [(64, 272)] (by kernel_rfl) (by kernel_rfl) (by kernel_rfl))⟩
 obtain ⟨_, _, ⟨r0, h1_, rfl, rfl⟩, hf⟩ := key
 exact ⟨r0, h1_, hf⟩

theorem l_toTc (x : S58) (hl : x.f1.length ≤ 2000000) (hl2 : x.f2.length ≤ 2000000) : ∃ r0 : S69, (r0 = toTc x) ∧ Fn Try.prog 68 [.e (.agg (cD (d58 x)))] (lookH []) (.e (.agg [.d (.v (.int .i64 r0.f0)), .ref 64, .ref 65])) (lookH [(64, some (.row 1 9 (r0.f1.map dS) false true)), (65, some (.row 1 3 (r0.f2.map dI) false true))]) := by
 have key : ∃ x' h', ((fun x' h' => ∃ r0 : S69, (r0 = toTc x) ∧ x' = .e (.agg [.d (.v (.int .i64 r0.f0)), .ref 64, .ref 65]) ∧ h' = [(64, some (.row 1 9 (r0.f1.map dS) false true)), (65, some (.row 1 3 (r0.f2.map dI) false true))])) x' h' ∧ Fn Try.prog 68 [.e (.agg (cD (d58 x)))] (lookH []) x' (lookH h') := by
  refine Fn.bodyX (N := 16) hτ Try.func68 rfl rfl rfl rfl ?_
  refine sk ⟨[(1, .pt 64 0 0), (2, .pt 80 0 0)], [(64, some (.box (cD (d58 x)))), (80, some (.box [.d (.v (.int .i64 0)), .nil, .nil]))], 96⟩ ?_
  refine sk ⟨[(1, .pt 64 0 0), (2, .pt 80 0 0), (3, .pt 96 0 0)], [(64, some (.box (cD (d58 x)))), (80, some (.box [.d (.v (.int .i64 0)), .nil, .nil])), (96, some (.box [.d (.v (.int .i64 0)), .nil, .nil]))], 112⟩ ?_
  refine sk ⟨[(1, .pt 64 0 0), (2, .pt 80 0 0), (3, .pt 96 0 0)], [(64, some (.box (cD (d58 x)))), (80, some (.box [.d (.v (.int .i64 0)), .nil, .nil])), (96, some (.box [.d (.v (.int .i64 x.f0)), .nil, .nil]))], 176⟩ ?_
  refine X.seq (rs 2 ?_)
  obtain ⟨r1, hr3, hf2⟩ := l_toStringS x.f1 (by first | assumption | omega)
  replace hr3 := hr3.symm; subst hr3
  refine ca hf2 Try.func131 ?_
  refine go 2 ?_
  refine ek ⟨[(1, .pt 64 0 0), (2, .pt 80 0 0), (3, .pt 96 0 0)], [(64, some (.box (cD (d58 x)))), (80, some (.box [.d (.v (.int .i64 0)), .nil, .nil])), (96, some (.box [.d (.v (.int .i64 x.f0)), .ref 208, .nil])), (208, some (.row 1 9 (x.f1.map dS) false true))], 256⟩ ?_
  refine X.seq (rs 2 ?_)
  obtain ⟨r5, hr7, hf6⟩ := l_toIntS x.f2 (by first | assumption | omega)
  replace hr7 := hr7.symm; subst hr7
  refine ca hf6 Try.func132 ?_
  refine go 2 ?_
  refine ek ⟨[(2, .pt 80 0 0), (3, .pt 96 0 0)], [(80, some (.box [.d (.v (.int .i64 0)), .nil, .nil])), (96, some (.box [.d (.v (.int .i64 x.f0)), .ref 208, .ref 288])), (208, some (.row 1 9 (x.f1.map dS) false true)), (288, some (.row 1 3 (x.f2.map dI) false true))], 336⟩ ?_
  refine sk ⟨[(2, .pt 80 0 0)], [(80, some (.box [.d (.v (.int .i64 x.f0)), .ref 208, .ref 288])), (208, some (.row 1 9 (x.f1.map dS) false true)), (288, some (.row 1 3 (x.f2.map dI) false true))], 368⟩ ?_
  refine X.ret ?_
  exact ⟨trivial, _, _, ⟨(⟨x.f0, x.f1, x.f2⟩ : S69), rfl, rfl, rfl⟩, .inl (Ret.mk' [(64, 208), (65, 288)] (by kernel_rfl) (by kernel_rfl) (by kernel_rfl))⟩
 obtain ⟨_, _, ⟨r0, h1_, rfl, rfl⟩, hf⟩ := key
 exact ⟨r0, h1_, hf⟩

theorem l_toBlock (x : S61) (hb : Sm72 (toBlock x)) : ∃ r0 : S72, (r0 = toBlock x) ∧ Fn Try.prog 28 [.e (.agg (cD (d61 x)))] (lookH []) (.e (.agg [.d (.v (.int .i64 r0.f0)), .d (.v (.int .i64 r0.f1)), .d (.v (.int .i64 r0.f2)), .d (.v (.string r0.f3)), .d (.v (.int .i64 r0.f4.f0)), .d (.v (.int .i64 r0.f4.f1)), .ref 64, .d (.v (.int .i64 r0.f5.f0)), .ref 65, .ref 66, .ref 67, .d (.v (.bool r0.f7)), .ref 68, .d (.v (.string r0.f9))])) (lookH [(64, some (.row 1 9 (r0.f4.f2.map dS) false true)), (65, some (.row 1 9 (r0.f5.f1.map dS) false true)), (66, some (.row 1 3 (r0.f5.f2.map dI) false true)), (67, some (.row 5 35 (r0.f6.map d35) false true)), (68, some (.row 2 165 (r0.f8.map d165) false true))]) := by
 have key : ∃ x' h', ((fun x' h' => ∃ r0 : S72, (r0 = toBlock x) ∧ x' = .e (.agg [.d (.v (.int .i64 r0.f0)), .d (.v (.int .i64 r0.f1)), .d (.v (.int .i64 r0.f2)), .d (.v (.string r0.f3)), .d (.v (.int .i64 r0.f4.f0)), .d (.v (.int .i64 r0.f4.f1)), .ref 64, .d (.v (.int .i64 r0.f5.f0)), .ref 65, .ref 66, .ref 67, .d (.v (.bool r0.f7)), .ref 68, .d (.v (.string r0.f9))]) ∧ h' = [(64, some (.row 1 9 (r0.f4.f2.map dS) false true)), (65, some (.row 1 9 (r0.f5.f1.map dS) false true)), (66, some (.row 1 3 (r0.f5.f2.map dI) false true)), (67, some (.row 5 35 (r0.f6.map d35) false true)), (68, some (.row 2 165 (r0.f8.map d165) false true))])) x' h' ∧ Fn Try.prog 28 [.e (.agg (cD (d61 x)))] (lookH []) x' (lookH h') := by
  refine Fn.bodyX (N := 39) hτ Try.func28 rfl rfl rfl rfl ?_
  refine sk ⟨[(1, .pt 64 0 0), (2, .pt 80 0 0)], [(64, some (.box (cD (d61 x)))), (80, some (.box [.d (.v (.int .i64 0)), .d (.v (.int .i64 0)), .d (.v (.int .i64 0)), .d (.v (.string (⟨#[]⟩ : ByteArray))), .d (.v (.int .i64 0)), .d (.v (.int .i64 0)), .nil, .d (.v (.int .i64 0)), .nil, .nil, .nil, .d (.v (.bool false)), .nil, .d (.v (.string (⟨#[]⟩ : ByteArray)))]))], 96⟩ ?_
  refine X.seq ?_
  have z4 : x.f4.f2.length ≤ 2000000 := hb.2.1.1
  have z61 : x.f5.f1.length ≤ 2000000 := hb.2.2.1.1.1
  have z52 : x.f5.f2.length ≤ 2000000 := hb.2.2.1.2
  have z6 : x.f6.length ≤ 2000000 := by have h : (x.f6.map toTx).length ≤ 2000000 := hb.2.2.2.1.1; rwa [List.length_map] at h
  have z8 : x.f8.length ≤ 2000000 := by have h : (x.f8.map toVal).length ≤ 2000000 := hb.2.2.2.2.1.1; rwa [List.length_map] at h
  refine rk ⟨[(1, .pt 64 0 0), (2, .pt 80 0 0), (3, .pt 96 0 0)], [(64, some (.box (cD (d61 x)))), (80, some (.box [.d (.v (.int .i64 0)), .d (.v (.int .i64 0)), .d (.v (.int .i64 0)), .d (.v (.string (⟨#[]⟩ : ByteArray))), .d (.v (.int .i64 0)), .d (.v (.int .i64 0)), .nil, .d (.v (.int .i64 0)), .nil, .nil, .nil, .d (.v (.bool false)), .nil, .d (.v (.string (⟨#[]⟩ : ByteArray)))])), (96, some (.box [.d (.v (.int .i64 0)), .d (.v (.int .i64 0)), .d (.v (.int .i64 0)), .d (.v (.string (⟨#[]⟩ : ByteArray))), .d (.v (.int .i64 0)), .d (.v (.int .i64 0)), .nil, .d (.v (.int .i64 0)), .nil, .nil, .nil, .d (.v (.bool false)), .nil, .d (.v (.string (⟨#[]⟩ : ByteArray)))]))], 112⟩ ?_
  refine sk ⟨[(1, .pt 64 0 0), (2, .pt 80 0 0), (3, .pt 96 0 0)], [(64, some (.box (cD (d61 x)))), (80, some (.box [.d (.v (.int .i64 0)), .d (.v (.int .i64 0)), .d (.v (.int .i64 0)), .d (.v (.string (⟨#[]⟩ : ByteArray))), .d (.v (.int .i64 0)), .d (.v (.int .i64 0)), .nil, .d (.v (.int .i64 0)), .nil, .nil, .nil, .d (.v (.bool false)), .nil, .d (.v (.string (⟨#[]⟩ : ByteArray)))])), (96, some (.box [.d (.v (.int .i64 x.f0)), .d (.v (.int .i64 0)), .d (.v (.int .i64 0)), .d (.v (.string (⟨#[]⟩ : ByteArray))), .d (.v (.int .i64 0)), .d (.v (.int .i64 0)), .nil, .d (.v (.int .i64 0)), .nil, .nil, .nil, .d (.v (.bool false)), .nil, .d (.v (.string (⟨#[]⟩ : ByteArray)))]))], 176⟩ ?_
  refine sk ⟨[(1, .pt 64 0 0), (2, .pt 80 0 0), (3, .pt 96 0 0)], [(64, some (.box (cD (d61 x)))), (80, some (.box [.d (.v (.int .i64 0)), .d (.v (.int .i64 0)), .d (.v (.int .i64 0)), .d (.v (.string (⟨#[]⟩ : ByteArray))), .d (.v (.int .i64 0)), .d (.v (.int .i64 0)), .nil, .d (.v (.int .i64 0)), .nil, .nil, .nil, .d (.v (.bool false)), .nil, .d (.v (.string (⟨#[]⟩ : ByteArray)))])), (96, some (.box [.d (.v (.int .i64 x.f0)), .d (.v (.int .i64 x.f1)), .d (.v (.int .i64 0)), .d (.v (.string (⟨#[]⟩ : ByteArray))), .d (.v (.int .i64 0)), .d (.v (.int .i64 0)), .nil, .d (.v (.int .i64 0)), .nil, .nil, .nil, .d (.v (.bool false)), .nil, .d (.v (.string (⟨#[]⟩ : ByteArray)))]))], 240⟩ ?_
  refine sk ⟨[(1, .pt 64 0 0), (2, .pt 80 0 0), (3, .pt 96 0 0)], [(64, some (.box (cD (d61 x)))), (80, some (.box [.d (.v (.int .i64 0)), .d (.v (.int .i64 0)), .d (.v (.int .i64 0)), .d (.v (.string (⟨#[]⟩ : ByteArray))), .d (.v (.int .i64 0)), .d (.v (.int .i64 0)), .nil, .d (.v (.int .i64 0)), .nil, .nil, .nil, .d (.v (.bool false)), .nil, .d (.v (.string (⟨#[]⟩ : ByteArray)))])), (96, some (.box [.d (.v (.int .i64 x.f0)), .d (.v (.int .i64 x.f1)), .d (.v (.int .i64 x.f2)), .d (.v (.string (⟨#[]⟩ : ByteArray))), .d (.v (.int .i64 0)), .d (.v (.int .i64 0)), .nil, .d (.v (.int .i64 0)), .nil, .nil, .nil, .d (.v (.bool false)), .nil, .d (.v (.string (⟨#[]⟩ : ByteArray)))]))], 304⟩ ?_
  refine sk ⟨[(1, .pt 64 0 0), (2, .pt 80 0 0), (3, .pt 96 0 0)], [(64, some (.box (cD (d61 x)))), (80, some (.box [.d (.v (.int .i64 0)), .d (.v (.int .i64 0)), .d (.v (.int .i64 0)), .d (.v (.string (⟨#[]⟩ : ByteArray))), .d (.v (.int .i64 0)), .d (.v (.int .i64 0)), .nil, .d (.v (.int .i64 0)), .nil, .nil, .nil, .d (.v (.bool false)), .nil, .d (.v (.string (⟨#[]⟩ : ByteArray)))])), (96, some (.box [.d (.v (.int .i64 x.f0)), .d (.v (.int .i64 x.f1)), .d (.v (.int .i64 x.f2)), .d (.v (.string x.f3)), .d (.v (.int .i64 0)), .d (.v (.int .i64 0)), .nil, .d (.v (.int .i64 0)), .nil, .nil, .nil, .d (.v (.bool false)), .nil, .d (.v (.string (⟨#[]⟩ : ByteArray)))]))], 368⟩ ?_
  refine X.seq (rs 2 ?_)
  obtain ⟨r1, hr3, hf2⟩ := l_toQc x.f4 (by first | assumption | omega)
  replace hr3 := hr3.symm; subst hr3
  refine ca hf2 Try.func67 ?_
  refine go 2 ?_
  refine ek ⟨[(1, .pt 64 0 0), (2, .pt 80 0 0), (3, .pt 96 0 0)], [(64, some (.box (cD (d61 x)))), (80, some (.box [.d (.v (.int .i64 0)), .d (.v (.int .i64 0)), .d (.v (.int .i64 0)), .d (.v (.string (⟨#[]⟩ : ByteArray))), .d (.v (.int .i64 0)), .d (.v (.int .i64 0)), .nil, .d (.v (.int .i64 0)), .nil, .nil, .nil, .d (.v (.bool false)), .nil, .d (.v (.string (⟨#[]⟩ : ByteArray)))])), (96, some (.box [.d (.v (.int .i64 x.f0)), .d (.v (.int .i64 x.f1)), .d (.v (.int .i64 x.f2)), .d (.v (.string x.f3)), .d (.v (.int .i64 (((toQc x.f4)).f0))), .d (.v (.int .i64 (((toQc x.f4)).f1))), .ref 400, .d (.v (.int .i64 0)), .nil, .nil, .nil, .d (.v (.bool false)), .nil, .d (.v (.string (⟨#[]⟩ : ByteArray)))])), (400, some (.row 1 9 ((((toQc x.f4)).f2).map dS) false true))], 448⟩ ?_
  refine X.seq (rs 2 ?_)
  obtain ⟨r5, hr7, hf6⟩ := l_toTc x.f5 (by first | assumption | omega) (by first | assumption | omega)
  replace hr7 := hr7.symm; subst hr7
  refine ca hf6 Try.func68 ?_
  refine go 2 ?_
  refine ek ⟨[(1, .pt 64 0 0), (2, .pt 80 0 0), (3, .pt 96 0 0)], [(64, some (.box (cD (d61 x)))), (80, some (.box [.d (.v (.int .i64 0)), .d (.v (.int .i64 0)), .d (.v (.int .i64 0)), .d (.v (.string (⟨#[]⟩ : ByteArray))), .d (.v (.int .i64 0)), .d (.v (.int .i64 0)), .nil, .d (.v (.int .i64 0)), .nil, .nil, .nil, .d (.v (.bool false)), .nil, .d (.v (.string (⟨#[]⟩ : ByteArray)))])), (96, some (.box [.d (.v (.int .i64 x.f0)), .d (.v (.int .i64 x.f1)), .d (.v (.int .i64 x.f2)), .d (.v (.string x.f3)), .d (.v (.int .i64 (((toQc x.f4)).f0))), .d (.v (.int .i64 (((toQc x.f4)).f1))), .ref 400, .d (.v (.int .i64 (((toTc x.f5)).f0))), .ref 480, .ref 481, .nil, .d (.v (.bool false)), .nil, .d (.v (.string (⟨#[]⟩ : ByteArray)))])), (400, some (.row 1 9 ((((toQc x.f4)).f2).map dS) false true)), (480, some (.row 1 9 ((((toTc x.f5)).f1).map dS) false true)), (481, some (.row 1 3 ((((toTc x.f5)).f2).map dI) false true))], 528⟩ ?_
  refine X.seq (rs 2 ?_)
  obtain ⟨r9, hr11, hf10⟩ := l_toTxS x.f6 (by first | assumption | omega)
  replace hr11 := hr11.symm; subst hr11
  have hlm : (x.f6.map toTx).length = x.f6.length := List.length_map ..
  refine ca hf10 Try.func17 ?_
  refine go 2 ?_
  refine ek ⟨[(1, .pt 64 0 0), (2, .pt 80 0 0), (3, .pt 96 0 0)], [(64, some (.box (cD (d61 x)))), (80, some (.box [.d (.v (.int .i64 0)), .d (.v (.int .i64 0)), .d (.v (.int .i64 0)), .d (.v (.string (⟨#[]⟩ : ByteArray))), .d (.v (.int .i64 0)), .d (.v (.int .i64 0)), .nil, .d (.v (.int .i64 0)), .nil, .nil, .nil, .d (.v (.bool false)), .nil, .d (.v (.string (⟨#[]⟩ : ByteArray)))])), (96, some (.box [.d (.v (.int .i64 x.f0)), .d (.v (.int .i64 x.f1)), .d (.v (.int .i64 x.f2)), .d (.v (.string x.f3)), .d (.v (.int .i64 (((toQc x.f4)).f0))), .d (.v (.int .i64 (((toQc x.f4)).f1))), .ref 400, .d (.v (.int .i64 (((toTc x.f5)).f0))), .ref 480, .ref 481, .ref 560, .d (.v (.bool false)), .nil, .d (.v (.string (⟨#[]⟩ : ByteArray)))])), (400, some (.row 1 9 ((((toQc x.f4)).f2).map dS) false true)), (480, some (.row 1 9 ((((toTc x.f5)).f1).map dS) false true)), (481, some (.row 1 3 ((((toTc x.f5)).f2).map dI) false true)), (560, some (.row 5 35 ((x.f6.map toTx).map d35) false true))], 608⟩ ?_
  refine sk ⟨[(1, .pt 64 0 0), (2, .pt 80 0 0), (3, .pt 96 0 0)], [(64, some (.box (cD (d61 x)))), (80, some (.box [.d (.v (.int .i64 0)), .d (.v (.int .i64 0)), .d (.v (.int .i64 0)), .d (.v (.string (⟨#[]⟩ : ByteArray))), .d (.v (.int .i64 0)), .d (.v (.int .i64 0)), .nil, .d (.v (.int .i64 0)), .nil, .nil, .nil, .d (.v (.bool false)), .nil, .d (.v (.string (⟨#[]⟩ : ByteArray)))])), (96, some (.box [.d (.v (.int .i64 x.f0)), .d (.v (.int .i64 x.f1)), .d (.v (.int .i64 x.f2)), .d (.v (.string x.f3)), .d (.v (.int .i64 (((toQc x.f4)).f0))), .d (.v (.int .i64 (((toQc x.f4)).f1))), .ref 400, .d (.v (.int .i64 (((toTc x.f5)).f0))), .ref 480, .ref 481, .ref 560, .d (.v (.bool x.f7)), .nil, .d (.v (.string (⟨#[]⟩ : ByteArray)))])), (400, some (.row 1 9 ((((toQc x.f4)).f2).map dS) false true)), (480, some (.row 1 9 ((((toTc x.f5)).f1).map dS) false true)), (481, some (.row 1 3 ((((toTc x.f5)).f2).map dI) false true)), (560, some (.row 5 35 ((x.f6.map toTx).map d35) false true))], 672⟩ ?_
  refine X.seq (rs 2 ?_)
  obtain ⟨r13, hr15, hf14⟩ := l_toValS x.f8 (by first | assumption | omega)
  replace hr15 := hr15.symm; subst hr15
  have hlm : (x.f8.map toVal).length = x.f8.length := List.length_map ..
  refine ca hf14 Try.func69 ?_
  refine go 2 ?_
  refine ek ⟨[(1, .pt 64 0 0), (2, .pt 80 0 0), (3, .pt 96 0 0)], [(64, some (.box (cD (d61 x)))), (80, some (.box [.d (.v (.int .i64 0)), .d (.v (.int .i64 0)), .d (.v (.int .i64 0)), .d (.v (.string (⟨#[]⟩ : ByteArray))), .d (.v (.int .i64 0)), .d (.v (.int .i64 0)), .nil, .d (.v (.int .i64 0)), .nil, .nil, .nil, .d (.v (.bool false)), .nil, .d (.v (.string (⟨#[]⟩ : ByteArray)))])), (96, some (.box [.d (.v (.int .i64 x.f0)), .d (.v (.int .i64 x.f1)), .d (.v (.int .i64 x.f2)), .d (.v (.string x.f3)), .d (.v (.int .i64 (((toQc x.f4)).f0))), .d (.v (.int .i64 (((toQc x.f4)).f1))), .ref 400, .d (.v (.int .i64 (((toTc x.f5)).f0))), .ref 480, .ref 481, .ref 560, .d (.v (.bool x.f7)), .ref 704, .d (.v (.string (⟨#[]⟩ : ByteArray)))])), (400, some (.row 1 9 ((((toQc x.f4)).f2).map dS) false true)), (480, some (.row 1 9 ((((toTc x.f5)).f1).map dS) false true)), (481, some (.row 1 3 ((((toTc x.f5)).f2).map dI) false true)), (560, some (.row 5 35 ((x.f6.map toTx).map d35) false true)), (704, some (.row 2 165 ((x.f8.map toVal).map d165) false true))], 752⟩ ?_
  refine sk ⟨[(2, .pt 80 0 0), (3, .pt 96 0 0)], [(80, some (.box [.d (.v (.int .i64 0)), .d (.v (.int .i64 0)), .d (.v (.int .i64 0)), .d (.v (.string (⟨#[]⟩ : ByteArray))), .d (.v (.int .i64 0)), .d (.v (.int .i64 0)), .nil, .d (.v (.int .i64 0)), .nil, .nil, .nil, .d (.v (.bool false)), .nil, .d (.v (.string (⟨#[]⟩ : ByteArray)))])), (96, some (.box [.d (.v (.int .i64 x.f0)), .d (.v (.int .i64 x.f1)), .d (.v (.int .i64 x.f2)), .d (.v (.string x.f3)), .d (.v (.int .i64 (((toQc x.f4)).f0))), .d (.v (.int .i64 (((toQc x.f4)).f1))), .ref 400, .d (.v (.int .i64 (((toTc x.f5)).f0))), .ref 480, .ref 481, .ref 560, .d (.v (.bool x.f7)), .ref 704, .d (.v (.string x.f9))])), (400, some (.row 1 9 ((((toQc x.f4)).f2).map dS) false true)), (480, some (.row 1 9 ((((toTc x.f5)).f1).map dS) false true)), (481, some (.row 1 3 ((((toTc x.f5)).f2).map dI) false true)), (560, some (.row 5 35 ((x.f6.map toTx).map d35) false true)), (704, some (.row 2 165 ((x.f8.map toVal).map d165) false true))], 816⟩ ?_
  refine sk ⟨[(2, .pt 80 0 0)], [(80, some (.box [.d (.v (.int .i64 x.f0)), .d (.v (.int .i64 x.f1)), .d (.v (.int .i64 x.f2)), .d (.v (.string x.f3)), .d (.v (.int .i64 (((toQc x.f4)).f0))), .d (.v (.int .i64 (((toQc x.f4)).f1))), .ref 400, .d (.v (.int .i64 (((toTc x.f5)).f0))), .ref 480, .ref 481, .ref 560, .d (.v (.bool x.f7)), .ref 704, .d (.v (.string x.f9))])), (400, some (.row 1 9 ((((toQc x.f4)).f2).map dS) false true)), (480, some (.row 1 9 ((((toTc x.f5)).f1).map dS) false true)), (481, some (.row 1 3 ((((toTc x.f5)).f2).map dI) false true)), (560, some (.row 5 35 ((x.f6.map toTx).map d35) false true)), (704, some (.row 2 165 ((x.f8.map toVal).map d165) false true))], 848⟩ ?_
  refine X.ret ?_
  exact ⟨trivial, _, _, ⟨(⟨x.f0, x.f1, x.f2, x.f3, ((toQc x.f4)), ((toTc x.f5)), (x.f6.map toTx), x.f7, (x.f8.map toVal), x.f9⟩ : S72), rfl, rfl, rfl⟩, .inl (Ret.mk' [(64, 400), (65, 480), (66, 481), (67, 560), (68, 704)] (by kernel_rfl) (by kernel_rfl) (by kernel_rfl))⟩
 obtain ⟨_, _, ⟨r0, h1_, rfl, rfl⟩, hf⟩ := key
 exact ⟨r0, h1_, hf⟩

theorem l_toBlockS (l : List S61) (hl : SmL (l.map toBlock)) : ∃ r0 : List S72, (r0 = l.map toBlock) ∧ Fn Try.prog 27 [lV (l.map d61)] (lookH []) (rV 64) (lookH [(64, some (.nst 14 72 [(6, 1, 9), (8, 1, 9), (9, 1, 3), (10, 5, 35), (12, 2, 165)] (r0.map d72) []))]) := by
 have key : ∃ x' h', ((fun x' h' => ∃ r0 : List S72, (r0 = l.map toBlock) ∧ x' = rV 64 ∧ h' = [(64, some (.nst 14 72 [(6, 1, 9), (8, 1, 9), (9, 1, 3), (10, 5, 35), (12, 2, 165)] (r0.map d72) []))])) x' h' ∧ Fn Try.prog 27 [lV (l.map d61)] (lookH []) x' (lookH h') := by
  refine Fn.bodyX (N := 23) hτ Try.func27 rfl rfl rfl rfl ?_
  refine sk ⟨[(0, lV (l.map d61))], [], 80⟩ ?_
  refine X.seq ?_
  have hll : l.length ≤ 2000000 := by have := hl.1; rwa [List.length_map] at this
  have el1 : (l.map d61).length = l.length := List.length_map ..
  refine rs 2 ?_
  refine CH.mkN hτ (n := (l.map d61).length) (bys := 208) [(6, 1, 9), (8, 1, 9), (9, 1, 3), (10, 5, 35), (12, 2, 165)] (by kernel_rfl) (by kernel_rfl) (by first | omega | (simp only [List.length_map]; omega) | (simp; omega)) (by first | omega | (simp only [List.length_map]; omega) | (simp; omega)) (by kernel_rfl) ?_
  refine go 1 ?_
  refine CH.endk ⟨[(0, lV (l.map d61)), (3, rV 112)], [(112, some (.nst 14 72 [(6, 1, 9), (8, 1, 9), (9, 1, 3), (10, 5, 35), (12, 2, 165)] (List.replicate ((l.map d61).length) (d72 z72)) []))], 144⟩ (by kernel_rfl) (by kernel_rfl) (s2 := ⟨[(0, lV (l.map d61)), (3, rV 112)], [(112, some (.nst 14 72 [(6, 1, 9), (8, 1, 9), (9, 1, 3), (10, 5, 35), (12, 2, 165)] ((List.replicate ((l.map d61).length) z72).map d72) []))], 144⟩) (congrArg (fun z : List (List D) => (⟨[(0, lV (l.map d61)), (3, rV 112)], [(112, some (.nst 14 72 [(6, 1, 9), (8, 1, 9), (9, 1, 3), (10, 5, 35), (12, 2, 165)] z []))], 144⟩ : St)) (show List.replicate ((l.map d61).length) (d72 z72) = ((List.replicate ((l.map d61).length) z72).map d72) from List.map_replicate.symm)) ?_
  refine X.seq ?_
  refine sk ⟨[(0, lV (l.map d61)), (3, rV 112), (4, iV 0)], [(112, some (.nst 14 72 [(6, 1, 9), (8, 1, 9), (9, 1, 3), (10, 5, 35), (12, 2, 165)] ((List.replicate ((l.map d61).length) z72).map d72) []))], 160⟩ ?_
  refine X.block ?_
  -- 3: Lv3 : List S72, v4 : Int
  refine X.loop (σ := { g : (List S72) × Int // (fun (Lv3 : List S72) (v4 : Int) => 0 ≤ v4 ∧ v4 ≤ l.length ∧ Lv3.length = l.length ∧ ∀ (j : Nat) (x : S61), (j : Int) < v4 → l[j]? = some x → Lv3[j]? = some (toBlock x)) g.1 g.2 }) (fun g => (fun (Lv3 : List S72) (v4 : Int) => ⟨[(0, lV (l.map d61)), (3, rV 112), (4, iV v4)], [(112, some (.nst 14 72 [(6, 1, 9), (8, 1, 9), (9, 1, 3), (10, 5, 35), (12, 2, 165)] (Lv3.map d72) []))], 160⟩) g.1.1 g.1.2) (fun g => (fun (Lv3 : List S72) (v4 : Int) => (l.length - v4).toNat) g.1.1 g.1.2) ⟨((List.replicate ((l.map d61).length) z72), 0), ⟨by first | omega | (dsimp only; omega), by first | omega | (dsimp only; omega), by simp, fun j x h => by first | omega | (dsimp only; omega)⟩⟩ (Wk.less (by kernel_rfl)) (fun g => ?_)
  obtain ⟨⟨Lv3, v4⟩, hg3⟩ := g
  have hg3 : 0 ≤ v4 ∧ v4 ≤ l.length ∧ Lv3.length = l.length ∧ ∀ (j : Nat) (x : S61), (j : Int) < v4 → l[j]? = some x → Lv3[j]? = some (toBlock x) := hg3
  obtain ⟨_, _, hL, hA⟩ := hg3
  refine X.seq ?_
  refine sk ⟨[(0, lV (l.map d61)), (3, rV 112), (4, iV v4), (11, bV (decide ((v4 : Int) < ((l.map d61).length : Int))))], [(112, some (.nst 14 72 [(6, 1, 9), (8, 1, 9), (9, 1, 3), (10, 5, 35), (12, 2, 165)] (Lv3.map d72) []))], 224⟩ ?_
  refine if_ (b := decide ((v4 : Int) < ((l.map d61).length : Int))) (fun hb4 => ?_) (fun hb4 => ?_)
  ·replace hb4 := of_decide_eq_true (hb4)
   refine X.skip ?_
   refine X.seq ?_
   refine X.block ?_
   refine rs 4 ?_
   obtain ⟨x5, hx5⟩ : ∃ x, l[Int.toNat v4]? = some x := ⟨_, List.getElem?_eq_getElem (by first | omega | (simp; done) | (simp; omega))⟩
   refine CH.idx hτ (d61 x5) (rows := (l.map d61)) (n := v4) (sz := 14) (by kernel_rfl) (by kernel_rfl) (by first | omega | (simp; done) | (simp; omega)) (by rw [List.getElem?_map, hx5]; rfl) (by kernel_rfl) ?_
   refine go 1 ?_
   obtain ⟨r6, hr8, hf7⟩ := l_toBlock x5 (by exact hl.2 _ (List.mem_map.2 ⟨_, List.mem_of_getElem? ‹_›, rfl⟩))
   replace hr8 := hr8.symm; subst hr8
   refine ca hf7 Try.func28 ?_
   refine CH.idxR hτ (rows := (Lv3.map d72)) (n := v4) (b := 112) (by kernel_rfl) (by kernel_rfl) (by first | omega | (simp; done) | (simp; omega)) (by simp only [List.length_map, List.length_set]; first | omega | (simp; done) | (simp; omega)) (by kernel_rfl) ?_
   obtain ⟨x10, hx10⟩ : ∃ x, Lv3[Int.toNat v4]? = some x := ⟨_, List.getElem?_eq_getElem (by first | omega | (simp; done) | (simp; omega))⟩
   refine CH.stN hτ (rows := (Lv3.map d72)) (n := Int.toNat v4) (p := 0) (len := 14) (op := []) (L := [(6, 320, (((((toBlock x5)).f4).f2).map dS)), (8, 321, (((((toBlock x5)).f5).f1).map dS)), (9, 322, (((((toBlock x5)).f5).f2).map dI)), (10, 323, ((((toBlock x5)).f6).map d35)), (12, 324, ((((toBlock x5)).f8).map d165))]) (d72 x10) (by kernel_rfl) (by kernel_rfl) (by rw [List.getElem?_map, hx10]; rfl) trivial ⟨flat_d dS (fun x => rfl), ⟨flat_d dS (fun x => rfl), ⟨flat_d dI (fun x => rfl), ⟨flat_d d35 (fun x => rfl), ⟨flat_d d165 (fun x => rfl), trivial⟩⟩⟩⟩⟩ (by kernel_rfl) ?_
   refine CH.endk ⟨[(0, lV (l.map d61)), (3, rV 112), (4, iV v4)], [(112, some (.nst 14 72 [(6, 1, 9), (8, 1, 9), (9, 1, 3), (10, 5, 35), (12, 2, 165)] ((Lv3.map d72).set (Int.toNat v4) (d72 ((toBlock x5)))) []))], 368⟩ (by kernel_rfl) (by kernel_rfl) (s2 := ⟨[(0, lV (l.map d61)), (3, rV 112), (4, iV v4)], [(112, some (.nst 14 72 [(6, 1, 9), (8, 1, 9), (9, 1, 3), (10, 5, 35), (12, 2, 165)] ((Lv3.set (Int.toNat v4) ((toBlock x5))).map d72) []))], 368⟩) (congrArg (fun z : List (List D) => (⟨[(0, lV (l.map d61)), (3, rV 112), (4, iV v4)], [(112, some (.nst 14 72 [(6, 1, 9), (8, 1, 9), (9, 1, 3), (10, 5, 35), (12, 2, 165)] z []))], 368⟩ : St)) (show ((Lv3.map d72).set (Int.toNat v4) (d72 ((toBlock x5)))) = ((Lv3.set (Int.toNat v4) ((toBlock x5))).map d72) from List.map_set.symm)) ?_
   refine X.rk ⟨[(0, lV (l.map d61)), (3, rV 112), (4, iV (wrap64 (v4 + 1)))], [(112, some (.nst 14 72 [(6, 1, 9), (8, 1, 9), (9, 1, 3), (10, 5, 35), (12, 2, 165)] ((Lv3.set (Int.toNat v4) ((toBlock x5))).map d72) []))], 416⟩ hτ hmix (by kernel_rfl) (by kernel_rfl) (s2 := ⟨[(0, lV (l.map d61)), (3, rV 112), (4, iV (v4 + 1))], [(112, some (.nst 14 72 [(6, 1, 9), (8, 1, 9), (9, 1, 3), (10, 5, 35), (12, 2, 165)] ((Lv3.set (Int.toNat v4) ((toBlock x5))).map d72) []))], 416⟩) (congrArg (fun z : Int => (⟨[(0, lV (l.map d61)), (3, rV 112), (4, iV z)], [(112, some (.nst 14 72 [(6, 1, 9), (8, 1, 9), (9, 1, 3), (10, 5, 35), (12, 2, 165)] ((Lv3.set (Int.toNat v4) ((toBlock x5))).map d72) []))], 416⟩ : St)) (show wrap64 (v4 + 1) = (v4 + 1) by rw [w64 (n := (v4 + 1)) (by omega) (by omega)])) ?_
   refine ⟨⟨((Lv3.set (Int.toNat v4) ((toBlock x5))), (v4 + 1)), ⟨by first | omega | (dsimp only; omega), by first | omega | (dsimp only; omega), by simp; omega, ts_next (f := toBlock) hA (by first | omega | (dsimp only; omega)) (by first | omega | (dsimp only; omega)) ‹_›⟩⟩, by first | exact rfl | omega | (dsimp only; omega) | (simp only [List.length_append, List.length_cons, List.length_nil, List.length_set]; omega) | (simp; done) | (simp; omega), Wk.mk' [(112, 112)] (by kernel_rfl) (by kernel_rfl) (by kernel_rfl)⟩
  ·replace hb4 := of_decide_eq_false (hb4)
   refine X.exit ?_
   refine sk ⟨[(2, rV 112)], [(112, some (.nst 14 72 [(6, 1, 9), (8, 1, 9), (9, 1, 3), (10, 5, 35), (12, 2, 165)] (Lv3.map d72) []))], 256⟩ ?_
   refine X.ret ?_
   exact ⟨trivial, _, _, ⟨Lv3, ts_end hA hL (by omega), rfl, rfl⟩, .inl (Ret.mk' [(64, 112)] (by kernel_rfl) (by kernel_rfl) (by kernel_rfl))⟩
 obtain ⟨_, _, ⟨r0, h1_, rfl, rfl⟩, hf⟩ := key
 exact ⟨r0, h1_, hf⟩
end Go.Proofs.Ytggmeldoecnkaaa.Av
