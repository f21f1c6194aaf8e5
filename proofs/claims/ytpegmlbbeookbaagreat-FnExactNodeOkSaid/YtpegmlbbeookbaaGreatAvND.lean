/-
What functions of the program come to, walked one by one.
Conditions: none beside those that each theorem names.
-/
import Derived.Test.YtpegmlbbeookbaaGreatAvLG
import Derived.Test.YtpegmlbbeookbaaGreatAv26
import Derived.Test.YtpegmlbbeookbaaGreatAvO
set_option linter.unusedVariables false
set_option linter.unusedSimpArgs false
namespace Go.Proofs.YtpegmlbbeookbaaGreat.Av
open Go.RowKit
set_option maxRecDepth 20000
set_option maxHeartbeats 4000000

def toTx (x : S113) : S119 := ⟨x.f0, x.f1, x.f2, x.f3, x.f4⟩
theorem ts_next {α β : Type} {f : α → β} {l : List α} {L : List β} {i : Int} {x : α} (hA : ∀ (j : Nat) (x : α), (j : Int) < i → l[j]? = some x → L[j]? = some (f x)) (h0 : 0 ≤ i) (hl : i < (L.length : Int)) (hx : l[i.toNat]? = some x) : ∀ (j : Nat) (y : α), (j : Int) < i + 1 → l[j]? = some y → (L.set i.toNat (f x))[j]? = some (f y) := by
  intro j y hj hy
  rw [List.getElem?_set]
  by_cases q : i.toNat = j
  · subst q
    rw [hx] at hy
    cases hy
    rw [if_pos rfl, if_pos (by omega)]
  · rw [if_neg q]
    exact hA j y (by omega) hy
theorem ts_end {α β : Type} {f : α → β} {l : List α} {L : List β} {i : Int} (hA : ∀ (j : Nat) (x : α), (j : Int) < i → l[j]? = some x → L[j]? = some (f x)) (hL : L.length = l.length) (hi : (l.length : Int) ≤ i) : L = l.map f := by
  apply List.ext_getElem?
  intro j
  rw [List.getElem?_map]
  rcases Nat.lt_or_ge j l.length with h | h
  · have hx := List.getElem?_eq_getElem h
    rw [hx, hA j _ (by omega) hx]
    rfl
  · rw [List.getElem?_eq_none (by omega), List.getElem?_eq_none h]
    rfl
noncomputable def eqV {α : Type} (a b : α) : Bool := @decide (a = b) (Classical.propDecidable _)
theorem eqV_iff {α : Type} {a b : α} : eqV a b = true ↔ a = b := by simp [eqV]
theorem eqV_self {α : Type} (a : α) : eqV a a = true := eqV_iff.2 rfl
theorem eqV_no {α : Type} {a b : α} (h : eqV a b = false) : a ≠ b := fun e => by rw [eqV_iff.2 e] at h; cases h
def toLeave (x : S179) : S167 := ⟨x.f0, x.f1⟩
def toAcct (x : S151) : S155 := ⟨x.f0, x.f1, x.f2, x.f3, (x.f4.map toLeave)⟩
def Sm155 (x : S155) : Prop := SmS x.f0 ∧ x.f4.length ≤ 2000000
def toLedger (x : S24) : S43 := ⟨x.f0, (x.f1.map toAcct)⟩
def Sm43 (x : S43) : Prop := (x.f1.length ≤ 2000000 ∧ ∀ z, z ∈ x.f1 → Sm155 z)
def toVal (x : S100) : S121 := ⟨x.f0, x.f1⟩
def toQc (x : S29) : S46 := ⟨x.f0, x.f1, x.f2⟩
def toTc (x : S32) : S47 := ⟨x.f0, x.f1, x.f2⟩
def toBlock (x : S103) : S73 := ⟨x.f0, x.f1, x.f2, x.f3, (toQc x.f4), (toTc x.f5), (x.f6.map toTx), x.f7, (x.f8.map toVal), x.f9⟩
def toVote (x : S107) : S131 := ⟨x.f0, x.f1, x.f2⟩
def Sm131 (x : S131) : Prop := SmS x.f2
def toGone (x : S110) : S133 := ⟨x.f0, x.f1, x.f2⟩
def Sm133 (x : S133) : Prop := SmS x.f2
def toProof (x : S116) : S137 := ⟨x.f0, (x.f1.map toBlock), (toQc x.f2)⟩
def Sm137 (x : S137) : Prop := SmL x.f1 ∧ Sm46 x.f2
def toNode (x : S38) : S53 := ⟨x.f0, x.f1, (toLedger x.f2), (x.f3.map toVal), (x.f4.map toBlock), x.f5, x.f6, (toQc x.f7), (toTc x.f8), x.f9, (x.f10.map toVote), (x.f11.map toGone), x.f12, (x.f13.map toTx), (x.f14.map toProof)⟩
def Sm53 (x : S53) : Prop := SmS x.f0 ∧ Sm43 x.f2 ∧ SmV x.f3 ∧ SmL x.f4 ∧ Sm46 x.f7 ∧ Sm47 x.f8 ∧ (x.f10.length ≤ 2000000 ∧ ∀ z, z ∈ x.f10 → Sm131 z) ∧ (x.f11.length ≤ 2000000 ∧ ∀ z, z ∈ x.f11 → Sm133 z) ∧ x.f12.length ≤ 2000000 ∧ SmT x.f13 ∧ (x.f14.length ≤ 2000000 ∧ ∀ z, z ∈ x.f14 → Sm137 z)
theorem l_szStringS (l : List ByteArray) (n : Int) (hw : l.length ≤ maxLen ∧ ∀ y ∈ l, y.size ≤ maxLen) (hn : 0 ≤ n ∧ n ≤ 2000000) : ∃ r0 : Int, (r0 ≤ n ∧ -1 ≤ r0 ∧ (0 ≤ r0 → (SmN l))) ∧ Fn Tryz.prog 58 [lV (l.map dS), iV n] (lookH []) (iV r0) (lookH []) := by
 have key : ∃ x' h', ((fun x' h' => ∃ r0 : Int, (r0 ≤ n ∧ -1 ≤ r0 ∧ (0 ≤ r0 → (SmN l))) ∧ x' = iV r0 ∧ h' = [])) x' h' ∧ Fn Tryz.prog 58 [lV (l.map dS), iV n] (lookH []) x' (lookH h') := by
  refine Fn.bodyX (N := 28) hτ Tryz.func58 rfl rfl rfl rfl ?_
  refine sk ⟨[(0, lV (l.map dS)), (1, iV n)], [], 80⟩ ?_
  refine X.seq ?_
  have hsl : l.length ≤ 9223372036854775807 := hw.1
  have el1 : (l.map dS).length = l.length := List.length_map ..
  refine X.rk ⟨[(0, lV (l.map dS)), (1, iV (wrap64 (n - ((l.map dS).length : Int))))], [], 160⟩ hτ hmix (by kernel_rfl) (by kernel_rfl) (s2 := ⟨[(0, lV (l.map dS)), (1, iV (n - ((l.map dS).length : Int)))], [], 160⟩) (congrArg (fun z : Int => (⟨[(0, lV (l.map dS)), (1, iV z)], [], 160⟩ : St)) (show wrap64 (n - ((l.map dS).length : Int)) = (n - ((l.map dS).length : Int)) by rw [w64 (n := (n - ((l.map dS).length : Int))) (by omega) (by omega)])) ?_
  refine X.seq ?_
  refine sk ⟨[(0, lV (l.map dS)), (1, iV (n - ((l.map dS).length : Int))), (11, bV (decide (((n - ((l.map dS).length : Int)) : Int) < 0)))], [], 192⟩ ?_
  refine if_ (b := decide (((n - ((l.map dS).length : Int)) : Int) < 0)) (fun hb2 => ?_) (fun hb2 => ?_)
  ·replace hb2 := of_decide_eq_true (hb2)
   refine sk ⟨[(4, iV (-1))], [], 208⟩ ?_
   refine X.ret ?_
   exact ⟨trivial, _, _, ⟨(-1), ⟨by omega, by omega, fun h => by first | omega | exact ⟨by omega, mem_upto hA (by omega)⟩⟩, rfl, rfl⟩, mkr⟩
  ·replace hb2 := of_decide_eq_false (hb2)
   refine X.skip ?_
   refine X.seq ?_
   refine sk ⟨[(0, lV (l.map dS)), (1, iV (n - ((l.map dS).length : Int))), (5, iV 0)], [], 208⟩ ?_
   refine X.block ?_
   -- 5: v1 : Int, v5 : Int
   refine X.loop (σ := { g : Int × Int // (fun (v1 : Int) (v5 : Int) => 0 ≤ v5 ∧ v5 ≤ l.length ∧ 0 ≤ v1 ∧ v1 ≤ n - l.length ∧ Upto (fun _ y => SmS y) (fun n => l[n]?) v5) g.1 g.2 }) (fun g => (fun (v1 : Int) (v5 : Int) => ⟨[(0, lV (l.map dS)), (1, iV v1), (5, iV v5)], [], 208⟩) g.1.1 g.1.2) (fun g => (fun (v1 : Int) (v5 : Int) => (l.length - v5).toNat) g.1.1 g.1.2) ⟨((n - ((l.map dS).length : Int)), 0), ⟨by first | omega | (dsimp only; omega), by first | omega | (dsimp only; omega), by first | omega | (dsimp only; omega), by simp only [List.length_map]; omega, upto_zero⟩⟩ (Wk.less (by kernel_rfl)) (fun g => ?_)
   obtain ⟨⟨v1, v5⟩, hg4⟩ := g
   have hg4 : 0 ≤ v5 ∧ v5 ≤ l.length ∧ 0 ≤ v1 ∧ v1 ≤ n - l.length ∧ Upto (fun _ y => SmS y) (fun n => l[n]?) v5 := hg4
   obtain ⟨_, _, _, _, hA⟩ := hg4
   refine X.seq ?_
   refine sk ⟨[(0, lV (l.map dS)), (1, iV v1), (5, iV v5), (15, bV (decide ((v5 : Int) < ((l.map dS).length : Int))))], [], 272⟩ ?_
   refine if_ (b := decide ((v5 : Int) < ((l.map dS).length : Int))) (fun hb5 => ?_) (fun hb5 => ?_)
   ·replace hb5 := of_decide_eq_true (hb5)
    refine X.skip ?_
    refine X.seq ?_
    refine X.block ?_
    refine X.seq (rs 3 ?_)
    obtain ⟨x6, hx6⟩ : ∃ x, l[Int.toNat v5]? = some x := ⟨_, List.getElem?_eq_getElem (by first | omega | (simp; done) | (simp; omega))⟩
    have hsx := hw.2 _ (List.mem_of_getElem? hx6); have hsx2 : _ ≤ 9223372036854775807 := hsx
    refine CH.idx hτ (dS x6) (rows := (l.map dS)) (n := v5) (sz := 1) (by kernel_rfl) (by kernel_rfl) (by first | omega | (simp; done) | (simp; omega)) (by rw [List.getElem?_map, hx6]; rfl) (by kernel_rfl) ?_
    refine go 4 ?_
    refine CH.endk ⟨[(0, lV (l.map dS)), (1, iV (wrap64 (v1 - (x6.size : Int)))), (5, iV v5)], [], 400⟩ (by kernel_rfl) (by kernel_rfl) (s2 := ⟨[(0, lV (l.map dS)), (1, iV (v1 - (x6.size : Int))), (5, iV v5)], [], 400⟩) (congrArg (fun z : Int => (⟨[(0, lV (l.map dS)), (1, iV z), (5, iV v5)], [], 400⟩ : St)) (show wrap64 (v1 - (x6.size : Int)) = (v1 - (x6.size : Int)) by rw [w64 (n := (v1 - (x6.size : Int))) (by omega) (by omega)])) ?_
    refine sk ⟨[(0, lV (l.map dS)), (1, iV (v1 - (x6.size : Int))), (5, iV v5), (26, bV (decide (((v1 - (x6.size : Int)) : Int) < 0)))], [], 432⟩ ?_
    refine if_ (b := decide (((v1 - (x6.size : Int)) : Int) < 0)) (fun hb7 => ?_) (fun hb7 => ?_)
    ·replace hb7 := of_decide_eq_true (hb7)
     refine sk ⟨[(4, iV (-1))], [], 448⟩ ?_
     refine X.ret ?_
     exact ⟨trivial, _, _, ⟨(-1), ⟨by omega, by omega, fun h => by first | omega | exact ⟨by omega, mem_upto hA (by omega)⟩⟩, rfl, rfl⟩, mkr⟩
    ·replace hb7 := of_decide_eq_false (hb7)
     refine X.skip ?_
     refine X.rk ⟨[(0, lV (l.map dS)), (1, iV (v1 - (x6.size : Int))), (5, iV (wrap64 (v5 + 1)))], [], 480⟩ hτ hmix (by kernel_rfl) (by kernel_rfl) (s2 := ⟨[(0, lV (l.map dS)), (1, iV (v1 - (x6.size : Int))), (5, iV (v5 + 1))], [], 480⟩) (congrArg (fun z : Int => (⟨[(0, lV (l.map dS)), (1, iV (v1 - (x6.size : Int))), (5, iV z)], [], 480⟩ : St)) (show wrap64 (v5 + 1) = (v5 + 1) by rw [w64 (n := (v5 + 1)) (by omega) (by omega)])) ?_
     refine ⟨⟨((v1 - (x6.size : Int)), (v5 + 1)), ⟨by first | omega | (dsimp only; omega), by first | omega | (dsimp only; omega), by first | omega | (dsimp only; omega), by first | omega | (dsimp only; omega), upto_nx (by first | omega | (dsimp only; omega)) hA ‹_› (by show _ ≤ 2000000; omega)⟩⟩, by first | exact rfl | omega | (dsimp only; omega) | (simp only [List.length_append, List.length_cons, List.length_nil, List.length_set]; omega) | (simp; done) | (simp; omega), Wk.mk' [] (by kernel_rfl) (by kernel_rfl) (by kernel_rfl)⟩
   ·replace hb5 := of_decide_eq_false (hb5)
    refine X.exit ?_
    refine sk ⟨[(4, iV v1)], [], 304⟩ ?_
    refine X.ret ?_
    exact ⟨trivial, _, _, ⟨v1, ⟨by omega, by omega, fun h => by first | omega | exact ⟨by omega, mem_upto hA (by omega)⟩⟩, rfl, rfl⟩, mkr⟩
 obtain ⟨_, _, ⟨r0, h1_, rfl, rfl⟩, hf⟩ := key
 exact ⟨r0, h1_, hf⟩

theorem l_szIntS (l : List Int) (n : Int) (hw : l.length ≤ maxLen ∧ ∀ y ∈ l, (Lit.int .i64 y).wf = true) (hn : 0 ≤ n ∧ n ≤ 2000000) : ∃ r0 : Int, (r0 ≤ n ∧ -1 ≤ r0 ∧ (0 ≤ r0 → (l.length ≤ 2000000))) ∧ Fn Tryz.prog 16 [lV (l.map dI), iV n] (lookH []) (iV r0) (lookH []) := by
 have key : ∃ x' h', ((fun x' h' => ∃ r0 : Int, (r0 ≤ n ∧ -1 ≤ r0 ∧ (0 ≤ r0 → (l.length ≤ 2000000))) ∧ x' = iV r0 ∧ h' = [])) x' h' ∧ Fn Tryz.prog 16 [lV (l.map dI), iV n] (lookH []) x' (lookH h') := by
  refine Fn.bodyX (N := 12) hτ Tryz.func16 rfl rfl rfl rfl ?_
  refine sk ⟨[(0, lV (l.map dI)), (1, iV n)], [], 80⟩ ?_
  refine X.seq ?_
  have hsl : l.length ≤ 9223372036854775807 := hw.1
  have el1 : (l.map dI).length = l.length := List.length_map ..
  refine X.rk ⟨[(1, iV (wrap64 (n - ((l.map dI).length : Int))))], [], 160⟩ hτ hmix (by kernel_rfl) (by kernel_rfl) (s2 := ⟨[(1, iV (n - ((l.map dI).length : Int)))], [], 160⟩) (congrArg (fun z : Int => (⟨[(1, iV z)], [], 160⟩ : St)) (show wrap64 (n - ((l.map dI).length : Int)) = (n - ((l.map dI).length : Int)) by rw [w64 (n := (n - ((l.map dI).length : Int))) (by omega) (by omega)])) ?_
  refine X.seq ?_
  refine sk ⟨[(1, iV (n - ((l.map dI).length : Int))), (10, bV (decide (((n - ((l.map dI).length : Int)) : Int) < 0)))], [], 192⟩ ?_
  refine if_ (b := decide (((n - ((l.map dI).length : Int)) : Int) < 0)) (fun hb2 => ?_) (fun hb2 => ?_)
  ·replace hb2 := of_decide_eq_true (hb2)
   refine sk ⟨[(4, iV (-1))], [], 208⟩ ?_
   refine X.ret ?_
   exact ⟨trivial, _, _, ⟨(-1), ⟨by omega, by omega, fun h => by first | omega | (simp only [List.length_map]; omega)⟩, rfl, rfl⟩, mkr⟩
  ·replace hb2 := of_decide_eq_false (hb2)
   refine X.skip ?_
   refine sk ⟨[(4, iV (n - ((l.map dI).length : Int)))], [], 224⟩ ?_
   refine X.ret ?_
   exact ⟨trivial, _, _, ⟨(n - ((l.map dI).length : Int)), ⟨by omega, by omega, fun h => by first | omega | (simp only [List.length_map]; omega)⟩, rfl, rfl⟩, mkr⟩
 obtain ⟨_, _, ⟨r0, h1_, rfl, rfl⟩, hf⟩ := key
 exact ⟨r0, h1_, hf⟩

theorem l_szLeaveS (l : List S179) (n : Int) (hw : l.length ≤ maxLen ∧ ∀ y ∈ l, w179 y) (hn : 0 ≤ n ∧ n ≤ 2000000) : ∃ r0 : Int, (r0 ≤ n ∧ -1 ≤ r0 ∧ (0 ≤ r0 → ((l.map toLeave).length ≤ 2000000))) ∧ Fn Tryz.prog 120 [lV (l.map d179), iV n] (lookH []) (iV r0) (lookH []) := by
 have key : ∃ x' h', ((fun x' h' => ∃ r0 : Int, (r0 ≤ n ∧ -1 ≤ r0 ∧ (0 ≤ r0 → ((l.map toLeave).length ≤ 2000000))) ∧ x' = iV r0 ∧ h' = [])) x' h' ∧ Fn Tryz.prog 120 [lV (l.map d179), iV n] (lookH []) x' (lookH h') := by
  refine Fn.bodyX (N := 12) hτ Tryz.func120 rfl rfl rfl rfl ?_
  refine sk ⟨[(0, lV (l.map d179)), (1, iV n)], [], 80⟩ ?_
  refine X.seq ?_
  have hsl : l.length ≤ 9223372036854775807 := hw.1
  have el1 : (l.map d179).length = l.length := List.length_map ..
  refine X.rk ⟨[(1, iV (wrap64 (n - ((l.map d179).length : Int))))], [], 160⟩ hτ hmix (by kernel_rfl) (by kernel_rfl) (s2 := ⟨[(1, iV (n - ((l.map d179).length : Int)))], [], 160⟩) (congrArg (fun z : Int => (⟨[(1, iV z)], [], 160⟩ : St)) (show wrap64 (n - ((l.map d179).length : Int)) = (n - ((l.map d179).length : Int)) by rw [w64 (n := (n - ((l.map d179).length : Int))) (by omega) (by omega)])) ?_
  refine X.seq ?_
  refine sk ⟨[(1, iV (n - ((l.map d179).length : Int))), (10, bV (decide (((n - ((l.map d179).length : Int)) : Int) < 0)))], [], 192⟩ ?_
  refine if_ (b := decide (((n - ((l.map d179).length : Int)) : Int) < 0)) (fun hb2 => ?_) (fun hb2 => ?_)
  ·replace hb2 := of_decide_eq_true (hb2)
   refine sk ⟨[(4, iV (-1))], [], 208⟩ ?_
   refine X.ret ?_
   exact ⟨trivial, _, _, ⟨(-1), ⟨by omega, by omega, fun h => by first | omega | (simp only [List.length_map]; omega)⟩, rfl, rfl⟩, mkr⟩
  ·replace hb2 := of_decide_eq_false (hb2)
   refine X.skip ?_
   refine sk ⟨[(4, iV (n - ((l.map d179).length : Int)))], [], 224⟩ ?_
   refine X.ret ?_
   exact ⟨trivial, _, _, ⟨(n - ((l.map d179).length : Int)), ⟨by omega, by omega, fun h => by first | omega | (simp only [List.length_map]; omega)⟩, rfl, rfl⟩, mkr⟩
 obtain ⟨_, _, ⟨r0, h1_, rfl, rfl⟩, hf⟩ := key
 exact ⟨r0, h1_, hf⟩

theorem l_szAcct (x : S151) (n : Int) (hw : w151 x) (hn : 0 ≤ n ∧ n ≤ 2000000) : ∃ r0 : Int, (r0 ≤ n ∧ -1 ≤ r0 ∧ (0 ≤ r0 → Sm155 (toAcct x))) ∧ Fn Tryz.prog 99 [.e (.agg (cD (d151 x))), iV n] (lookH []) (iV r0) (lookH []) := by
 have key : ∃ x' h', ((fun x' h' => ∃ r0 : Int, (r0 ≤ n ∧ -1 ≤ r0 ∧ (0 ≤ r0 → Sm155 (toAcct x))) ∧ x' = iV r0 ∧ h' = [])) x' h' ∧ Fn Tryz.prog 99 [.e (.agg (cD (d151 x))), iV n] (lookH []) x' (lookH h') := by
  refine Fn.bodyX (N := 19) hτ Tryz.func99 rfl rfl rfl rfl ?_
  refine sk ⟨[(1, iV n), (2, .pt 64 0 0)], [(64, some (.box (cD (d151 x))))], 96⟩ ?_
  refine X.seq ?_
  have hs0 : x.f0.size ≤ 9223372036854775807 := hw.1
  refine X.rk ⟨[(1, iV (wrap64 (n - (x.f0.size : Int)))), (2, .pt 64 0 0)], [(64, some (.box (cD (d151 x))))], 192⟩ hτ hmix (by kernel_rfl) (by kernel_rfl) (s2 := ⟨[(1, iV (n - (x.f0.size : Int))), (2, .pt 64 0 0)], [(64, some (.box (cD (d151 x))))], 192⟩) (congrArg (fun z : Int => (⟨[(1, iV z), (2, .pt 64 0 0)], [(64, some (.box (cD (d151 x))))], 192⟩ : St)) (show wrap64 (n - (x.f0.size : Int)) = (n - (x.f0.size : Int)) by rw [w64 (n := (n - (x.f0.size : Int))) (by omega) (by omega)])) ?_
  refine X.seq ?_
  refine sk ⟨[(1, iV (n - (x.f0.size : Int))), (2, .pt 64 0 0), (11, bV (decide (((n - (x.f0.size : Int)) : Int) < 0)))], [(64, some (.box (cD (d151 x))))], 224⟩ ?_
  refine if_ (b := decide (((n - (x.f0.size : Int)) : Int) < 0)) (fun hb1 => ?_) (fun hb1 => ?_)
  ·replace hb1 := of_decide_eq_true (hb1)
   refine sk ⟨[(4, iV (-1))], [], 240⟩ ?_
   refine X.ret ?_
   exact ⟨trivial, _, _, ⟨(-1), ⟨by omega, by omega, fun h => by first | omega | exact ⟨m0, m4⟩⟩, rfl, rfl⟩, mkr⟩
  ·replace hb1 := of_decide_eq_false (hb1)
   refine X.skip ?_
   refine X.seq ?_
   have m0 : SmS x.f0 := (by show _ ≤ 2000000; omega)
   have hw4 := hw.2.2.2.2
   refine rs 3 ?_
   obtain ⟨r2, hr4, hf3⟩ := l_szLeaveS x.f4 (n - (x.f0.size : Int)) (by assumption) (by first | omega | assumption)
   obtain ⟨hz1, hz0, hz2⟩ := hr4
   refine ca hf3 Tryz.func120 ?_
   refine go 1 ?_
   refine ek ⟨[(1, iV r2)], [], 304⟩ ?_
   refine X.seq ?_
   refine sk ⟨[(1, iV r2), (17, bV (decide ((r2 : Int) < 0)))], [], 336⟩ ?_
   refine if_ (b := decide ((r2 : Int) < 0)) (fun hb5 => ?_) (fun hb5 => ?_)
   ·replace hb5 := of_decide_eq_true (hb5)
    refine sk ⟨[(4, iV (-1))], [], 352⟩ ?_
    refine X.ret ?_
    exact ⟨trivial, _, _, ⟨(-1), ⟨by omega, by omega, fun h => by first | omega | exact ⟨m0, m4⟩⟩, rfl, rfl⟩, mkr⟩
   ·replace hb5 := of_decide_eq_false (hb5)
    refine X.skip ?_
    refine X.seq ?_
    have m4 := hz2 (by omega)
    refine rk ⟨[(4, iV r2)], [], 368⟩ ?_
    refine X.ret ?_
    exact ⟨trivial, _, _, ⟨r2, ⟨by omega, by omega, fun h => by first | omega | exact ⟨m0, m4⟩⟩, rfl, rfl⟩, mkr⟩
 obtain ⟨_, _, ⟨r0, h1_, rfl, rfl⟩, hf⟩ := key
 exact ⟨r0, h1_, hf⟩

theorem l_szAcctS (l : List S151) (n : Int) (hw : l.length ≤ maxLen ∧ ∀ y ∈ l, w151 y) (hn : 0 ≤ n ∧ n ≤ 2000000) : ∃ r0 : Int, (r0 ≤ n ∧ -1 ≤ r0 ∧ (0 ≤ r0 → ((l.map toAcct).length ≤ 2000000 ∧ ∀ x, x ∈ (l.map toAcct) → Sm155 x))) ∧ Fn Tryz.prog 55 [lV (l.map d151), iV n] (lookH []) (iV r0) (lookH []) := by
 have key : ∃ x' h', ((fun x' h' => ∃ r0 : Int, (r0 ≤ n ∧ -1 ≤ r0 ∧ (0 ≤ r0 → ((l.map toAcct).length ≤ 2000000 ∧ ∀ x, x ∈ (l.map toAcct) → Sm155 x))) ∧ x' = iV r0 ∧ h' = [])) x' h' ∧ Fn Tryz.prog 55 [lV (l.map d151), iV n] (lookH []) x' (lookH h') := by
  refine Fn.bodyX (N := 27) hτ Tryz.func55 rfl rfl rfl rfl ?_
  refine sk ⟨[(0, lV (l.map d151)), (1, iV n)], [], 80⟩ ?_
  refine X.seq ?_
  have hsl : l.length ≤ 9223372036854775807 := hw.1
  have el1 : (l.map d151).length = l.length := List.length_map ..
  refine X.rk ⟨[(0, lV (l.map d151)), (1, iV (wrap64 (n - ((l.map d151).length : Int))))], [], 160⟩ hτ hmix (by kernel_rfl) (by kernel_rfl) (s2 := ⟨[(0, lV (l.map d151)), (1, iV (n - ((l.map d151).length : Int)))], [], 160⟩) (congrArg (fun z : Int => (⟨[(0, lV (l.map d151)), (1, iV z)], [], 160⟩ : St)) (show wrap64 (n - ((l.map d151).length : Int)) = (n - ((l.map d151).length : Int)) by rw [w64 (n := (n - ((l.map d151).length : Int))) (by omega) (by omega)])) ?_
  refine X.seq ?_
  refine sk ⟨[(0, lV (l.map d151)), (1, iV (n - ((l.map d151).length : Int))), (11, bV (decide (((n - ((l.map d151).length : Int)) : Int) < 0)))], [], 192⟩ ?_
  refine if_ (b := decide (((n - ((l.map d151).length : Int)) : Int) < 0)) (fun hb2 => ?_) (fun hb2 => ?_)
  ·replace hb2 := of_decide_eq_true (hb2)
   refine sk ⟨[(4, iV (-1))], [], 208⟩ ?_
   refine X.ret ?_
   exact ⟨trivial, _, _, ⟨(-1), ⟨by omega, by omega, fun h => by first | omega | exact ⟨by rw [List.length_map]; omega, fun y hy => by obtain ⟨x, hx, rfl⟩ := List.mem_map.1 hy; exact mem_upto hA (by omega) x hx⟩⟩, rfl, rfl⟩, mkr⟩
  ·replace hb2 := of_decide_eq_false (hb2)
   refine X.skip ?_
   refine X.seq ?_
   refine sk ⟨[(0, lV (l.map d151)), (1, iV (n - ((l.map d151).length : Int))), (5, iV 0)], [], 208⟩ ?_
   refine X.block ?_
   -- 5: v1 : Int, v5 : Int
   refine X.loop (σ := { g : Int × Int // (fun (v1 : Int) (v5 : Int) => 0 ≤ v5 ∧ v5 ≤ l.length ∧ 0 ≤ v1 ∧ v1 ≤ n - l.length ∧ Upto (fun _ y => Sm155 (toAcct y)) (fun n => l[n]?) v5) g.1 g.2 }) (fun g => (fun (v1 : Int) (v5 : Int) => ⟨[(0, lV (l.map d151)), (1, iV v1), (5, iV v5)], [], 208⟩) g.1.1 g.1.2) (fun g => (fun (v1 : Int) (v5 : Int) => (l.length - v5).toNat) g.1.1 g.1.2) ⟨((n - ((l.map d151).length : Int)), 0), ⟨by first | omega | (dsimp only; omega), by first | omega | (dsimp only; omega), by first | omega | (dsimp only; omega), by simp only [List.length_map]; omega, upto_zero⟩⟩ (Wk.less (by kernel_rfl)) (fun g => ?_)
   obtain ⟨⟨v1, v5⟩, hg4⟩ := g
   have hg4 : 0 ≤ v5 ∧ v5 ≤ l.length ∧ 0 ≤ v1 ∧ v1 ≤ n - l.length ∧ Upto (fun _ y => Sm155 (toAcct y)) (fun n => l[n]?) v5 := hg4
   obtain ⟨_, _, _, _, hA⟩ := hg4
   refine X.seq ?_
   refine sk ⟨[(0, lV (l.map d151)), (1, iV v1), (5, iV v5), (15, bV (decide ((v5 : Int) < ((l.map d151).length : Int))))], [], 272⟩ ?_
   refine if_ (b := decide ((v5 : Int) < ((l.map d151).length : Int))) (fun hb5 => ?_) (fun hb5 => ?_)
   ·replace hb5 := of_decide_eq_true (hb5)
    refine X.skip ?_
    refine X.seq ?_
    refine X.block ?_
    refine X.seq (rs 2 ?_)
    obtain ⟨x6, hx6⟩ : ∃ x, l[Int.toNat v5]? = some x := ⟨_, List.getElem?_eq_getElem (by first | omega | (simp; done) | (simp; omega))⟩
    refine CH.idx hτ (d151 x6) (rows := (l.map d151)) (n := v5) (sz := 5) (by kernel_rfl) (by kernel_rfl) (by first | omega | (simp; done) | (simp; omega)) (by rw [List.getElem?_map, hx6]; rfl) (by kernel_rfl) ?_
    refine go 2 ?_
    obtain ⟨r7, hr9, hf8⟩ := l_szAcct x6 v1 (by exact hw.2 _ (List.mem_of_getElem? ‹_›)) (by omega)
    obtain ⟨hz1, hz0, hz2⟩ := hr9
    refine ca hf8 Tryz.func99 ?_
    refine go 1 ?_
    refine ek ⟨[(0, lV (l.map d151)), (1, iV r7), (5, iV v5)], [], 384⟩ ?_
    refine sk ⟨[(0, lV (l.map d151)), (1, iV r7), (5, iV v5), (25, bV (decide ((r7 : Int) < 0)))], [], 416⟩ ?_
    refine if_ (b := decide ((r7 : Int) < 0)) (fun hb10 => ?_) (fun hb10 => ?_)
    ·replace hb10 := of_decide_eq_true (hb10)
     refine sk ⟨[(4, iV (-1))], [], 432⟩ ?_
     refine X.ret ?_
     exact ⟨trivial, _, _, ⟨(-1), ⟨by omega, by omega, fun h => by first | omega | exact ⟨by rw [List.length_map]; omega, fun y hy => by obtain ⟨x, hx, rfl⟩ := List.mem_map.1 hy; exact mem_upto hA (by omega) x hx⟩⟩, rfl, rfl⟩, mkr⟩
    ·replace hb10 := of_decide_eq_false (hb10)
     refine X.skip ?_
     refine X.rk ⟨[(0, lV (l.map d151)), (1, iV r7), (5, iV (wrap64 (v5 + 1)))], [], 464⟩ hτ hmix (by kernel_rfl) (by kernel_rfl) (s2 := ⟨[(0, lV (l.map d151)), (1, iV r7), (5, iV (v5 + 1))], [], 464⟩) (congrArg (fun z : Int => (⟨[(0, lV (l.map d151)), (1, iV r7), (5, iV z)], [], 464⟩ : St)) (show wrap64 (v5 + 1) = (v5 + 1) by rw [w64 (n := (v5 + 1)) (by omega) (by omega)])) ?_
     refine ⟨⟨(r7, (v5 + 1)), ⟨by first | omega | (dsimp only; omega), by first | omega | (dsimp only; omega), by first | omega | (dsimp only; omega), by first | omega | (dsimp only; omega), upto_nx (by first | omega | (dsimp only; omega)) hA ‹_› (hz2 (by first | omega | (dsimp only; omega)))⟩⟩, by first | exact rfl | omega | (dsimp only; omega) | (simp only [List.length_append, List.length_cons, List.length_nil, List.length_set]; omega) | (simp; done) | (simp; omega), Wk.mk' [] (by kernel_rfl) (by kernel_rfl) (by kernel_rfl)⟩
   ·replace hb5 := of_decide_eq_false (hb5)
    refine X.exit ?_
    refine sk ⟨[(4, iV v1)], [], 304⟩ ?_
    refine X.ret ?_
    exact ⟨trivial, _, _, ⟨v1, ⟨by omega, by omega, fun h => by first | omega | exact ⟨by rw [List.length_map]; omega, fun y hy => by obtain ⟨x, hx, rfl⟩ := List.mem_map.1 hy; exact mem_upto hA (by omega) x hx⟩⟩, rfl, rfl⟩, mkr⟩
 obtain ⟨_, _, ⟨r0, h1_, rfl, rfl⟩, hf⟩ := key
 exact ⟨r0, h1_, hf⟩

theorem l_szLedger (x : S24) (n : Int) (hw : w24 x) (hn : 0 ≤ n ∧ n ≤ 2000000) : ∃ r0 : Int, (r0 ≤ n ∧ -1 ≤ r0 ∧ (0 ≤ r0 → Sm43 (toLedger x))) ∧ Fn Tryz.prog 9 [.e (.agg [.d (.v (.int .i64 x.f0)), .d (.sl (x.f1.map d151))]), iV n] (lookH []) (iV r0) (lookH []) := by
 have key : ∃ x' h', ((fun x' h' => ∃ r0 : Int, (r0 ≤ n ∧ -1 ≤ r0 ∧ (0 ≤ r0 → Sm43 (toLedger x))) ∧ x' = iV r0 ∧ h' = [])) x' h' ∧ Fn Tryz.prog 9 [.e (.agg [.d (.v (.int .i64 x.f0)), .d (.sl (x.f1.map d151))]), iV n] (lookH []) x' (lookH h') := by
  refine Fn.bodyX (N := 12) hτ Tryz.func9 rfl rfl rfl rfl ?_
  refine sk ⟨[(1, iV n), (2, .pt 64 0 0)], [(64, some (.box [.d (.v (.int .i64 x.f0)), .d (.sl (x.f1.map d151))]))], 96⟩ ?_
  refine X.seq ?_
  have hw1 := hw.2
  refine rs 3 ?_
  obtain ⟨r1, hr3, hf2⟩ := l_szAcctS x.f1 n (by assumption) (by first | omega | assumption)
  obtain ⟨hz1, hz0, hz2⟩ := hr3
  refine ca hf2 Tryz.func55 ?_
  refine go 1 ?_
  refine ek ⟨[(1, iV r1)], [], 176⟩ ?_
  refine X.seq ?_
  refine sk ⟨[(1, iV r1), (10, bV (decide ((r1 : Int) < 0)))], [], 208⟩ ?_
  refine if_ (b := decide ((r1 : Int) < 0)) (fun hb4 => ?_) (fun hb4 => ?_)
  ·replace hb4 := of_decide_eq_true (hb4)
   refine sk ⟨[(4, iV (-1))], [], 224⟩ ?_
   refine X.ret ?_
   exact ⟨trivial, _, _, ⟨(-1), ⟨by omega, by omega, fun h => by first | omega | exact m1⟩, rfl, rfl⟩, mkr⟩
  ·replace hb4 := of_decide_eq_false (hb4)
   refine X.skip ?_
   refine X.seq ?_
   have m1 := hz2 (by omega)
   refine rk ⟨[(4, iV r1)], [], 240⟩ ?_
   refine X.ret ?_
   exact ⟨trivial, _, _, ⟨r1, ⟨by omega, by omega, fun h => by first | omega | exact m1⟩, rfl, rfl⟩, mkr⟩
 obtain ⟨_, _, ⟨r0, h1_, rfl, rfl⟩, hf⟩ := key
 exact ⟨r0, h1_, hf⟩

theorem l_szVal (x : S100) (n : Int) (hw : w100 x) (hn : 0 ≤ n ∧ n ≤ 2000000) : ∃ r0 : Int, (r0 ≤ n ∧ -1 ≤ r0 ∧ (0 ≤ r0 → Sm121 (toVal x))) ∧ Fn Tryz.prog 56 [.e (.agg [.d (.v (.string x.f0)), .d (.v (.int .i64 x.f1))]), iV n] (lookH []) (iV r0) (lookH []) := by
 have key : ∃ x' h', ((fun x' h' => ∃ r0 : Int, (r0 ≤ n ∧ -1 ≤ r0 ∧ (0 ≤ r0 → Sm121 (toVal x))) ∧ x' = iV r0 ∧ h' = [])) x' h' ∧ Fn Tryz.prog 56 [.e (.agg [.d (.v (.string x.f0)), .d (.v (.int .i64 x.f1))]), iV n] (lookH []) x' (lookH h') := by
  refine Fn.bodyX (N := 13) hτ Tryz.func56 rfl rfl rfl rfl ?_
  refine sk ⟨[(1, iV n), (2, .pt 64 0 0)], [(64, some (.box [.d (.v (.string x.f0)), .d (.v (.int .i64 x.f1))]))], 96⟩ ?_
  refine X.seq ?_
  have hs0 : x.f0.size ≤ 9223372036854775807 := hw.1
  refine X.rk ⟨[(1, iV (wrap64 (n - (x.f0.size : Int))))], [], 192⟩ hτ hmix (by kernel_rfl) (by kernel_rfl) (s2 := ⟨[(1, iV (n - (x.f0.size : Int)))], [], 192⟩) (congrArg (fun z : Int => (⟨[(1, iV z)], [], 192⟩ : St)) (show wrap64 (n - (x.f0.size : Int)) = (n - (x.f0.size : Int)) by rw [w64 (n := (n - (x.f0.size : Int))) (by omega) (by omega)])) ?_
  refine X.seq ?_
  refine sk ⟨[(1, iV (n - (x.f0.size : Int))), (11, bV (decide (((n - (x.f0.size : Int)) : Int) < 0)))], [], 224⟩ ?_
  refine if_ (b := decide (((n - (x.f0.size : Int)) : Int) < 0)) (fun hb1 => ?_) (fun hb1 => ?_)
  ·replace hb1 := of_decide_eq_true (hb1)
   refine sk ⟨[(4, iV (-1))], [], 240⟩ ?_
   refine X.ret ?_
   exact ⟨trivial, _, _, ⟨(-1), ⟨by omega, by omega, fun h => by first | omega | exact m0⟩, rfl, rfl⟩, mkr⟩
  ·replace hb1 := of_decide_eq_false (hb1)
   refine X.skip ?_
   refine X.seq ?_
   have m0 : SmS x.f0 := (by show _ ≤ 2000000; omega)
   refine rk ⟨[(4, iV (n - (x.f0.size : Int)))], [], 256⟩ ?_
   refine X.ret ?_
   exact ⟨trivial, _, _, ⟨(n - (x.f0.size : Int)), ⟨by omega, by omega, fun h => by first | omega | exact m0⟩, rfl, rfl⟩, mkr⟩
 obtain ⟨_, _, ⟨r0, h1_, rfl, rfl⟩, hf⟩ := key
 exact ⟨r0, h1_, hf⟩

theorem l_szValS (l : List S100) (n : Int) (hw : l.length ≤ maxLen ∧ ∀ y ∈ l, w100 y) (hn : 0 ≤ n ∧ n ≤ 2000000) : ∃ r0 : Int, (r0 ≤ n ∧ -1 ≤ r0 ∧ (0 ≤ r0 → (SmV (l.map toVal)))) ∧ Fn Tryz.prog 10 [lV (l.map d100), iV n] (lookH []) (iV r0) (lookH []) := by
 have key : ∃ x' h', ((fun x' h' => ∃ r0 : Int, (r0 ≤ n ∧ -1 ≤ r0 ∧ (0 ≤ r0 → (SmV (l.map toVal)))) ∧ x' = iV r0 ∧ h' = [])) x' h' ∧ Fn Tryz.prog 10 [lV (l.map d100), iV n] (lookH []) x' (lookH h') := by
  refine Fn.bodyX (N := 27) hτ Tryz.func10 rfl rfl rfl rfl ?_
  refine sk ⟨[(0, lV (l.map d100)), (1, iV n)], [], 80⟩ ?_
  refine X.seq ?_
  have hsl : l.length ≤ 9223372036854775807 := hw.1
  have el1 : (l.map d100).length = l.length := List.length_map ..
  refine X.rk ⟨[(0, lV (l.map d100)), (1, iV (wrap64 (n - ((l.map d100).length : Int))))], [], 160⟩ hτ hmix (by kernel_rfl) (by kernel_rfl) (s2 := ⟨[(0, lV (l.map d100)), (1, iV (n - ((l.map d100).length : Int)))], [], 160⟩) (congrArg (fun z : Int => (⟨[(0, lV (l.map d100)), (1, iV z)], [], 160⟩ : St)) (show wrap64 (n - ((l.map d100).length : Int)) = (n - ((l.map d100).length : Int)) by rw [w64 (n := (n - ((l.map d100).length : Int))) (by omega) (by omega)])) ?_
  refine X.seq ?_
  refine sk ⟨[(0, lV (l.map d100)), (1, iV (n - ((l.map d100).length : Int))), (11, bV (decide (((n - ((l.map d100).length : Int)) : Int) < 0)))], [], 192⟩ ?_
  refine if_ (b := decide (((n - ((l.map d100).length : Int)) : Int) < 0)) (fun hb2 => ?_) (fun hb2 => ?_)
  ·replace hb2 := of_decide_eq_true (hb2)
   refine sk ⟨[(4, iV (-1))], [], 208⟩ ?_
   refine X.ret ?_
   exact ⟨trivial, _, _, ⟨(-1), ⟨by omega, by omega, fun h => by first | omega | exact ⟨by rw [List.length_map]; omega, fun y hy => by obtain ⟨x, hx, rfl⟩ := List.mem_map.1 hy; exact mem_upto hA (by omega) x hx⟩⟩, rfl, rfl⟩, mkr⟩
  ·replace hb2 := of_decide_eq_false (hb2)
   refine X.skip ?_
   refine X.seq ?_
   refine sk ⟨[(0, lV (l.map d100)), (1, iV (n - ((l.map d100).length : Int))), (5, iV 0)], [], 208⟩ ?_
   refine X.block ?_
   -- 5: v1 : Int, v5 : Int
   refine X.loop (σ := { g : Int × Int // (fun (v1 : Int) (v5 : Int) => 0 ≤ v5 ∧ v5 ≤ l.length ∧ 0 ≤ v1 ∧ v1 ≤ n - l.length ∧ Upto (fun _ y => Sm121 (toVal y)) (fun n => l[n]?) v5) g.1 g.2 }) (fun g => (fun (v1 : Int) (v5 : Int) => ⟨[(0, lV (l.map d100)), (1, iV v1), (5, iV v5)], [], 208⟩) g.1.1 g.1.2) (fun g => (fun (v1 : Int) (v5 : Int) => (l.length - v5).toNat) g.1.1 g.1.2) ⟨((n - ((l.map d100).length : Int)), 0), ⟨by first | omega | (dsimp only; omega), by first | omega | (dsimp only; omega), by first | omega | (dsimp only; omega), by simp only [List.length_map]; omega, upto_zero⟩⟩ (Wk.less (by kernel_rfl)) (fun g => ?_)
   obtain ⟨⟨v1, v5⟩, hg4⟩ := g
   have hg4 : 0 ≤ v5 ∧ v5 ≤ l.length ∧ 0 ≤ v1 ∧ v1 ≤ n - l.length ∧ Upto (fun _ y => Sm121 (toVal y)) (fun n => l[n]?) v5 := hg4
   obtain ⟨_, _, _, _, hA⟩ := hg4
   refine X.seq ?_
   refine sk ⟨[(0, lV (l.map d100)), (1, iV v1), (5, iV v5), (15, bV (decide ((v5 : Int) < ((l.map d100).length : Int))))], [], 272⟩ ?_
   refine if_ (b := decide ((v5 : Int) < ((l.map d100).length : Int))) (fun hb5 => ?_) (fun hb5 => ?_)
   ·replace hb5 := of_decide_eq_true (hb5)
    refine X.skip ?_
    refine X.seq ?_
    refine X.block ?_
    refine X.seq (rs 2 ?_)
    obtain ⟨x6, hx6⟩ : ∃ x, l[Int.toNat v5]? = some x := ⟨_, List.getElem?_eq_getElem (by first | omega | (simp; done) | (simp; omega))⟩
    refine CH.idx hτ (d100 x6) (rows := (l.map d100)) (n := v5) (sz := 2) (by kernel_rfl) (by kernel_rfl) (by first | omega | (simp; done) | (simp; omega)) (by rw [List.getElem?_map, hx6]; rfl) (by kernel_rfl) ?_
    refine go 2 ?_
    obtain ⟨r7, hr9, hf8⟩ := l_szVal x6 v1 (by exact hw.2 _ (List.mem_of_getElem? ‹_›)) (by omega)
    obtain ⟨hz1, hz0, hz2⟩ := hr9
    refine ca hf8 Tryz.func56 ?_
    refine go 1 ?_
    refine ek ⟨[(0, lV (l.map d100)), (1, iV r7), (5, iV v5)], [], 384⟩ ?_
    refine sk ⟨[(0, lV (l.map d100)), (1, iV r7), (5, iV v5), (25, bV (decide ((r7 : Int) < 0)))], [], 416⟩ ?_
    refine if_ (b := decide ((r7 : Int) < 0)) (fun hb10 => ?_) (fun hb10 => ?_)
    ·replace hb10 := of_decide_eq_true (hb10)
     refine sk ⟨[(4, iV (-1))], [], 432⟩ ?_
     refine X.ret ?_
     exact ⟨trivial, _, _, ⟨(-1), ⟨by omega, by omega, fun h => by first | omega | exact ⟨by rw [List.length_map]; omega, fun y hy => by obtain ⟨x, hx, rfl⟩ := List.mem_map.1 hy; exact mem_upto hA (by omega) x hx⟩⟩, rfl, rfl⟩, mkr⟩
    ·replace hb10 := of_decide_eq_false (hb10)
     refine X.skip ?_
     refine X.rk ⟨[(0, lV (l.map d100)), (1, iV r7), (5, iV (wrap64 (v5 + 1)))], [], 464⟩ hτ hmix (by kernel_rfl) (by kernel_rfl) (s2 := ⟨[(0, lV (l.map d100)), (1, iV r7), (5, iV (v5 + 1))], [], 464⟩) (congrArg (fun z : Int => (⟨[(0, lV (l.map d100)), (1, iV r7), (5, iV z)], [], 464⟩ : St)) (show wrap64 (v5 + 1) = (v5 + 1) by rw [w64 (n := (v5 + 1)) (by omega) (by omega)])) ?_
     refine ⟨⟨(r7, (v5 + 1)), ⟨by first | omega | (dsimp only; omega), by first | omega | (dsimp only; omega), by first | omega | (dsimp only; omega), by first | omega | (dsimp only; omega), upto_nx (by first | omega | (dsimp only; omega)) hA ‹_› (hz2 (by first | omega | (dsimp only; omega)))⟩⟩, by first | exact rfl | omega | (dsimp only; omega) | (simp only [List.length_append, List.length_cons, List.length_nil, List.length_set]; omega) | (simp; done) | (simp; omega), Wk.mk' [] (by kernel_rfl) (by kernel_rfl) (by kernel_rfl)⟩
   ·replace hb5 := of_decide_eq_false (hb5)
    refine X.exit ?_
    refine sk ⟨[(4, iV v1)], [], 304⟩ ?_
    refine X.ret ?_
    exact ⟨trivial, _, _, ⟨v1, ⟨by omega, by omega, fun h => by first | omega | exact ⟨by rw [List.length_map]; omega, fun y hy => by obtain ⟨x, hx, rfl⟩ := List.mem_map.1 hy; exact mem_upto hA (by omega) x hx⟩⟩, rfl, rfl⟩, mkr⟩
 obtain ⟨_, _, ⟨r0, h1_, rfl, rfl⟩, hf⟩ := key
 exact ⟨r0, h1_, hf⟩

theorem l_szQc (x : S29) (n : Int) (hw : w29 x) (hn : 0 ≤ n ∧ n ≤ 2000000) : ∃ r0 : Int, (r0 ≤ n ∧ -1 ≤ r0 ∧ (0 ≤ r0 → Sm46 (toQc x))) ∧ Fn Tryz.prog 12 [.e (.agg (cD (d29 x))), iV n] (lookH []) (iV r0) (lookH []) := by
 have key : ∃ x' h', ((fun x' h' => ∃ r0 : Int, (r0 ≤ n ∧ -1 ≤ r0 ∧ (0 ≤ r0 → Sm46 (toQc x))) ∧ x' = iV r0 ∧ h' = [])) x' h' ∧ Fn Tryz.prog 12 [.e (.agg (cD (d29 x))), iV n] (lookH []) x' (lookH h') := by
  refine Fn.bodyX (N := 12) hτ Tryz.func12 rfl rfl rfl rfl ?_
  refine sk ⟨[(1, iV n), (2, .pt 64 0 0)], [(64, some (.box (cD (d29 x))))], 96⟩ ?_
  refine X.seq ?_
  have hw2 := hw.2.2
  refine rs 3 ?_
  obtain ⟨r1, hr3, hf2⟩ := l_szStringS x.f2 n (by assumption) (by first | omega | assumption)
  obtain ⟨hz1, hz0, hz2⟩ := hr3
  refine ca hf2 Tryz.func58 ?_
  refine go 1 ?_
  refine ek ⟨[(1, iV r1)], [], 176⟩ ?_
  refine X.seq ?_
  refine sk ⟨[(1, iV r1), (10, bV (decide ((r1 : Int) < 0)))], [], 208⟩ ?_
  refine if_ (b := decide ((r1 : Int) < 0)) (fun hb4 => ?_) (fun hb4 => ?_)
  ·replace hb4 := of_decide_eq_true (hb4)
   refine sk ⟨[(4, iV (-1))], [], 224⟩ ?_
   refine X.ret ?_
   exact ⟨trivial, _, _, ⟨(-1), ⟨by omega, by omega, fun h => by first | omega | exact m2⟩, rfl, rfl⟩, mkr⟩
  ·replace hb4 := of_decide_eq_false (hb4)
   refine X.skip ?_
   refine X.seq ?_
   have m2 := hz2 (by omega)
   refine rk ⟨[(4, iV r1)], [], 240⟩ ?_
   refine X.ret ?_
   exact ⟨trivial, _, _, ⟨r1, ⟨by omega, by omega, fun h => by first | omega | exact m2⟩, rfl, rfl⟩, mkr⟩
 obtain ⟨_, _, ⟨r0, h1_, rfl, rfl⟩, hf⟩ := key
 exact ⟨r0, h1_, hf⟩

theorem l_szTc (x : S32) (n : Int) (hw : w32 x) (hn : 0 ≤ n ∧ n ≤ 2000000) : ∃ r0 : Int, (r0 ≤ n ∧ -1 ≤ r0 ∧ (0 ≤ r0 → Sm47 (toTc x))) ∧ Fn Tryz.prog 13 [.e (.agg (cD (d32 x))), iV n] (lookH []) (iV r0) (lookH []) := by
 have key : ∃ x' h', ((fun x' h' => ∃ r0 : Int, (r0 ≤ n ∧ -1 ≤ r0 ∧ (0 ≤ r0 → Sm47 (toTc x))) ∧ x' = iV r0 ∧ h' = [])) x' h' ∧ Fn Tryz.prog 13 [.e (.agg (cD (d32 x))), iV n] (lookH []) x' (lookH h') := by
  refine Fn.bodyX (N := 18) hτ Tryz.func13 rfl rfl rfl rfl ?_
  refine sk ⟨[(1, iV n), (2, .pt 64 0 0)], [(64, some (.box (cD (d32 x))))], 96⟩ ?_
  refine X.seq ?_
  have hw1 := hw.2.1
  refine rs 3 ?_
  obtain ⟨r1, hr3, hf2⟩ := l_szStringS x.f1 n (by assumption) (by first | omega | assumption)
  obtain ⟨hz1, hz0, hz2⟩ := hr3
  refine ca hf2 Tryz.func58 ?_
  refine go 1 ?_
  refine ek ⟨[(1, iV r1), (2, .pt 64 0 0)], [(64, some (.box (cD (d32 x))))], 176⟩ ?_
  refine X.seq ?_
  refine sk ⟨[(1, iV r1), (2, .pt 64 0 0), (10, bV (decide ((r1 : Int) < 0)))], [(64, some (.box (cD (d32 x))))], 208⟩ ?_
  refine if_ (b := decide ((r1 : Int) < 0)) (fun hb4 => ?_) (fun hb4 => ?_)
  ·replace hb4 := of_decide_eq_true (hb4)
   refine sk ⟨[(4, iV (-1))], [], 224⟩ ?_
   refine X.ret ?_
   exact ⟨trivial, _, _, ⟨(-1), ⟨by omega, by omega, fun h => by first | omega | exact ⟨m1, m2⟩⟩, rfl, rfl⟩, mkr⟩
  ·replace hb4 := of_decide_eq_false (hb4)
   refine X.skip ?_
   refine X.seq ?_
   have m1 := hz2 (by omega)
   have hw2 := hw.2.2
   refine rs 3 ?_
   obtain ⟨r5, hr7, hf6⟩ := l_szIntS x.f2 r1 (by assumption) (by first | omega | assumption)
   obtain ⟨hz1, hz0, hz2⟩ := hr7
   refine ca hf6 Tryz.func16 ?_
   refine go 1 ?_
   refine ek ⟨[(1, iV r5)], [], 288⟩ ?_
   refine X.seq ?_
   refine sk ⟨[(1, iV r5), (16, bV (decide ((r5 : Int) < 0)))], [], 320⟩ ?_
   refine if_ (b := decide ((r5 : Int) < 0)) (fun hb8 => ?_) (fun hb8 => ?_)
   ·replace hb8 := of_decide_eq_true (hb8)
    refine sk ⟨[(4, iV (-1))], [], 336⟩ ?_
    refine X.ret ?_
    exact ⟨trivial, _, _, ⟨(-1), ⟨by omega, by omega, fun h => by first | omega | exact ⟨m1, m2⟩⟩, rfl, rfl⟩, mkr⟩
   ·replace hb8 := of_decide_eq_false (hb8)
    refine X.skip ?_
    refine X.seq ?_
    have m2 := hz2 (by omega)
    refine rk ⟨[(4, iV r5)], [], 352⟩ ?_
    refine X.ret ?_
    exact ⟨trivial, _, _, ⟨r5, ⟨by omega, by omega, fun h => by first | omega | exact ⟨m1, m2⟩⟩, rfl, rfl⟩, mkr⟩
 obtain ⟨_, _, ⟨r0, h1_, rfl, rfl⟩, hf⟩ := key
 exact ⟨r0, h1_, hf⟩

theorem l_szTx (x : S113) (n : Int) (hw : w113 x) (hn : 0 ≤ n ∧ n ≤ 2000000) : ∃ r0 : Int, (r0 ≤ n ∧ -1 ≤ r0 ∧ (0 ≤ r0 → Sm119 (toTx x))) ∧ Fn Tryz.prog 61 [.e (.agg (cD (d113 x))), iV n] (lookH []) (iV r0) (lookH []) := by
 have key : ∃ x' h', ((fun x' h' => ∃ r0 : Int, (r0 ≤ n ∧ -1 ≤ r0 ∧ (0 ≤ r0 → Sm119 (toTx x))) ∧ x' = iV r0 ∧ h' = [])) x' h' ∧ Fn Tryz.prog 61 [.e (.agg (cD (d113 x))), iV n] (lookH []) x' (lookH h') := by
  refine Fn.bodyX (N := 20) hτ Tryz.func61 rfl rfl rfl rfl ?_
  refine sk ⟨[(1, iV n), (2, .pt 64 0 0)], [(64, some (.box (cD (d113 x))))], 96⟩ ?_
  refine X.seq ?_
  have hs1 : x.f1.size ≤ 9223372036854775807 := hw.2.1
  refine X.rk ⟨[(1, iV (wrap64 (n - (x.f1.size : Int)))), (2, .pt 64 0 0)], [(64, some (.box (cD (d113 x))))], 192⟩ hτ hmix (by kernel_rfl) (by kernel_rfl) (s2 := ⟨[(1, iV (n - (x.f1.size : Int))), (2, .pt 64 0 0)], [(64, some (.box (cD (d113 x))))], 192⟩) (congrArg (fun z : Int => (⟨[(1, iV z), (2, .pt 64 0 0)], [(64, some (.box (cD (d113 x))))], 192⟩ : St)) (show wrap64 (n - (x.f1.size : Int)) = (n - (x.f1.size : Int)) by rw [w64 (n := (n - (x.f1.size : Int))) (by omega) (by omega)])) ?_
  refine X.seq ?_
  refine sk ⟨[(1, iV (n - (x.f1.size : Int))), (2, .pt 64 0 0), (11, bV (decide (((n - (x.f1.size : Int)) : Int) < 0)))], [(64, some (.box (cD (d113 x))))], 224⟩ ?_
  refine if_ (b := decide (((n - (x.f1.size : Int)) : Int) < 0)) (fun hb1 => ?_) (fun hb1 => ?_)
  ·replace hb1 := of_decide_eq_true (hb1)
   refine sk ⟨[(4, iV (-1))], [], 240⟩ ?_
   refine X.ret ?_
   exact ⟨trivial, _, _, ⟨(-1), ⟨by omega, by omega, fun h => by first | omega | exact ⟨m1, m2⟩⟩, rfl, rfl⟩, mkr⟩
  ·replace hb1 := of_decide_eq_false (hb1)
   refine X.skip ?_
   refine X.seq ?_
   have m1 : SmS x.f1 := (by show _ ≤ 2000000; omega)
   have hs2 : x.f2.size ≤ 9223372036854775807 := hw.2.2.1
   refine X.rk ⟨[(1, iV (wrap64 ((n - (x.f1.size : Int)) - (x.f2.size : Int))))], [], 320⟩ hτ hmix (by kernel_rfl) (by kernel_rfl) (s2 := ⟨[(1, iV ((n - (x.f1.size : Int)) - (x.f2.size : Int)))], [], 320⟩) (congrArg (fun z : Int => (⟨[(1, iV z)], [], 320⟩ : St)) (show wrap64 ((n - (x.f1.size : Int)) - (x.f2.size : Int)) = ((n - (x.f1.size : Int)) - (x.f2.size : Int)) by rw [w64 (n := ((n - (x.f1.size : Int)) - (x.f2.size : Int))) (by omega) (by omega)])) ?_
   refine X.seq ?_
   refine sk ⟨[(1, iV ((n - (x.f1.size : Int)) - (x.f2.size : Int))), (18, bV (decide ((((n - (x.f1.size : Int)) - (x.f2.size : Int)) : Int) < 0)))], [], 352⟩ ?_
   refine if_ (b := decide ((((n - (x.f1.size : Int)) - (x.f2.size : Int)) : Int) < 0)) (fun hb2 => ?_) (fun hb2 => ?_)
   ·replace hb2 := of_decide_eq_true (hb2)
    refine sk ⟨[(4, iV (-1))], [], 368⟩ ?_
    refine X.ret ?_
    exact ⟨trivial, _, _, ⟨(-1), ⟨by omega, by omega, fun h => by first | omega | exact ⟨m1, m2⟩⟩, rfl, rfl⟩, mkr⟩
   ·replace hb2 := of_decide_eq_false (hb2)
    refine X.skip ?_
    refine X.seq ?_
    have m2 : SmS x.f2 := (by show _ ≤ 2000000; omega)
    refine rk ⟨[(4, iV ((n - (x.f1.size : Int)) - (x.f2.size : Int)))], [], 384⟩ ?_
    refine X.ret ?_
    exact ⟨trivial, _, _, ⟨((n - (x.f1.size : Int)) - (x.f2.size : Int)), ⟨by omega, by omega, fun h => by first | omega | exact ⟨m1, m2⟩⟩, rfl, rfl⟩, mkr⟩
 obtain ⟨_, _, ⟨r0, h1_, rfl, rfl⟩, hf⟩ := key
 exact ⟨r0, h1_, hf⟩

theorem l_szTxS (l : List S113) (n : Int) (hw : l.length ≤ maxLen ∧ ∀ y ∈ l, w113 y) (hn : 0 ≤ n ∧ n ≤ 2000000) : ∃ r0 : Int, (r0 ≤ n ∧ -1 ≤ r0 ∧ (0 ≤ r0 → (SmT (l.map toTx)))) ∧ Fn Tryz.prog 17 [lV (l.map d113), iV n] (lookH []) (iV r0) (lookH []) := by
 have key : ∃ x' h', ((fun x' h' => ∃ r0 : Int, (r0 ≤ n ∧ -1 ≤ r0 ∧ (0 ≤ r0 → (SmT (l.map toTx)))) ∧ x' = iV r0 ∧ h' = [])) x' h' ∧ Fn Tryz.prog 17 [lV (l.map d113), iV n] (lookH []) x' (lookH h') := by
  refine Fn.bodyX (N := 27) hτ Tryz.func17 rfl rfl rfl rfl ?_
  refine sk ⟨[(0, lV (l.map d113)), (1, iV n)], [], 80⟩ ?_
  refine X.seq ?_
  have hsl : l.length ≤ 9223372036854775807 := hw.1
  have el1 : (l.map d113).length = l.length := List.length_map ..
  refine X.rk ⟨[(0, lV (l.map d113)), (1, iV (wrap64 (n - ((l.map d113).length : Int))))], [], 160⟩ hτ hmix (by kernel_rfl) (by kernel_rfl) (s2 := ⟨[(0, lV (l.map d113)), (1, iV (n - ((l.map d113).length : Int)))], [], 160⟩) (congrArg (fun z : Int => (⟨[(0, lV (l.map d113)), (1, iV z)], [], 160⟩ : St)) (show wrap64 (n - ((l.map d113).length : Int)) = (n - ((l.map d113).length : Int)) by rw [w64 (n := (n - ((l.map d113).length : Int))) (by omega) (by omega)])) ?_
  refine X.seq ?_
  refine sk ⟨[(0, lV (l.map d113)), (1, iV (n - ((l.map d113).length : Int))), (11, bV (decide (((n - ((l.map d113).length : Int)) : Int) < 0)))], [], 192⟩ ?_
  refine if_ (b := decide (((n - ((l.map d113).length : Int)) : Int) < 0)) (fun hb2 => ?_) (fun hb2 => ?_)
  ·replace hb2 := of_decide_eq_true (hb2)
   refine sk ⟨[(4, iV (-1))], [], 208⟩ ?_
   refine X.ret ?_
   exact ⟨trivial, _, _, ⟨(-1), ⟨by omega, by omega, fun h => by first | omega | exact ⟨by rw [List.length_map]; omega, fun y hy => by obtain ⟨x, hx, rfl⟩ := List.mem_map.1 hy; exact mem_upto hA (by omega) x hx⟩⟩, rfl, rfl⟩, mkr⟩
  ·replace hb2 := of_decide_eq_false (hb2)
   refine X.skip ?_
   refine X.seq ?_
   refine sk ⟨[(0, lV (l.map d113)), (1, iV (n - ((l.map d113).length : Int))), (5, iV 0)], [], 208⟩ ?_
   refine X.block ?_
   -- 5: v1 : Int, v5 : Int
   refine X.loop (σ := { g : Int × Int // (fun (v1 : Int) (v5 : Int) => 0 ≤ v5 ∧ v5 ≤ l.length ∧ 0 ≤ v1 ∧ v1 ≤ n - l.length ∧ Upto (fun _ y => Sm119 (toTx y)) (fun n => l[n]?) v5) g.1 g.2 }) (fun g => (fun (v1 : Int) (v5 : Int) => ⟨[(0, lV (l.map d113)), (1, iV v1), (5, iV v5)], [], 208⟩) g.1.1 g.1.2) (fun g => (fun (v1 : Int) (v5 : Int) => (l.length - v5).toNat) g.1.1 g.1.2) ⟨((n - ((l.map d113).length : Int)), 0), ⟨by first | omega | (dsimp only; omega), by first | omega | (dsimp only; omega), by first | omega | (dsimp only; omega), by simp only [List.length_map]; omega, upto_zero⟩⟩ (Wk.less (by kernel_rfl)) (fun g => ?_)
   obtain ⟨⟨v1, v5⟩, hg4⟩ := g
   have hg4 : 0 ≤ v5 ∧ v5 ≤ l.length ∧ 0 ≤ v1 ∧ v1 ≤ n - l.length ∧ Upto (fun _ y => Sm119 (toTx y)) (fun n => l[n]?) v5 := hg4
   obtain ⟨_, _, _, _, hA⟩ := hg4
   refine X.seq ?_
   refine sk ⟨[(0, lV (l.map d113)), (1, iV v1), (5, iV v5), (15, bV (decide ((v5 : Int) < ((l.map d113).length : Int))))], [], 272⟩ ?_
   refine if_ (b := decide ((v5 : Int) < ((l.map d113).length : Int))) (fun hb5 => ?_) (fun hb5 => ?_)
   ·replace hb5 := of_decide_eq_true (hb5)
    refine X.skip ?_
    refine X.seq ?_
    refine X.block ?_
    refine X.seq (rs 2 ?_)
    obtain ⟨x6, hx6⟩ : ∃ x, l[Int.toNat v5]? = some x := ⟨_, List.getElem?_eq_getElem (by first | omega | (simp; done) | (simp; omega))⟩
    refine CH.idx hτ (d113 x6) (rows := (l.map d113)) (n := v5) (sz := 5) (by kernel_rfl) (by kernel_rfl) (by first | omega | (simp; done) | (simp; omega)) (by rw [List.getElem?_map, hx6]; rfl) (by kernel_rfl) ?_
    refine go 2 ?_
    obtain ⟨r7, hr9, hf8⟩ := l_szTx x6 v1 (by exact hw.2 _ (List.mem_of_getElem? ‹_›)) (by omega)
    obtain ⟨hz1, hz0, hz2⟩ := hr9
    refine ca hf8 Tryz.func61 ?_
    refine go 1 ?_
    refine ek ⟨[(0, lV (l.map d113)), (1, iV r7), (5, iV v5)], [], 384⟩ ?_
    refine sk ⟨[(0, lV (l.map d113)), (1, iV r7), (5, iV v5), (25, bV (decide ((r7 : Int) < 0)))], [], 416⟩ ?_
    refine if_ (b := decide ((r7 : Int) < 0)) (fun hb10 => ?_) (fun hb10 => ?_)
    ·replace hb10 := of_decide_eq_true (hb10)
     refine sk ⟨[(4, iV (-1))], [], 432⟩ ?_
     refine X.ret ?_
     exact ⟨trivial, _, _, ⟨(-1), ⟨by omega, by omega, fun h => by first | omega | exact ⟨by rw [List.length_map]; omega, fun y hy => by obtain ⟨x, hx, rfl⟩ := List.mem_map.1 hy; exact mem_upto hA (by omega) x hx⟩⟩, rfl, rfl⟩, mkr⟩
    ·replace hb10 := of_decide_eq_false (hb10)
     refine X.skip ?_
     refine X.rk ⟨[(0, lV (l.map d113)), (1, iV r7), (5, iV (wrap64 (v5 + 1)))], [], 464⟩ hτ hmix (by kernel_rfl) (by kernel_rfl) (s2 := ⟨[(0, lV (l.map d113)), (1, iV r7), (5, iV (v5 + 1))], [], 464⟩) (congrArg (fun z : Int => (⟨[(0, lV (l.map d113)), (1, iV r7), (5, iV z)], [], 464⟩ : St)) (show wrap64 (v5 + 1) = (v5 + 1) by rw [w64 (n := (v5 + 1)) (by omega) (by omega)])) ?_
     refine ⟨⟨(r7, (v5 + 1)), ⟨by first | omega | (dsimp only; omega), by first | omega | (dsimp only; omega), by first | omega | (dsimp only; omega), by first | omega | (dsimp only; omega), upto_nx (by first | omega | (dsimp only; omega)) hA ‹_› (hz2 (by first | omega | (dsimp only; omega)))⟩⟩, by first | exact rfl | omega | (dsimp only; omega) | (simp only [List.length_append, List.length_cons, List.length_nil, List.length_set]; omega) | (simp; done) | (simp; omega), Wk.mk' [] (by kernel_rfl) (by kernel_rfl) (by kernel_rfl)⟩
   ·replace hb5 := of_decide_eq_false (hb5)
    refine X.exit ?_
    refine sk ⟨[(4, iV v1)], [], 304⟩ ?_
    refine X.ret ?_
    exact ⟨trivial, _, _, ⟨v1, ⟨by omega, by omega, fun h => by first | omega | exact ⟨by rw [List.length_map]; omega, fun y hy => by obtain ⟨x, hx, rfl⟩ := List.mem_map.1 hy; exact mem_upto hA (by omega) x hx⟩⟩, rfl, rfl⟩, mkr⟩
 obtain ⟨_, _, ⟨r0, h1_, rfl, rfl⟩, hf⟩ := key
 exact ⟨r0, h1_, hf⟩

theorem l_szBlock (x : S103) (n : Int) (hw : w103 x) (hn : 0 ≤ n ∧ n ≤ 2000000) : ∃ r0 : Int, (r0 ≤ n ∧ -1 ≤ r0 ∧ (0 ≤ r0 → Sm73 (toBlock x))) ∧ Fn Tryz.prog 57 [.e (.agg (cD (d103 x))), iV n] (lookH []) (iV r0) (lookH []) := by
 have key : ∃ x' h', ((fun x' h' => ∃ r0 : Int, (r0 ≤ n ∧ -1 ≤ r0 ∧ (0 ≤ r0 → Sm73 (toBlock x))) ∧ x' = iV r0 ∧ h' = [])) x' h' ∧ Fn Tryz.prog 57 [.e (.agg (cD (d103 x))), iV n] (lookH []) x' (lookH h') := by
  refine Fn.bodyX (N := 44) hτ Tryz.func57 rfl rfl rfl rfl ?_
  refine sk ⟨[(1, iV n), (2, .pt 64 0 0)], [(64, some (.box (cD (d103 x))))], 96⟩ ?_
  refine X.seq ?_
  have hs3 : x.f3.size ≤ 9223372036854775807 := hw.2.2.2.1
  refine X.rk ⟨[(1, iV (wrap64 (n - (x.f3.size : Int)))), (2, .pt 64 0 0)], [(64, some (.box (cD (d103 x))))], 192⟩ hτ hmix (by kernel_rfl) (by kernel_rfl) (s2 := ⟨[(1, iV (n - (x.f3.size : Int))), (2, .pt 64 0 0)], [(64, some (.box (cD (d103 x))))], 192⟩) (congrArg (fun z : Int => (⟨[(1, iV z), (2, .pt 64 0 0)], [(64, some (.box (cD (d103 x))))], 192⟩ : St)) (show wrap64 (n - (x.f3.size : Int)) = (n - (x.f3.size : Int)) by rw [w64 (n := (n - (x.f3.size : Int))) (by omega) (by omega)])) ?_
  refine X.seq ?_
  refine sk ⟨[(1, iV (n - (x.f3.size : Int))), (2, .pt 64 0 0), (11, bV (decide (((n - (x.f3.size : Int)) : Int) < 0)))], [(64, some (.box (cD (d103 x))))], 224⟩ ?_
  refine if_ (b := decide (((n - (x.f3.size : Int)) : Int) < 0)) (fun hb1 => ?_) (fun hb1 => ?_)
  ·replace hb1 := of_decide_eq_true (hb1)
   refine sk ⟨[(4, iV (-1))], [], 240⟩ ?_
   refine X.ret ?_
   exact ⟨trivial, _, _, ⟨(-1), ⟨by omega, by omega, fun h => by first | omega | exact ⟨m3, m4, m5, m6, m8, m9⟩⟩, rfl, rfl⟩, mkr⟩
  ·replace hb1 := of_decide_eq_false (hb1)
   refine X.skip ?_
   refine X.seq ?_
   have m3 : SmS x.f3 := (by show _ ≤ 2000000; omega)
   have hw4 := hw.2.2.2.2.1
   refine rs 3 ?_
   obtain ⟨r2, hr4, hf3⟩ := l_szQc x.f4 (n - (x.f3.size : Int)) (by assumption) (by first | omega | assumption)
   obtain ⟨hz1, hz0, hz2⟩ := hr4
   refine ca hf3 Tryz.func12 ?_
   refine go 1 ?_
   refine ek ⟨[(1, iV r2), (2, .pt 64 0 0)], [(64, some (.box (cD (d103 x))))], 304⟩ ?_
   refine X.seq ?_
   refine sk ⟨[(1, iV r2), (2, .pt 64 0 0), (17, bV (decide ((r2 : Int) < 0)))], [(64, some (.box (cD (d103 x))))], 336⟩ ?_
   refine if_ (b := decide ((r2 : Int) < 0)) (fun hb5 => ?_) (fun hb5 => ?_)
   ·replace hb5 := of_decide_eq_true (hb5)
    refine sk ⟨[(4, iV (-1))], [], 352⟩ ?_
    refine X.ret ?_
    exact ⟨trivial, _, _, ⟨(-1), ⟨by omega, by omega, fun h => by first | omega | exact ⟨m3, m4, m5, m6, m8, m9⟩⟩, rfl, rfl⟩, mkr⟩
   ·replace hb5 := of_decide_eq_false (hb5)
    refine X.skip ?_
    refine X.seq ?_
    have m4 := hz2 (by omega)
    have hw5 := hw.2.2.2.2.2.1
    refine rs 3 ?_
    obtain ⟨r6, hr8, hf7⟩ := l_szTc x.f5 r2 (by assumption) (by first | omega | assumption)
    obtain ⟨hz1, hz0, hz2⟩ := hr8
    refine ca hf7 Tryz.func13 ?_
    refine go 1 ?_
    refine ek ⟨[(1, iV r6), (2, .pt 64 0 0)], [(64, some (.box (cD (d103 x))))], 416⟩ ?_
    refine X.seq ?_
    refine sk ⟨[(1, iV r6), (2, .pt 64 0 0), (23, bV (decide ((r6 : Int) < 0)))], [(64, some (.box (cD (d103 x))))], 448⟩ ?_
    refine if_ (b := decide ((r6 : Int) < 0)) (fun hb9 => ?_) (fun hb9 => ?_)
    ·replace hb9 := of_decide_eq_true (hb9)
     refine sk ⟨[(4, iV (-1))], [], 464⟩ ?_
     refine X.ret ?_
     exact ⟨trivial, _, _, ⟨(-1), ⟨by omega, by omega, fun h => by first | omega | exact ⟨m3, m4, m5, m6, m8, m9⟩⟩, rfl, rfl⟩, mkr⟩
    ·replace hb9 := of_decide_eq_false (hb9)
     refine X.skip ?_
     refine X.seq ?_
     have m5 := hz2 (by omega)
     have hw6 := hw.2.2.2.2.2.2.1
     refine rs 3 ?_
     obtain ⟨r10, hr12, hf11⟩ := l_szTxS x.f6 r6 (by assumption) (by first | omega | assumption)
     obtain ⟨hz1, hz0, hz2⟩ := hr12
     refine ca hf11 Tryz.func17 ?_
     refine go 1 ?_
     refine ek ⟨[(1, iV r10), (2, .pt 64 0 0)], [(64, some (.box (cD (d103 x))))], 528⟩ ?_
     refine X.seq ?_
     refine sk ⟨[(1, iV r10), (2, .pt 64 0 0), (29, bV (decide ((r10 : Int) < 0)))], [(64, some (.box (cD (d103 x))))], 560⟩ ?_
     refine if_ (b := decide ((r10 : Int) < 0)) (fun hb13 => ?_) (fun hb13 => ?_)
     ·replace hb13 := of_decide_eq_true (hb13)
      refine sk ⟨[(4, iV (-1))], [], 576⟩ ?_
      refine X.ret ?_
      exact ⟨trivial, _, _, ⟨(-1), ⟨by omega, by omega, fun h => by first | omega | exact ⟨m3, m4, m5, m6, m8, m9⟩⟩, rfl, rfl⟩, mkr⟩
     ·replace hb13 := of_decide_eq_false (hb13)
      refine X.skip ?_
      refine X.seq ?_
      have m6 := hz2 (by omega)
      have hw8 := hw.2.2.2.2.2.2.2.2.1
      refine rs 3 ?_
      obtain ⟨r14, hr16, hf15⟩ := l_szValS x.f8 r10 (by assumption) (by first | omega | assumption)
      obtain ⟨hz1, hz0, hz2⟩ := hr16
      refine ca hf15 Tryz.func10 ?_
      refine go 1 ?_
      refine ek ⟨[(1, iV r14), (2, .pt 64 0 0)], [(64, some (.box (cD (d103 x))))], 640⟩ ?_
      refine X.seq ?_
      refine sk ⟨[(1, iV r14), (2, .pt 64 0 0), (35, bV (decide ((r14 : Int) < 0)))], [(64, some (.box (cD (d103 x))))], 672⟩ ?_
      refine if_ (b := decide ((r14 : Int) < 0)) (fun hb17 => ?_) (fun hb17 => ?_)
      ·replace hb17 := of_decide_eq_true (hb17)
       refine sk ⟨[(4, iV (-1))], [], 688⟩ ?_
       refine X.ret ?_
       exact ⟨trivial, _, _, ⟨(-1), ⟨by omega, by omega, fun h => by first | omega | exact ⟨m3, m4, m5, m6, m8, m9⟩⟩, rfl, rfl⟩, mkr⟩
      ·replace hb17 := of_decide_eq_false (hb17)
       refine X.skip ?_
       refine X.seq ?_
       have m8 := hz2 (by omega)
       have hs9 : x.f9.size ≤ 9223372036854775807 := hw.2.2.2.2.2.2.2.2.2
       refine X.rk ⟨[(1, iV (wrap64 (r14 - (x.f9.size : Int))))], [], 768⟩ hτ hmix (by kernel_rfl) (by kernel_rfl) (s2 := ⟨[(1, iV (r14 - (x.f9.size : Int)))], [], 768⟩) (congrArg (fun z : Int => (⟨[(1, iV z)], [], 768⟩ : St)) (show wrap64 (r14 - (x.f9.size : Int)) = (r14 - (x.f9.size : Int)) by rw [w64 (n := (r14 - (x.f9.size : Int))) (by omega) (by omega)])) ?_
       refine X.seq ?_
       refine sk ⟨[(1, iV (r14 - (x.f9.size : Int))), (42, bV (decide (((r14 - (x.f9.size : Int)) : Int) < 0)))], [], 800⟩ ?_
       refine if_ (b := decide (((r14 - (x.f9.size : Int)) : Int) < 0)) (fun hb18 => ?_) (fun hb18 => ?_)
       ·replace hb18 := of_decide_eq_true (hb18)
        refine sk ⟨[(4, iV (-1))], [], 816⟩ ?_
        refine X.ret ?_
        exact ⟨trivial, _, _, ⟨(-1), ⟨by omega, by omega, fun h => by first | omega | exact ⟨m3, m4, m5, m6, m8, m9⟩⟩, rfl, rfl⟩, mkr⟩
       ·replace hb18 := of_decide_eq_false (hb18)
        refine X.skip ?_
        refine X.seq ?_
        have m9 : SmS x.f9 := (by show _ ≤ 2000000; omega)
        refine rk ⟨[(4, iV (r14 - (x.f9.size : Int)))], [], 832⟩ ?_
        refine X.ret ?_
        exact ⟨trivial, _, _, ⟨(r14 - (x.f9.size : Int)), ⟨by omega, by omega, fun h => by first | omega | exact ⟨m3, m4, m5, m6, m8, m9⟩⟩, rfl, rfl⟩, mkr⟩
 obtain ⟨_, _, ⟨r0, h1_, rfl, rfl⟩, hf⟩ := key
 exact ⟨r0, h1_, hf⟩

theorem l_szBlockS (l : List S103) (n : Int) (hw : l.length ≤ maxLen ∧ ∀ y ∈ l, w103 y) (hn : 0 ≤ n ∧ n ≤ 2000000) : ∃ r0 : Int, (r0 ≤ n ∧ -1 ≤ r0 ∧ (0 ≤ r0 → (SmL (l.map toBlock)))) ∧ Fn Tryz.prog 11 [lV (l.map d103), iV n] (lookH []) (iV r0) (lookH []) := by
 have key : ∃ x' h', ((fun x' h' => ∃ r0 : Int, (r0 ≤ n ∧ -1 ≤ r0 ∧ (0 ≤ r0 → (SmL (l.map toBlock)))) ∧ x' = iV r0 ∧ h' = [])) x' h' ∧ Fn Tryz.prog 11 [lV (l.map d103), iV n] (lookH []) x' (lookH h') := by
  refine Fn.bodyX (N := 27) hτ Tryz.func11 rfl rfl rfl rfl ?_
  refine sk ⟨[(0, lV (l.map d103)), (1, iV n)], [], 80⟩ ?_
  refine X.seq ?_
  have hsl : l.length ≤ 9223372036854775807 := hw.1
  have el1 : (l.map d103).length = l.length := List.length_map ..
  refine X.rk ⟨[(0, lV (l.map d103)), (1, iV (wrap64 (n - ((l.map d103).length : Int))))], [], 160⟩ hτ hmix (by kernel_rfl) (by kernel_rfl) (s2 := ⟨[(0, lV (l.map d103)), (1, iV (n - ((l.map d103).length : Int)))], [], 160⟩) (congrArg (fun z : Int => (⟨[(0, lV (l.map d103)), (1, iV z)], [], 160⟩ : St)) (show wrap64 (n - ((l.map d103).length : Int)) = (n - ((l.map d103).length : Int)) by rw [w64 (n := (n - ((l.map d103).length : Int))) (by omega) (by omega)])) ?_
  refine X.seq ?_
  refine sk ⟨[(0, lV (l.map d103)), (1, iV (n - ((l.map d103).length : Int))), (11, bV (decide (((n - ((l.map d103).length : Int)) : Int) < 0)))], [], 192⟩ ?_
  refine if_ (b := decide (((n - ((l.map d103).length : Int)) : Int) < 0)) (fun hb2 => ?_) (fun hb2 => ?_)
  ·replace hb2 := of_decide_eq_true (hb2)
   refine sk ⟨[(4, iV (-1))], [], 208⟩ ?_
   refine X.ret ?_
   exact ⟨trivial, _, _, ⟨(-1), ⟨by omega, by omega, fun h => by first | omega | exact ⟨by rw [List.length_map]; omega, fun y hy => by obtain ⟨x, hx, rfl⟩ := List.mem_map.1 hy; exact mem_upto hA (by omega) x hx⟩⟩, rfl, rfl⟩, mkr⟩
  ·replace hb2 := of_decide_eq_false (hb2)
   refine X.skip ?_
   refine X.seq ?_
   refine sk ⟨[(0, lV (l.map d103)), (1, iV (n - ((l.map d103).length : Int))), (5, iV 0)], [], 208⟩ ?_
   refine X.block ?_
   -- 5: v1 : Int, v5 : Int
   refine X.loop (σ := { g : Int × Int // (fun (v1 : Int) (v5 : Int) => 0 ≤ v5 ∧ v5 ≤ l.length ∧ 0 ≤ v1 ∧ v1 ≤ n - l.length ∧ Upto (fun _ y => Sm73 (toBlock y)) (fun n => l[n]?) v5) g.1 g.2 }) (fun g => (fun (v1 : Int) (v5 : Int) => ⟨[(0, lV (l.map d103)), (1, iV v1), (5, iV v5)], [], 208⟩) g.1.1 g.1.2) (fun g => (fun (v1 : Int) (v5 : Int) => (l.length - v5).toNat) g.1.1 g.1.2) ⟨((n - ((l.map d103).length : Int)), 0), ⟨by first | omega | (dsimp only; omega), by first | omega | (dsimp only; omega), by first | omega | (dsimp only; omega), by simp only [List.length_map]; omega, upto_zero⟩⟩ (Wk.less (by kernel_rfl)) (fun g => ?_)
   obtain ⟨⟨v1, v5⟩, hg4⟩ := g
   have hg4 : 0 ≤ v5 ∧ v5 ≤ l.length ∧ 0 ≤ v1 ∧ v1 ≤ n - l.length ∧ Upto (fun _ y => Sm73 (toBlock y)) (fun n => l[n]?) v5 := hg4
   obtain ⟨_, _, _, _, hA⟩ := hg4
   refine X.seq ?_
   refine sk ⟨[(0, lV (l.map d103)), (1, iV v1), (5, iV v5), (15, bV (decide ((v5 : Int) < ((l.map d103).length : Int))))], [], 272⟩ ?_
   refine if_ (b := decide ((v5 : Int) < ((l.map d103).length : Int))) (fun hb5 => ?_) (fun hb5 => ?_)
   ·replace hb5 := of_decide_eq_true (hb5)
    refine X.skip ?_
    refine X.seq ?_
    refine X.block ?_
    refine X.seq (rs 2 ?_)
    obtain ⟨x6, hx6⟩ : ∃ x, l[Int.toNat v5]? = some x := ⟨_, List.getElem?_eq_getElem (by first | omega | (simp; done) | (simp; omega))⟩
    refine CH.idx hτ (d103 x6) (rows := (l.map d103)) (n := v5) (sz := 14) (by kernel_rfl) (by kernel_rfl) (by first | omega | (simp; done) | (simp; omega)) (by rw [List.getElem?_map, hx6]; rfl) (by kernel_rfl) ?_
    refine go 2 ?_
    obtain ⟨r7, hr9, hf8⟩ := l_szBlock x6 v1 (by exact hw.2 _ (List.mem_of_getElem? ‹_›)) (by omega)
    obtain ⟨hz1, hz0, hz2⟩ := hr9
    refine ca hf8 Tryz.func57 ?_
    refine go 1 ?_
    refine ek ⟨[(0, lV (l.map d103)), (1, iV r7), (5, iV v5)], [], 384⟩ ?_
    refine sk ⟨[(0, lV (l.map d103)), (1, iV r7), (5, iV v5), (25, bV (decide ((r7 : Int) < 0)))], [], 416⟩ ?_
    refine if_ (b := decide ((r7 : Int) < 0)) (fun hb10 => ?_) (fun hb10 => ?_)
    ·replace hb10 := of_decide_eq_true (hb10)
     refine sk ⟨[(4, iV (-1))], [], 432⟩ ?_
     refine X.ret ?_
     exact ⟨trivial, _, _, ⟨(-1), ⟨by omega, by omega, fun h => by first | omega | exact ⟨by rw [List.length_map]; omega, fun y hy => by obtain ⟨x, hx, rfl⟩ := List.mem_map.1 hy; exact mem_upto hA (by omega) x hx⟩⟩, rfl, rfl⟩, mkr⟩
    ·replace hb10 := of_decide_eq_false (hb10)
     refine X.skip ?_
     refine X.rk ⟨[(0, lV (l.map d103)), (1, iV r7), (5, iV (wrap64 (v5 + 1)))], [], 464⟩ hτ hmix (by kernel_rfl) (by kernel_rfl) (s2 := ⟨[(0, lV (l.map d103)), (1, iV r7), (5, iV (v5 + 1))], [], 464⟩) (congrArg (fun z : Int => (⟨[(0, lV (l.map d103)), (1, iV r7), (5, iV z)], [], 464⟩ : St)) (show wrap64 (v5 + 1) = (v5 + 1) by rw [w64 (n := (v5 + 1)) (by omega) (by omega)])) ?_
     refine ⟨⟨(r7, (v5 + 1)), ⟨by first | omega | (dsimp only; omega), by first | omega | (dsimp only; omega), by first | omega | (dsimp only; omega), by first | omega | (dsimp only; omega), upto_nx (by first | omega | (dsimp only; omega)) hA ‹_› (hz2 (by first | omega | (dsimp only; omega)))⟩⟩, by first | exact rfl | omega | (dsimp only; omega) | (simp only [List.length_append, List.length_cons, List.length_nil, List.length_set]; omega) | (simp; done) | (simp; omega), Wk.mk' [] (by kernel_rfl) (by kernel_rfl) (by kernel_rfl)⟩
   ·replace hb5 := of_decide_eq_false (hb5)
    refine X.exit ?_
    refine sk ⟨[(4, iV v1)], [], 304⟩ ?_
    refine X.ret ?_
    exact ⟨trivial, _, _, ⟨v1, ⟨by omega, by omega, fun h => by first | omega | exact ⟨by rw [List.length_map]; omega, fun y hy => by obtain ⟨x, hx, rfl⟩ := List.mem_map.1 hy; exact mem_upto hA (by omega) x hx⟩⟩, rfl, rfl⟩, mkr⟩
 obtain ⟨_, _, ⟨r0, h1_, rfl, rfl⟩, hf⟩ := key
 exact ⟨r0, h1_, hf⟩
end Go.Proofs.YtpegmlbbeookbaaGreat.Av
