/-
What functions of the program come to, walked one by one.
Conditions: none beside those that each theorem names.
-/
import Derived.Test.YtggmeldoecnkaaaAvL
import Derived.Test.YtggmeldoecnkaaaAv26
import Derived.Test.YtggmeldoecnkaaaAvO
set_option linter.unusedVariables false
set_option linter.unusedSimpArgs false
namespace Go.Proofs.Ytggmeldoecnkaaa.Av
open Go.RowKit
set_option maxRecDepth 20000
set_option maxHeartbeats 4000000

def toTx (x : S100) : S35 := ⟨x.f0, x.f1, x.f2, x.f3, x.f4⟩
theorem ts_next {α β : Type} {f : α → β} {l : List α} {L : List β} {i : Int} {x : α} (hA : ∀ (j : Nat) (x : α), (j : Int) < i → l[j]? = some x → L[j]? = some (f x)) (h0 : 0 ≤ i) (hl : i < (L.length : Int)) (hx : l[i.toNat]? = some x) : ∀ (j : Nat) (y : α), (j : Int) < i + 1 → l[j]? = some y → (L.set i.toNat (f x))[j]? = some (f y) := by
  intro j y hj hy
  rw [List.getElem?_set]
  by_cases q : i.toNat = j
  · subst q
    rw [hx] at hy
    cases hy
    rw [if_pos rfl, if_pos (by omega)]
  · rw [if_neg q]
    exact hA j y (by omega) hy
theorem ts_end {α β : Type} {f : α → β} {l : List α} {L : List β} {i : Int} (hA : ∀ (j : Nat) (x : α), (j : Int) < i → l[j]? = some x → L[j]? = some (f x)) (hL : L.length = l.length) (hi : (l.length : Int) ≤ i) : L = l.map f := by
  apply List.ext_getElem?
  intro j
  rw [List.getElem?_map]
  rcases Nat.lt_or_ge j l.length with h | h
  · have hx := List.getElem?_eq_getElem h
    rw [hx, hA j _ (by omega) hx]
    rfl
  · rw [List.getElem?_eq_none (by omega), List.getElem?_eq_none h]
    rfl
theorem set_get {α : Type} {L : List α} {n : Nat} {x y : α} (h : (L.set n y)[n]? = some x) : x = y := by
  rw [List.getElem?_set] at h
  split at h
  · split at h
    · exact (Option.some.inj h).symm
    · cases h
  · exact absurd rfl ‹_›
theorem set_all {α : Type} {P : Int → α → Prop} {L : List α} {i : Int} {y : α} (hA : Upto P (fun n => L[n]?) i) (h0 : 0 ≤ i) (hy : P i y) : Upto P (fun n => (L.set i.toNat y)[n]?) (i + 1) := by
  intro j x h1 h2 hx
  have hx : (L.set i.toNat y)[j.toNat]? = some x := hx
  by_cases q : j = i
  · subst q
    rw [set_get hx]
    exact hy
  · rw [List.getElem?_set, if_neg (by omega)] at hx
    exact hA j x h1 (by omega) hx
theorem l_szTx (x : S100) (n : Int) (hw : w100 x) (hn : 0 ≤ n ∧ n ≤ 2000000) : ∃ r0 : Int, (r0 ≤ n ∧ -1 ≤ r0 ∧ (0 ≤ r0 → Sm35 (toTx x))) ∧ Fn Try.prog 51 [.e (.agg (cD (d100 x))), iV n] (lookH []) (iV r0) (lookH []) := by
 have key : ∃ x' h', ((fun x' h' => ∃ r0 : Int, (r0 ≤ n ∧ -1 ≤ r0 ∧ (0 ≤ r0 → Sm35 (toTx x))) ∧ x' = iV r0 ∧ h' = [])) x' h' ∧ Fn Try.prog 51 [.e (.agg (cD (d100 x))), iV n] (lookH []) x' (lookH h') := by
  refine Fn.bodyX (N := 20) hτ Try.func51 rfl rfl rfl rfl ?_
  refine sk ⟨[(1, iV n), (2, .pt 64 0 0)], [(64, some (.box (cD (d100 x))))], 96⟩ ?_
  refine X.seq ?_
  have hs1 : x.f1.size ≤ 9223372036854775807 := hw.2.1
  have hs2 : x.f2.size ≤ 9223372036854775807 := hw.2.2.1
  refine X.rk ⟨[(1, iV (wrap64 (n - (x.f1.size : Int)))), (2, .pt 64 0 0)], [(64, some (.box (cD (d100 x))))], 192⟩ hτ hmix (by kernel_rfl) (by kernel_rfl) (s2 := ⟨[(1, iV (n - (x.f1.size : Int))), (2, .pt 64 0 0)], [(64, some (.box (cD (d100 x))))], 192⟩) (congrArg (fun z : Int => (⟨[(1, iV z), (2, .pt 64 0 0)], [(64, some (.box (cD (d100 x))))], 192⟩ : St)) (show wrap64 (n - (x.f1.size : Int)) = (n - (x.f1.size : Int)) by rw [w64 (n := (n - (x.f1.size : Int))) (by omega) (by omega)])) ?_
  refine X.seq ?_
  refine sk ⟨[(1, iV (n - (x.f1.size : Int))), (2, .pt 64 0 0), (11, bV (decide (((n - (x.f1.size : Int)) : Int) < 0)))], [(64, some (.box (cD (d100 x))))], 224⟩ ?_
  refine if_ (b := decide (((n - (x.f1.size : Int)) : Int) < 0)) (fun hb1 => ?_) (fun hb1 => ?_)
  ·replace hb1 := of_decide_eq_true (hb1)
   refine sk ⟨[(4, iV (-1))], [], 240⟩ ?_
   refine X.ret ?_
   exact ⟨trivial, _, _, ⟨(-1), ⟨by omega, by omega, fun h => by first | omega | exact ⟨by show x.f1.size ≤ 2000000; omega, by show x.f2.size ≤ 2000000; omega⟩⟩, rfl, rfl⟩, mkr⟩
  ·replace hb1 := of_decide_eq_false (hb1)
   refine X.skip ?_
   refine X.seq ?_
   refine X.rk ⟨[(1, iV (wrap64 ((n - (x.f1.size : Int)) - (x.f2.size : Int))))], [], 320⟩ hτ hmix (by kernel_rfl) (by kernel_rfl) (s2 := ⟨[(1, iV ((n - (x.f1.size : Int)) - (x.f2.size : Int)))], [], 320⟩) (congrArg (fun z : Int => (⟨[(1, iV z)], [], 320⟩ : St)) (show wrap64 ((n - (x.f1.size : Int)) - (x.f2.size : Int)) = ((n - (x.f1.size : Int)) - (x.f2.size : Int)) by rw [w64 (n := ((n - (x.f1.size : Int)) - (x.f2.size : Int))) (by omega) (by omega)])) ?_
   refine X.seq ?_
   refine sk ⟨[(1, iV ((n - (x.f1.size : Int)) - (x.f2.size : Int))), (18, bV (decide ((((n - (x.f1.size : Int)) - (x.f2.size : Int)) : Int) < 0)))], [], 352⟩ ?_
   refine if_ (b := decide ((((n - (x.f1.size : Int)) - (x.f2.size : Int)) : Int) < 0)) (fun hb2 => ?_) (fun hb2 => ?_)
   ·replace hb2 := of_decide_eq_true (hb2)
    refine sk ⟨[(4, iV (-1))], [], 368⟩ ?_
    refine X.ret ?_
    exact ⟨trivial, _, _, ⟨(-1), ⟨by omega, by omega, fun h => by first | omega | exact ⟨by show x.f1.size ≤ 2000000; omega, by show x.f2.size ≤ 2000000; omega⟩⟩, rfl, rfl⟩, mkr⟩
   ·replace hb2 := of_decide_eq_false (hb2)
    refine X.skip ?_
    refine sk ⟨[(4, iV ((n - (x.f1.size : Int)) - (x.f2.size : Int)))], [], 384⟩ ?_
    refine X.ret ?_
    exact ⟨trivial, _, _, ⟨((n - (x.f1.size : Int)) - (x.f2.size : Int)), ⟨by omega, by omega, fun h => by first | omega | exact ⟨by show x.f1.size ≤ 2000000; omega, by show x.f2.size ≤ 2000000; omega⟩⟩, rfl, rfl⟩, mkr⟩
 obtain ⟨_, _, ⟨r0, h1_, rfl, rfl⟩, hf⟩ := key
 exact ⟨r0, h1_, hf⟩

theorem l_szTxS (l : List S100) (n : Int) (hw : l.length ≤ maxLen ∧ ∀ y ∈ l, w100 y) (hn : 0 ≤ n ∧ n ≤ 2000000) : ∃ r0 : Int, (r0 ≤ n ∧ -1 ≤ r0 ∧ (0 ≤ r0 → SmT (l.map toTx) ∧ r0 + l.length ≤ n)) ∧ Fn Try.prog 14 [lV (l.map d100), iV n] (lookH []) (iV r0) (lookH []) := by
 have key : ∃ x' h', ((fun x' h' => ∃ r0 : Int, (r0 ≤ n ∧ -1 ≤ r0 ∧ (0 ≤ r0 → SmT (l.map toTx) ∧ r0 + l.length ≤ n)) ∧ x' = iV r0 ∧ h' = [])) x' h' ∧ Fn Try.prog 14 [lV (l.map d100), iV n] (lookH []) x' (lookH h') := by
  refine Fn.bodyX (N := 27) hτ Try.func14 rfl rfl rfl rfl ?_
  refine sk ⟨[(0, lV (l.map d100)), (1, iV n)], [], 80⟩ ?_
  refine X.seq ?_
  have hs1 : l.length ≤ 9223372036854775807 := hw.1
  have el1 : (l.map d100).length = l.length := List.length_map ..
  refine X.rk ⟨[(0, lV (l.map d100)), (1, iV (wrap64 (n - ((l.map d100).length : Int))))], [], 160⟩ hτ hmix (by kernel_rfl) (by kernel_rfl) (s2 := ⟨[(0, lV (l.map d100)), (1, iV (n - ((l.map d100).length : Int)))], [], 160⟩) (congrArg (fun z : Int => (⟨[(0, lV (l.map d100)), (1, iV z)], [], 160⟩ : St)) (show wrap64 (n - ((l.map d100).length : Int)) = (n - ((l.map d100).length : Int)) by rw [w64 (n := (n - ((l.map d100).length : Int))) (by omega) (by omega)])) ?_
  refine X.seq ?_
  refine sk ⟨[(0, lV (l.map d100)), (1, iV (n - ((l.map d100).length : Int))), (11, bV (decide (((n - ((l.map d100).length : Int)) : Int) < 0)))], [], 192⟩ ?_
  refine if_ (b := decide (((n - ((l.map d100).length : Int)) : Int) < 0)) (fun hb2 => ?_) (fun hb2 => ?_)
  ·replace hb2 := of_decide_eq_true (hb2)
   refine sk ⟨[(4, iV (-1))], [], 208⟩ ?_
   refine X.ret ?_
   exact ⟨trivial, _, _, ⟨(-1), ⟨by omega, by omega, fun h => by first | omega | exact ⟨⟨by rw [List.length_map]; omega, fun y hy => by obtain ⟨x, hx, rfl⟩ := List.mem_map.1 hy; exact mem_upto hA (by omega) x hx⟩, by omega⟩⟩, rfl, rfl⟩, mkr⟩
  ·replace hb2 := of_decide_eq_false (hb2)
   refine X.skip ?_
   refine X.seq ?_
   refine sk ⟨[(0, lV (l.map d100)), (1, iV (n - ((l.map d100).length : Int))), (5, iV 0)], [], 208⟩ ?_
   refine X.block ?_
   -- 5: v1 : Int, v5 : Int
   refine X.loop (σ := { g : Int × Int // (fun (v1 : Int) (v5 : Int) => 0 ≤ v5 ∧ v5 ≤ l.length ∧ 0 ≤ v1 ∧ v1 ≤ n - l.length ∧ Upto (fun _ y => Sm35 (toTx y)) (fun n => l[n]?) v5) g.1 g.2 }) (fun g => (fun (v1 : Int) (v5 : Int) => ⟨[(0, lV (l.map d100)), (1, iV v1), (5, iV v5)], [], 208⟩) g.1.1 g.1.2) (fun g => (fun (v1 : Int) (v5 : Int) => (l.length - v5).toNat) g.1.1 g.1.2) ⟨((n - ((l.map d100).length : Int)), 0), ⟨by first | omega | (dsimp only; omega), by first | omega | (dsimp only; omega), by first | omega | (dsimp only; omega), by simp only [List.length_map]; omega, upto_zero⟩⟩ (Wk.less (by kernel_rfl)) (fun g => ?_)
   obtain ⟨⟨v1, v5⟩, hg4⟩ := g
   have hg4 : 0 ≤ v5 ∧ v5 ≤ l.length ∧ 0 ≤ v1 ∧ v1 ≤ n - l.length ∧ Upto (fun _ y => Sm35 (toTx y)) (fun n => l[n]?) v5 := hg4
   obtain ⟨_, _, _, _, hA⟩ := hg4
   refine X.seq ?_
   refine sk ⟨[(0, lV (l.map d100)), (1, iV v1), (5, iV v5), (15, bV (decide ((v5 : Int) < ((l.map d100).length : Int))))], [], 272⟩ ?_
   refine if_ (b := decide ((v5 : Int) < ((l.map d100).length : Int))) (fun hb5 => ?_) (fun hb5 => ?_)
   ·replace hb5 := of_decide_eq_true (hb5)
    refine X.skip ?_
    refine X.seq ?_
    refine X.block ?_
    refine X.seq (rs 2 ?_)
    obtain ⟨x6, hx6⟩ : ∃ x, l[Int.toNat v5]? = some x := ⟨_, List.getElem?_eq_getElem (by first | omega | (simp; done) | (simp; omega))⟩
    refine CH.idx hτ (d100 x6) (rows := (l.map d100)) (n := v5) (sz := 5) (by kernel_rfl) (by kernel_rfl) (by first | omega | (simp; done) | (simp; omega)) (by rw [List.getElem?_map, hx6]; rfl) (by kernel_rfl) ?_
    refine go 2 ?_
    obtain ⟨r7, hr9, hf8⟩ := l_szTx x6 v1 (by exact hw.2 _ (List.mem_of_getElem? ‹_›)) (by omega)
    obtain ⟨hz1, hz0, hz2⟩ := hr9
    refine ca hf8 Try.func51 ?_
    refine go 1 ?_
    refine ek ⟨[(0, lV (l.map d100)), (1, iV r7), (5, iV v5)], [], 384⟩ ?_
    refine sk ⟨[(0, lV (l.map d100)), (1, iV r7), (5, iV v5), (25, bV (decide ((r7 : Int) < 0)))], [], 416⟩ ?_
    refine if_ (b := decide ((r7 : Int) < 0)) (fun hb10 => ?_) (fun hb10 => ?_)
    ·replace hb10 := of_decide_eq_true (hb10)
     refine sk ⟨[(4, iV (-1))], [], 432⟩ ?_
     refine X.ret ?_
     exact ⟨trivial, _, _, ⟨(-1), ⟨by omega, by omega, fun h => by first | omega | exact ⟨⟨by rw [List.length_map]; omega, fun y hy => by obtain ⟨x, hx, rfl⟩ := List.mem_map.1 hy; exact mem_upto hA (by omega) x hx⟩, by omega⟩⟩, rfl, rfl⟩, mkr⟩
    ·replace hb10 := of_decide_eq_false (hb10)
     refine X.skip ?_
     refine X.rk ⟨[(0, lV (l.map d100)), (1, iV r7), (5, iV (wrap64 (v5 + 1)))], [], 464⟩ hτ hmix (by kernel_rfl) (by kernel_rfl) (s2 := ⟨[(0, lV (l.map d100)), (1, iV r7), (5, iV (v5 + 1))], [], 464⟩) (congrArg (fun z : Int => (⟨[(0, lV (l.map d100)), (1, iV r7), (5, iV z)], [], 464⟩ : St)) (show wrap64 (v5 + 1) = (v5 + 1) by rw [w64 (n := (v5 + 1)) (by omega) (by omega)])) ?_
     refine ⟨⟨(r7, (v5 + 1)), ⟨by first | omega | (dsimp only; omega), by first | omega | (dsimp only; omega), by first | omega | (dsimp only; omega), by first | omega | (dsimp only; omega), upto_nx (by first | omega | (dsimp only; omega)) hA ‹_› (hz2 (by first | omega | (dsimp only; omega)))⟩⟩, by first | exact rfl | omega | (dsimp only; omega) | (simp only [List.length_append, List.length_cons, List.length_nil, List.length_set]; omega) | (simp; done) | (simp; omega), Wk.mk' [] (by kernel_rfl) (by kernel_rfl) (by kernel_rfl)⟩
   ·replace hb5 := of_decide_eq_false (hb5)
    refine X.exit ?_
    refine sk ⟨[(4, iV v1)], [], 304⟩ ?_
    refine X.ret ?_
    exact ⟨trivial, _, _, ⟨v1, ⟨by omega, by omega, fun h => by first | omega | exact ⟨⟨by rw [List.length_map]; omega, fun y hy => by obtain ⟨x, hx, rfl⟩ := List.mem_map.1 hy; exact mem_upto hA (by omega) x hx⟩, by omega⟩⟩, rfl, rfl⟩, mkr⟩
 obtain ⟨_, _, ⟨r0, h1_, rfl, rfl⟩, hf⟩ := key
 exact ⟨r0, h1_, hf⟩

theorem l_toTx (x : S100) : ∃ r0 : S35, (r0 = toTx x) ∧ Fn Try.prog 54 [.e (.agg (cD (d100 x)))] (lookH []) (.e (.agg [.d (.v (.int .i64 r0.f0)), .d (.v (.string r0.f1)), .d (.v (.string r0.f2)), .d (.v (.int .i64 r0.f3)), .d (.v (.int .i64 r0.f4))])) (lookH []) := by
 have key : ∃ x' h', ((fun x' h' => ∃ r0 : S35, (r0 = toTx x) ∧ x' = .e (.agg [.d (.v (.int .i64 r0.f0)), .d (.v (.string r0.f1)), .d (.v (.string r0.f2)), .d (.v (.int .i64 r0.f3)), .d (.v (.int .i64 r0.f4))]) ∧ h' = [])) x' h' ∧ Fn Try.prog 54 [.e (.agg (cD (d100 x)))] (lookH []) x' (lookH h') := by
  refine Fn.bodyX (N := 20) hτ Try.func54 rfl rfl rfl rfl ?_
  refine sk ⟨[(1, .pt 64 0 0), (2, .pt 80 0 0)], [(64, some (.box (cD (d100 x)))), (80, some (.box [.d (.v (.int .i64 0)), .d (.v (.string (⟨#[]⟩ : ByteArray))), .d (.v (.string (⟨#[]⟩ : ByteArray))), .d (.v (.int .i64 0)), .d (.v (.int .i64 0))]))], 96⟩ ?_
  refine sk ⟨[(1, .pt 64 0 0), (2, .pt 80 0 0), (3, .pt 96 0 0)], [(64, some (.box (cD (d100 x)))), (80, some (.box [.d (.v (.int .i64 0)), .d (.v (.string (⟨#[]⟩ : ByteArray))), .d (.v (.string (⟨#[]⟩ : ByteArray))), .d (.v (.int .i64 0)), .d (.v (.int .i64 0))])), (96, some (.box [.d (.v (.int .i64 0)), .d (.v (.string (⟨#[]⟩ : ByteArray))), .d (.v (.string (⟨#[]⟩ : ByteArray))), .d (.v (.int .i64 0)), .d (.v (.int .i64 0))]))], 112⟩ ?_
  refine sk ⟨[(1, .pt 64 0 0), (2, .pt 80 0 0), (3, .pt 96 0 0)], [(64, some (.box (cD (d100 x)))), (80, some (.box [.d (.v (.int .i64 0)), .d (.v (.string (⟨#[]⟩ : ByteArray))), .d (.v (.string (⟨#[]⟩ : ByteArray))), .d (.v (.int .i64 0)), .d (.v (.int .i64 0))])), (96, some (.box [.d (.v (.int .i64 x.f0)), .d (.v (.string (⟨#[]⟩ : ByteArray))), .d (.v (.string (⟨#[]⟩ : ByteArray))), .d (.v (.int .i64 0)), .d (.v (.int .i64 0))]))], 176⟩ ?_
  refine sk ⟨[(1, .pt 64 0 0), (2, .pt 80 0 0), (3, .pt 96 0 0)], [(64, some (.box (cD (d100 x)))), (80, some (.box [.d (.v (.int .i64 0)), .d (.v (.string (⟨#[]⟩ : ByteArray))), .d (.v (.string (⟨#[]⟩ : ByteArray))), .d (.v (.int .i64 0)), .d (.v (.int .i64 0))])), (96, some (.box [.d (.v (.int .i64 x.f0)), .d (.v (.string x.f1)), .d (.v (.string (⟨#[]⟩ : ByteArray))), .d (.v (.int .i64 0)), .d (.v (.int .i64 0))]))], 240⟩ ?_
  refine sk ⟨[(1, .pt 64 0 0), (2, .pt 80 0 0), (3, .pt 96 0 0)], [(64, some (.box (cD (d100 x)))), (80, some (.box [.d (.v (.int .i64 0)), .d (.v (.string (⟨#[]⟩ : ByteArray))), .d (.v (.string (⟨#[]⟩ : ByteArray))), .d (.v (.int .i64 0)), .d (.v (.int .i64 0))])), (96, some (.box [.d (.v (.int .i64 x.f0)), .d (.v (.string x.f1)), .d (.v (.string x.f2)), .d (.v (.int .i64 0)), .d (.v (.int .i64 0))]))], 304⟩ ?_
  refine sk ⟨[(1, .pt 64 0 0), (2, .pt 80 0 0), (3, .pt 96 0 0)], [(64, some (.box (cD (d100 x)))), (80, some (.box [.d (.v (.int .i64 0)), .d (.v (.string (⟨#[]⟩ : ByteArray))), .d (.v (.string (⟨#[]⟩ : ByteArray))), .d (.v (.int .i64 0)), .d (.v (.int .i64 0))])), (96, some (.box [.d (.v (.int .i64 x.f0)), .d (.v (.string x.f1)), .d (.v (.string x.f2)), .d (.v (.int .i64 x.f3)), .d (.v (.int .i64 0))]))], 368⟩ ?_
  refine sk ⟨[(2, .pt 80 0 0), (3, .pt 96 0 0)], [(80, some (.box [.d (.v (.int .i64 0)), .d (.v (.string (⟨#[]⟩ : ByteArray))), .d (.v (.string (⟨#[]⟩ : ByteArray))), .d (.v (.int .i64 0)), .d (.v (.int .i64 0))])), (96, some (.box (cD (d100 x))))], 432⟩ ?_
  refine sk ⟨[(2, .pt 80 0 0)], [(80, some (.box (cD (d100 x))))], 464⟩ ?_
  refine X.ret ?_
  exact ⟨trivial, _, _, ⟨(⟨x.f0, x.f1, x.f2, x.f3, x.f4⟩ : S35), rfl, rfl, rfl⟩, mkr⟩
 obtain ⟨_, _, ⟨r0, h1_, rfl, rfl⟩, hf⟩ := key
 exact ⟨r0, h1_, hf⟩

theorem l_toTxS (l : List S100) (hl : l.length ≤ 2000000) : ∃ r0 : List S35, (r0 = l.map toTx) ∧ Fn Try.prog 17 [lV (l.map d100)] (lookH []) (rV 64) (lookH [(64, some (.row 5 35 (r0.map d35) false true))]) := by
 have key : ∃ x' h', ((fun x' h' => ∃ r0 : List S35, (r0 = l.map toTx) ∧ x' = rV 64 ∧ h' = [(64, some (.row 5 35 (r0.map d35) false true))])) x' h' ∧ Fn Try.prog 17 [lV (l.map d100)] (lookH []) x' (lookH h') := by
  refine Fn.bodyX (N := 23) hτ Try.func17 rfl rfl rfl rfl ?_
  refine sk ⟨[(0, lV (l.map d100))], [], 80⟩ ?_
  refine X.seq ?_
  have el1 : (l.map d100).length = l.length := List.length_map ..
  refine rs 2 ?_
  refine CH.mks hτ (n := (l.map d100).length) (bys := 56) (by kernel_rfl) (by kernel_rfl) (by first | omega | (simp only [List.length_map]; omega) | (simp; omega)) (by first | omega | (simp only [List.length_map]; omega) | (simp; omega)) (by kernel_rfl) ?_
  refine go 1 ?_
  refine CH.endk ⟨[(0, lV (l.map d100)), (3, rV 112)], [(112, some (.row 5 35 (List.replicate ((l.map d100).length) (d35 z35)) false true))], 144⟩ (by kernel_rfl) (by kernel_rfl) (s2 := ⟨[(0, lV (l.map d100)), (3, rV 112)], [(112, some (.row 5 35 ((List.replicate ((l.map d100).length) z35).map d35) false true))], 144⟩) (congrArg (fun z : List (List D) => (⟨[(0, lV (l.map d100)), (3, rV 112)], [(112, some (.row 5 35 z false true))], 144⟩ : St)) (show List.replicate ((l.map d100).length) (d35 z35) = ((List.replicate ((l.map d100).length) z35).map d35) from List.map_replicate.symm)) ?_
  refine X.seq ?_
  refine sk ⟨[(0, lV (l.map d100)), (3, rV 112), (4, iV 0)], [(112, some (.row 5 35 ((List.replicate ((l.map d100).length) z35).map d35) false true))], 160⟩ ?_
  refine X.block ?_
  -- 3: Lv3 : List S35, v4 : Int
  refine X.loop (σ := { g : (List S35) × Int // (fun (Lv3 : List S35) (v4 : Int) => 0 ≤ v4 ∧ v4 ≤ l.length ∧ Lv3.length = l.length ∧ ∀ (j : Nat) (x : S100), (j : Int) < v4 → l[j]? = some x → Lv3[j]? = some (toTx x)) g.1 g.2 }) (fun g => (fun (Lv3 : List S35) (v4 : Int) => ⟨[(0, lV (l.map d100)), (3, rV 112), (4, iV v4)], [(112, some (.row 5 35 (Lv3.map d35) false true))], 160⟩) g.1.1 g.1.2) (fun g => (fun (Lv3 : List S35) (v4 : Int) => (l.length - v4).toNat) g.1.1 g.1.2) ⟨((List.replicate ((l.map d100).length) z35), 0), ⟨by first | omega | (dsimp only; omega), by first | omega | (dsimp only; omega), by simp, fun j x h => by first | omega | (dsimp only; omega)⟩⟩ (Wk.less (by kernel_rfl)) (fun g => ?_)
  obtain ⟨⟨Lv3, v4⟩, hg3⟩ := g
  have hg3 : 0 ≤ v4 ∧ v4 ≤ l.length ∧ Lv3.length = l.length ∧ ∀ (j : Nat) (x : S100), (j : Int) < v4 → l[j]? = some x → Lv3[j]? = some (toTx x) := hg3
  obtain ⟨_, _, hL, hA⟩ := hg3
  refine X.seq ?_
  refine sk ⟨[(0, lV (l.map d100)), (3, rV 112), (4, iV v4), (11, bV (decide ((v4 : Int) < ((l.map d100).length : Int))))], [(112, some (.row 5 35 (Lv3.map d35) false true))], 224⟩ ?_
  refine if_ (b := decide ((v4 : Int) < ((l.map d100).length : Int))) (fun hb4 => ?_) (fun hb4 => ?_)
  ·replace hb4 := of_decide_eq_true (hb4)
   refine X.skip ?_
   refine X.seq ?_
   refine X.block ?_
   refine rs 4 ?_
   obtain ⟨x5, hx5⟩ : ∃ x, l[Int.toNat v4]? = some x := ⟨_, List.getElem?_eq_getElem (by first | omega | (simp; done) | (simp; omega))⟩
   refine CH.idx hτ (d100 x5) (rows := (l.map d100)) (n := v4) (sz := 5) (by kernel_rfl) (by kernel_rfl) (by first | omega | (simp; done) | (simp; omega)) (by rw [List.getElem?_map, hx5]; rfl) (by kernel_rfl) ?_
   refine go 1 ?_
   obtain ⟨r6, hr8, hf7⟩ := l_toTx x5
   replace hr8 := hr8.symm; subst hr8
   refine ca hf7 Try.func54 ?_
   refine CH.idxR hτ (rows := (Lv3.map d35)) (n := v4) (b := 112) (by kernel_rfl) (by kernel_rfl) (by first | omega | (simp; done) | (simp; omega)) (by simp only [List.length_map, List.length_set]; first | omega | (simp; done) | (simp; omega)) (by kernel_rfl) ?_
   obtain ⟨x10, hx10⟩ : ∃ x, Lv3[Int.toNat v4]? = some x := ⟨_, List.getElem?_eq_getElem (by first | omega | (simp; done) | (simp; omega))⟩
   refine CH.row hτ (d35 x10) (by kernel_rfl) (by kernel_rfl) (by rw [List.getElem?_map, hx10]; rfl) (by kernel_rfl) ?_
   refine CH.endk ⟨[(0, lV (l.map d100)), (3, rV 112), (4, iV v4)], [(112, some (.row 5 35 ((Lv3.map d35).set (Int.toNat v4) (d35 ((toTx x5)))) false true))], 368⟩ (by kernel_rfl) (by kernel_rfl) (s2 := ⟨[(0, lV (l.map d100)), (3, rV 112), (4, iV v4)], [(112, some (.row 5 35 ((Lv3.set (Int.toNat v4) ((toTx x5))).map d35) false true))], 368⟩) (congrArg (fun z : List (List D) => (⟨[(0, lV (l.map d100)), (3, rV 112), (4, iV v4)], [(112, some (.row 5 35 z false true))], 368⟩ : St)) (show ((Lv3.map d35).set (Int.toNat v4) (d35 ((toTx x5)))) = ((Lv3.set (Int.toNat v4) ((toTx x5))).map d35) from List.map_set.symm)) ?_
   refine X.rk ⟨[(0, lV (l.map d100)), (3, rV 112), (4, iV (wrap64 (v4 + 1)))], [(112, some (.row 5 35 ((Lv3.set (Int.toNat v4) ((toTx x5))).map d35) false true))], 416⟩ hτ hmix (by kernel_rfl) (by kernel_rfl) (s2 := ⟨[(0, lV (l.map d100)), (3, rV 112), (4, iV (v4 + 1))], [(112, some (.row 5 35 ((Lv3.set (Int.toNat v4) ((toTx x5))).map d35) false true))], 416⟩) (congrArg (fun z : Int => (⟨[(0, lV (l.map d100)), (3, rV 112), (4, iV z)], [(112, some (.row 5 35 ((Lv3.set (Int.toNat v4) ((toTx x5))).map d35) false true))], 416⟩ : St)) (show wrap64 (v4 + 1) = (v4 + 1) by rw [w64 (n := (v4 + 1)) (by omega) (by omega)])) ?_
   refine ⟨⟨((Lv3.set (Int.toNat v4) ((toTx x5))), (v4 + 1)), ⟨by first | omega | (dsimp only; omega), by first | omega | (dsimp only; omega), by simp; omega, ts_next hA (by first | omega | (dsimp only; omega)) (by first | omega | (dsimp only; omega)) ‹_›⟩⟩, by first | exact rfl | omega | (dsimp only; omega) | (simp only [List.length_append, List.length_cons, List.length_nil, List.length_set]; omega) | (simp; done) | (simp; omega), Wk.mk' [(112, 112)] (by kernel_rfl) (by kernel_rfl) (by kernel_rfl)⟩
  ·replace hb4 := of_decide_eq_false (hb4)
   refine X.exit ?_
   refine sk ⟨[(2, rV 112)], [(112, some (.row 5 35 (Lv3.map d35) false true))], 256⟩ ?_
   refine X.ret ?_
   exact ⟨trivial, _, _, ⟨Lv3, ts_end hA hL (by omega), rfl, rfl⟩, .inl (Ret.mk' [(64, 112)] (by kernel_rfl) (by kernel_rfl) (by kernel_rfl))⟩
 obtain ⟨_, _, ⟨r0, h1_, rfl, rfl⟩, hf⟩ := key
 exact ⟨r0, h1_, hf⟩

theorem l_eqTx (a : S35) (b : S35) : ∃ r0 : Bool, (r0 = sm35 a b) ∧ Fn Try.prog 56 [.e (.agg (cD (d35 a))), .e (.agg (cD (d35 b)))] (lookH []) (bV r0) (lookH []) := by
 have key : ∃ x' h', ((fun x' h' => ∃ r0 : Bool, (r0 = sm35 a b) ∧ x' = bV r0 ∧ h' = [])) x' h' ∧ Fn Try.prog 56 [.e (.agg (cD (d35 a))), .e (.agg (cD (d35 b)))] (lookH []) x' (lookH h') := by
  refine Fn.bodyX (N := 30) hτ Try.func56 rfl rfl rfl rfl ?_
  refine sk ⟨[(2, .pt 64 0 0), (3, .pt 80 0 0)], [(64, some (.box (cD (d35 a)))), (80, some (.box (cD (d35 b))))], 112⟩ ?_
  refine X.seq ?_
  refine sk ⟨[(2, .pt 64 0 0), (3, .pt 80 0 0), (9, bV (a.f0 != b.f0))], [(64, some (.box (cD (d35 a)))), (80, some (.box (cD (d35 b))))], 192⟩ ?_
  refine if_ (b := (a.f0 != b.f0)) (fun hb1 => ?_) (fun hb1 => ?_)
  ·replace hb1 := bne_iff_ne.1 (hb1)
   refine sk ⟨[(4, bV false)], [], 208⟩ ?_
   refine X.ret ?_
   exact ⟨trivial, _, _, ⟨false, (by simp_all [sm35]), rfl, rfl⟩, mkr⟩
  ·replace hb1 := bne_eq_false_iff_eq.1 (hb1)
   refine X.skip ?_
   refine X.seq ?_
   refine sk ⟨[(2, .pt 64 0 0), (3, .pt 80 0 0), (14, bV (!(a.f1.toList == b.f1.toList)))], [(64, some (.box (cD (d35 a)))), (80, some (.box (cD (d35 b))))], 272⟩ ?_
   refine if_ (b := !(a.f1.toList == b.f1.toList)) (fun hb2 => ?_) (fun hb2 => ?_)
   ·replace hb2 := beq_no (bnot_yes (hb2))
    refine sk ⟨[(4, bV false)], [], 288⟩ ?_
    refine X.ret ?_
    exact ⟨trivial, _, _, ⟨false, (by simp_all [sm35]), rfl, rfl⟩, mkr⟩
   ·replace hb2 := beq_yes (bnot_no (hb2))
    refine X.skip ?_
    refine X.seq ?_
    refine sk ⟨[(2, .pt 64 0 0), (3, .pt 80 0 0), (19, bV (!(a.f2.toList == b.f2.toList)))], [(64, some (.box (cD (d35 a)))), (80, some (.box (cD (d35 b))))], 352⟩ ?_
    refine if_ (b := !(a.f2.toList == b.f2.toList)) (fun hb3 => ?_) (fun hb3 => ?_)
    ·replace hb3 := beq_no (bnot_yes (hb3))
     refine sk ⟨[(4, bV false)], [], 368⟩ ?_
     refine X.ret ?_
     exact ⟨trivial, _, _, ⟨false, (by simp_all [sm35]), rfl, rfl⟩, mkr⟩
    ·replace hb3 := beq_yes (bnot_no (hb3))
     refine X.skip ?_
     refine X.seq ?_
     refine sk ⟨[(2, .pt 64 0 0), (3, .pt 80 0 0), (24, bV (a.f3 != b.f3))], [(64, some (.box (cD (d35 a)))), (80, some (.box (cD (d35 b))))], 432⟩ ?_
     refine if_ (b := (a.f3 != b.f3)) (fun hb4 => ?_) (fun hb4 => ?_)
     ·replace hb4 := bne_iff_ne.1 (hb4)
      refine sk ⟨[(4, bV false)], [], 448⟩ ?_
      refine X.ret ?_
      exact ⟨trivial, _, _, ⟨false, (by simp_all [sm35]), rfl, rfl⟩, mkr⟩
     ·replace hb4 := bne_eq_false_iff_eq.1 (hb4)
      refine X.skip ?_
      refine X.seq ?_
      refine sk ⟨[(29, bV (a.f4 != b.f4))], [], 512⟩ ?_
      refine if_ (b := (a.f4 != b.f4)) (fun hb5 => ?_) (fun hb5 => ?_)
      ·replace hb5 := bne_iff_ne.1 (hb5)
       refine sk ⟨[(4, bV false)], [], 528⟩ ?_
       refine X.ret ?_
       exact ⟨trivial, _, _, ⟨false, (by simp_all [sm35]), rfl, rfl⟩, mkr⟩
      ·replace hb5 := bne_eq_false_iff_eq.1 (hb5)
       refine X.skip ?_
       refine sk ⟨[(4, bV true)], [], 528⟩ ?_
       refine X.ret ?_
       exact ⟨trivial, _, _, ⟨true, (by simp_all [sm35]), rfl, rfl⟩, mkr⟩
 obtain ⟨_, _, ⟨r0, h1_, rfl, rfl⟩, hf⟩ := key
 exact ⟨r0, h1_, hf⟩

theorem l_eqTxS (l : List S35) (m : List S35) (hl : l.length ≤ 2000000) (hm : m.length ≤ 2000000) : ∃ r0 : Bool, (r0 = allEq l m) ∧ Fn Try.prog 19 [lV (l.map d35), lV (m.map d35)] (lookH []) (bV r0) (lookH []) := by
 have key : ∃ x' h', ((fun x' h' => ∃ r0 : Bool, (r0 = allEq l m) ∧ x' = bV r0 ∧ h' = [])) x' h' ∧ Fn Try.prog 19 [lV (l.map d35), lV (m.map d35)] (lookH []) x' (lookH h') := by
  refine Fn.bodyX (N := 27) hτ Try.func19 rfl rfl rfl rfl ?_
  refine sk ⟨[(0, lV (l.map d35)), (1, lV (m.map d35))], [], 80⟩ ?_
  refine X.seq ?_
  refine X.seq ?_
  have el1 : (l.map d35).length = l.length := List.length_map ..
  have el2 : (m.map d35).length = m.length := List.length_map ..
  refine rk ⟨[(0, lV (l.map d35)), (1, lV (m.map d35)), (10, bV (((l.map d35).length : Int) != ((m.map d35).length : Int)))], [], 160⟩ ?_
  refine if_ (b := (((l.map d35).length : Int) != ((m.map d35).length : Int))) (fun hb3 => ?_) (fun hb3 => ?_)
  ·replace hb3 := bne_iff_ne.1 (hb3)
   refine sk ⟨[(4, bV false)], [], 176⟩ ?_
   refine X.ret ?_
   exact ⟨trivial, _, _, ⟨false, (by first | exact fls (fun h => by have := congrArg List.length h; omega) | exact fls (eq_no ‹_› ‹_› ‹_›) | exact tru (eq_all hA (by omega) (by omega))), rfl, rfl⟩, mkr⟩
  ·replace hb3 := bne_eq_false_iff_eq.1 (hb3)
   refine X.skip ?_
   refine X.seq ?_
   refine sk ⟨[(0, lV (l.map d35)), (1, lV (m.map d35)), (5, iV 0)], [], 176⟩ ?_
   refine X.block ?_
   -- 4: v5 : Int
   refine X.loop (σ := { g : Int // (fun (v5 : Int) => 0 ≤ v5 ∧ v5 ≤ l.length ∧ Upto (fun j x => m[j.toNat]? = some x) (fun n => l[n]?) v5) g }) (fun g => (fun (v5 : Int) => ⟨[(0, lV (l.map d35)), (1, lV (m.map d35)), (5, iV v5)], [], 176⟩) g.1) (fun g => (fun (v5 : Int) => (l.length - v5).toNat) g.1) ⟨0, ⟨by first | omega | (dsimp only; omega), by first | omega | (dsimp only; omega), upto_zero⟩⟩ (Wk.less (by kernel_rfl)) (fun g => ?_)
   obtain ⟨v5, hg5⟩ := g
   have hg5 : 0 ≤ v5 ∧ v5 ≤ l.length ∧ Upto (fun j x => m[j.toNat]? = some x) (fun n => l[n]?) v5 := hg5
   obtain ⟨_, _, hA⟩ := hg5
   refine X.seq ?_
   refine sk ⟨[(0, lV (l.map d35)), (1, lV (m.map d35)), (5, iV v5), (14, bV (decide ((v5 : Int) < ((l.map d35).length : Int))))], [], 240⟩ ?_
   refine if_ (b := decide ((v5 : Int) < ((l.map d35).length : Int))) (fun hb6 => ?_) (fun hb6 => ?_)
   ·replace hb6 := of_decide_eq_true (hb6)
    refine X.skip ?_
    refine X.seq ?_
    refine X.block ?_
    refine X.seq (rs 2 ?_)
    obtain ⟨x7, hx7⟩ : ∃ x, l[Int.toNat v5]? = some x := ⟨_, List.getElem?_eq_getElem (by first | omega | (simp; done) | (simp; omega))⟩
    refine CH.idx hτ (d35 x7) (rows := (l.map d35)) (n := v5) (sz := 5) (by kernel_rfl) (by kernel_rfl) (by first | omega | (simp; done) | (simp; omega)) (by rw [List.getElem?_map, hx7]; rfl) (by kernel_rfl) ?_
    refine go 3 ?_
    obtain ⟨x8, hx8⟩ : ∃ x, m[Int.toNat v5]? = some x := ⟨_, List.getElem?_eq_getElem (by first | omega | (simp; done) | (simp; omega))⟩
    refine CH.idx hτ (d35 x8) (rows := (m.map d35)) (n := v5) (sz := 5) (by kernel_rfl) (by kernel_rfl) (by first | omega | (simp; done) | (simp; omega)) (by rw [List.getElem?_map, hx8]; rfl) (by kernel_rfl) ?_
    refine go 1 ?_
    obtain ⟨r9, hr11, hf10⟩ := l_eqTx x7 x8
    replace hr11 := hr11.symm; subst hr11
    refine ca hf10 Try.func56 ?_
    refine go 1 ?_
    refine ek ⟨[(0, lV (l.map d35)), (1, lV (m.map d35)), (5, iV v5), (26, bV (!(sm35 x7 x8)))], [], 400⟩ ?_
    refine if_ (b := !(sm35 x7 x8)) (fun hb13 => ?_) (fun hb13 => ?_)
    ·replace hb13 := sm_no sm35_iff (bnot_yes (hb13))
     refine sk ⟨[(4, bV false)], [], 416⟩ ?_
     refine X.ret ?_
     exact ⟨trivial, _, _, ⟨false, (by first | exact fls (fun h => by have := congrArg List.length h; omega) | exact fls (eq_no ‹_› ‹_› ‹_›) | exact tru (eq_all hA (by omega) (by omega))), rfl, rfl⟩, mkr⟩
    ·replace hb13 := (sm35_iff _ _).1 (bnot_no (hb13))
     refine X.skip ?_
     refine X.rk ⟨[(0, lV (l.map d35)), (1, lV (m.map d35)), (5, iV (wrap64 (v5 + 1)))], [], 448⟩ hτ hmix (by kernel_rfl) (by kernel_rfl) (s2 := ⟨[(0, lV (l.map d35)), (1, lV (m.map d35)), (5, iV (v5 + 1))], [], 448⟩) (congrArg (fun z : Int => (⟨[(0, lV (l.map d35)), (1, lV (m.map d35)), (5, iV z)], [], 448⟩ : St)) (show wrap64 (v5 + 1) = (v5 + 1) by rw [w64 (n := (v5 + 1)) (by omega) (by omega)])) ?_
     refine ⟨⟨(v5 + 1), ⟨by first | omega | (dsimp only; omega), by first | omega | (dsimp only; omega), upto_nx (by first | omega | (dsimp only; omega)) hA ‹_› (eq_stp ‹_› ‹_›)⟩⟩, by first | exact rfl | omega | (dsimp only; omega) | (simp only [List.length_append, List.length_cons, List.length_nil, List.length_set]; omega) | (simp; done) | (simp; omega), Wk.mk' [] (by kernel_rfl) (by kernel_rfl) (by kernel_rfl)⟩
   ·replace hb6 := of_decide_eq_false (hb6)
    refine X.exit ?_
    refine sk ⟨[(4, bV true)], [], 256⟩ ?_
    refine X.ret ?_
    exact ⟨trivial, _, _, ⟨true, (by first | exact fls (fun h => by have := congrArg List.length h; omega) | exact fls (eq_no ‹_› ‹_› ‹_›) | exact tru (eq_all hA (by omega) (by omega))), rfl, rfl⟩, mkr⟩
 obtain ⟨_, _, ⟨r0, h1_, rfl, rfl⟩, hf⟩ := key
 exact ⟨r0, h1_, hf⟩

theorem l_markText0 (k : Int) (hk : k ≤ 1000000000) : ∃ r0 : ByteArray, (True) ∧ Fn Try.prog 58 [iV k] (lookH []) (.e (.c (.d (.v (.string r0))))) (lookH []) := by
 have key : ∃ x' h', ((fun x' h' => ∃ r0 : ByteArray, (True) ∧ x' = .e (.c (.d (.v (.string r0)))) ∧ h' = [])) x' h' ∧ Fn Try.prog 58 [iV k] (lookH []) x' (lookH h') := by
  refine Fn.bodyX (N := 20) hτ Try.func58 rfl rfl rfl rfl ?_
  refine sk ⟨[(0, iV k)], [], 80⟩ ?_
  refine X.seq ?_
  refine sk ⟨[(0, iV k), (5, bV (decide ((k : Int) ≤ 0)))], [], 112⟩ ?_
  refine if_ (b := decide ((k : Int) ≤ 0)) (fun hb1 => ?_) (fun hb1 => ?_)
  ·replace hb1 := of_decide_eq_true (hb1)
   refine sk ⟨[(2, .e (.c (.d (.v (.string (⟨#[109, 48]⟩ : ByteArray))))))], [], 128⟩ ?_
   refine X.ret ?_
   exact ⟨trivial, _, _, ⟨(⟨#[109, 48]⟩ : ByteArray), trivial, rfl, rfl⟩, mkr⟩
  ·replace hb1 := of_decide_eq_false (hb1)
   refine X.skip ?_
   refine X.seq ?_
   have hk0 := (‹¬ k ≤ 0›)
   refine rk ⟨[(0, iV k), (3, .e (.c (.d (.v (.string (⟨#[]⟩ : ByteArray))))))], [], 128⟩ ?_
   refine X.seq ?_
   refine X.block ?_
   -- 4: v0 : Int, v3 : ByteArray
   refine X.loop (σ := { g : Int × ByteArray // (fun (v0 : Int) (v3 : ByteArray) => 0 ≤ v0 ∧ v0 ≤ 1000000000 ∧ v3.size + (v0).toNat ≤ 1000000000) g.1 g.2 }) (fun g => (fun (v0 : Int) (v3 : ByteArray) => ⟨[(0, iV v0), (3, .e (.c (.d (.v (.string v3)))))], [], 128⟩) g.1.1 g.1.2) (fun g => (fun (v0 : Int) (v3 : ByteArray) => (v0).toNat) g.1.1 g.1.2) ⟨(k, (⟨#[]⟩ : ByteArray)), ⟨by first | omega | (dsimp only; omega), by first | omega | (dsimp only; omega), by show (0 : Nat) + _ ≤ _; omega⟩⟩ (Wk.less (by kernel_rfl)) (fun g => ?_)
   obtain ⟨⟨v0, v3⟩, hg3⟩ := g
   have hg3 : 0 ≤ v0 ∧ v0 ≤ 1000000000 ∧ v3.size + (v0).toNat ≤ 1000000000 := hg3
   obtain ⟨_, _, hsz⟩ := hg3
   refine X.seq ?_
   refine sk ⟨[(0, iV v0), (3, .e (.c (.d (.v (.string v3))))), (7, bV (decide ((v0 : Int) > 0)))], [], 160⟩ ?_
   refine if_ (b := decide ((v0 : Int) > 0)) (fun hb4 => ?_) (fun hb4 => ?_)
   ·replace hb4 := of_decide_eq_true (hb4)
    refine X.skip ?_
    refine X.block ?_
    refine X.seq ?_
    have ft5 := tmod_lt v0 10 (by first | omega | (simp; done) | (simp; omega)) (by omega)
    have fe6 := Int.tmod_eq_emod_of_nonneg (a := v0) (b := 10) (by first | omega | (simp; done) | (simp; omega))
    refine rs 5 ?_
    refine CH.b2s hτ (cc := .ref 224) (ns := ([wr .u8 (wr .i64 (48 + (Int.tmod v0 10)))] : List Int)) (el := 5) (by kernel_rfl) (by kernel_rfl) Try.underlying5 ?_
    refine go 1 ?_
    refine CH.cat (a := (strOf ([wr .u8 (wr .i64 (48 + (Int.tmod v0 10)))] : List Int))) (b := v3) (by kernel_rfl) (by kernel_rfl) (by simp only [strOf_size, List.length_cons, List.length_nil]; omega) ?_
    refine go 1 ?_
    refine ek ⟨[(0, iV v0), (3, .e (.c (.d (.v (.string ((strOf ([wr .u8 (wr .i64 (48 + (Int.tmod v0 10)))] : List Int)) ++ v3))))))], [], 304⟩ ?_
    have htd := tdiv10 v0 (by omega)
    have ft7 := tdiv_le v0 10 (by first | omega | (simp; done) | (simp; omega)) (by omega)
    refine X.rk ⟨[(0, iV (wrap64 (Int.tdiv v0 10))), (3, .e (.c (.d (.v (.string ((strOf ([wr .u8 (wr .i64 (48 + (Int.tmod v0 10)))] : List Int)) ++ v3))))))], [], 352⟩ hτ hmix (by kernel_rfl) (by kernel_rfl) (s2 := ⟨[(0, iV (Int.tdiv v0 10)), (3, .e (.c (.d (.v (.string ((strOf ([wr .u8 (wr .i64 (48 + (Int.tmod v0 10)))] : List Int)) ++ v3))))))], [], 352⟩) (congrArg (fun z : Int => (⟨[(0, iV z), (3, .e (.c (.d (.v (.string ((strOf ([wr .u8 (wr .i64 (48 + (Int.tmod v0 10)))] : List Int)) ++ v3))))))], [], 352⟩ : St)) (show wrap64 (Int.tdiv v0 10) = (Int.tdiv v0 10) by rw [w64 (n := (Int.tdiv v0 10)) (by omega) (by omega)])) ?_
    refine ⟨⟨((Int.tdiv v0 10), ((strOf ([wr .u8 (wr .i64 (48 + (Int.tmod v0 10)))] : List Int)) ++ v3)), ⟨by first | omega | (dsimp only; omega), by first | omega | (dsimp only; omega), by simp only [ByteArray.size_append, strOf_size, List.length_cons, List.length_nil]; (first | omega | (dsimp only; omega))⟩⟩, by first | exact rfl | omega | (dsimp only; omega) | (simp only [List.length_append, List.length_cons, List.length_nil, List.length_set]; omega) | (simp; done) | (simp; omega), Wk.mk' [] (by kernel_rfl) (by kernel_rfl) (by kernel_rfl)⟩
   ·replace hb4 := of_decide_eq_false (hb4)
    refine X.exit ?_
    refine X.seq (rs 1 ?_)
    refine CH.cat (a := (⟨#[109]⟩ : ByteArray)) (b := v3) (by kernel_rfl) (by kernel_rfl) (by (have : (⟨#[109]⟩ : ByteArray).size = 1 := rfl; omega)) ?_
    refine go 1 ?_
    refine ek ⟨[(2, .e (.c (.d (.v (.string ((⟨#[109]⟩ : ByteArray) ++ v3))))))], [], 208⟩ ?_
    refine X.ret ?_
    exact ⟨trivial, _, _, ⟨((⟨#[109]⟩ : ByteArray) ++ v3), trivial, rfl, rfl⟩, mkr⟩
 obtain ⟨_, _, ⟨r0, h1_, rfl, rfl⟩, hf⟩ := key
 exact ⟨r0, h1_, hf⟩

noncomputable def mt (k : Int) : ByteArray := if h : k ≤ 1000000000 then Classical.choose (l_markText0 k h) else ⟨#[]⟩
theorem l_markText (k : Int) (hk : k ≤ 1000000000) : ∃ r0 : ByteArray, r0 = mt k ∧ Fn Try.prog 58 [iV k] (lookH []) (.e (.c (.d (.v (.string r0))))) (lookH []) := ⟨_, rfl, by
  unfold mt
  rw [dif_pos hk]
  exact (Classical.choose_spec (l_markText0 k hk)).2⟩
def mkTx (k : Int) (j : Int) (x : S35) : Prop := x.f0 = k + 5 * j ∧ x.f1 = mt (k + 5 * j + 1) ∧ x.f2 = mt (k + 5 * j + 2) ∧ x.f3 = k + 5 * j + 3 ∧ x.f4 = k + 5 * j + 4

theorem l_markTxS (l : List S35) (k : Int) (hl : l.length ≤ 2000000) (hk : 0 ≤ k ∧ k ≤ 100000000) : ∃ r0 : Int, ∃ q0 : List S35, (q0.length = l.length ∧ r0 = k + 5 * l.length ∧ Upto (mkTx k) (fun n => q0[n]?) l.length) ∧ Fn Try.prog 21 [rV 0, iV k] (lookH [(0, some (.row 5 35 (l.map d35) false true))]) (iV r0) (lookH [(0, some (.row 5 35 (q0.map d35) false true))]) := by
 have key : ∃ x' h', ((fun x' h' => ∃ r0 : Int, ∃ q0 : List S35, (q0.length = l.length ∧ r0 = k + 5 * l.length ∧ Upto (mkTx k) (fun n => q0[n]?) l.length) ∧ x' = iV r0 ∧ h' = [(0, some (.row 5 35 (q0.map d35) false true))])) x' h' ∧ Fn Try.prog 21 [rV 0, iV k] (lookH [(0, some (.row 5 35 (l.map d35) false true))]) x' (lookH h') := by
  refine Fn.bodyX (N := 50) hτ Try.func21 rfl rfl rfl rfl ?_
  refine sk ⟨[(0, rV 0), (1, iV k)], [(0, some (.row 5 35 (l.map d35) false true))], 80⟩ ?_
  refine X.seq ?_
  refine sk ⟨[(0, rV 0), (1, iV k), (5, iV 0)], [(0, some (.row 5 35 (l.map d35) false true))], 96⟩ ?_
  refine X.block ?_
  -- 2: L0 : List S35, v1 : Int, v5 : Int
  refine X.loop (σ := { g : (List S35) × Int × Int // (fun (L0 : List S35) (v1 : Int) (v5 : Int) => 0 ≤ v5 ∧ v5 ≤ l.length ∧ v1 = k + 5 * v5 ∧ L0.length = l.length ∧ Upto (mkTx k) (fun n => L0[n]?) v5) g.1 g.2.1 g.2.2 }) (fun g => (fun (L0 : List S35) (v1 : Int) (v5 : Int) => ⟨[(0, rV 0), (1, iV v1), (5, iV v5)], [(0, some (.row 5 35 (L0.map d35) false true))], 96⟩) g.1.1 g.1.2.1 g.1.2.2) (fun g => (fun (L0 : List S35) (v1 : Int) (v5 : Int) => (l.length - v5).toNat) g.1.1 g.1.2.1 g.1.2.2) ⟨(l, k, 0), ⟨by first | omega | (dsimp only; omega), by first | omega | (dsimp only; omega), by first | omega | (dsimp only; omega), rfl, upto_zero⟩⟩ (Wk.less (by kernel_rfl)) (fun g => ?_)
  obtain ⟨⟨L0, v1, v5⟩, hg2⟩ := g
  have hg2 : 0 ≤ v5 ∧ v5 ≤ l.length ∧ v1 = k + 5 * v5 ∧ L0.length = l.length ∧ Upto (mkTx k) (fun n => L0[n]?) v5 := hg2
  obtain ⟨_, _, _, hL, hA⟩ := hg2
  refine X.seq ?_
  refine X.seq ?_
  have hlb : (l.map d35).length = l.length := List.length_map ..
  have el3 : (L0.map d35).length = L0.length := List.length_map ..
  refine rk ⟨[(0, rV 0), (1, iV v1), (5, iV v5), (9, bV (decide ((v5 : Int) < ((L0.map d35).length : Int))))], [(0, some (.row 5 35 (L0.map d35) false true))], 160⟩ ?_
  refine if_ (b := decide ((v5 : Int) < ((L0.map d35).length : Int))) (fun hb4 => ?_) (fun hb4 => ?_)
  ·replace hb4 := of_decide_eq_true (hb4)
   refine X.skip ?_
   refine X.seq ?_
   refine X.block ?_
   refine X.seq (rs 3 ?_)
   refine CH.idxR hτ (rows := (L0.map d35)) (n := v5) (b := 0) (by kernel_rfl) (by kernel_rfl) (by first | omega | (simp; done) | (simp; omega)) (by simp only [List.length_map, List.length_set]; first | omega | (simp; done) | (simp; omega)) (by kernel_rfl) ?_
   refine go 1 ?_
   obtain ⟨x5, hx5⟩ : ∃ x, L0[Int.toNat v5]? = some x := ⟨_, List.getElem?_eq_getElem (by first | omega | (simp; done) | (simp; omega))⟩
   refine CH.row hτ (d35 x5) (by kernel_rfl) (by kernel_rfl) (by rw [List.getElem?_map, hx5]; rfl) (by kernel_rfl) ?_
   refine CH.endk ⟨[(0, rV 0), (1, iV v1), (5, iV v5)], [(0, some (.row 5 35 ((L0.map d35).set (Int.toNat v5) (d35 (⟨v1, x5.f1, x5.f2, x5.f3, x5.f4⟩ : S35))) false true))], 256⟩ (by kernel_rfl) (by kernel_rfl) (s2 := ⟨[(0, rV 0), (1, iV v1), (5, iV v5)], [(0, some (.row 5 35 ((L0.set (Int.toNat v5) (⟨v1, x5.f1, x5.f2, x5.f3, x5.f4⟩ : S35)).map d35) false true))], 256⟩) (congrArg (fun z : List (List D) => (⟨[(0, rV 0), (1, iV v1), (5, iV v5)], [(0, some (.row 5 35 z false true))], 256⟩ : St)) (show ((L0.map d35).set (Int.toNat v5) (d35 (⟨v1, x5.f1, x5.f2, x5.f3, x5.f4⟩ : S35))) = ((L0.set (Int.toNat v5) (⟨v1, x5.f1, x5.f2, x5.f3, x5.f4⟩ : S35)).map d35) from List.map_set.symm)) ?_
   refine X.seq ?_
   refine X.rk ⟨[(0, rV 0), (1, iV (wrap64 (v1 + 1))), (5, iV v5)], [(0, some (.row 5 35 ((L0.set (Int.toNat v5) (⟨v1, x5.f1, x5.f2, x5.f3, x5.f4⟩ : S35)).map d35) false true))], 304⟩ hτ hmix (by kernel_rfl) (by kernel_rfl) (s2 := ⟨[(0, rV 0), (1, iV (v1 + 1)), (5, iV v5)], [(0, some (.row 5 35 ((L0.set (Int.toNat v5) (⟨v1, x5.f1, x5.f2, x5.f3, x5.f4⟩ : S35)).map d35) false true))], 304⟩) (congrArg (fun z : Int => (⟨[(0, rV 0), (1, iV z), (5, iV v5)], [(0, some (.row 5 35 ((L0.set (Int.toNat v5) (⟨v1, x5.f1, x5.f2, x5.f3, x5.f4⟩ : S35)).map d35) false true))], 304⟩ : St)) (show wrap64 (v1 + 1) = (v1 + 1) by rw [w64 (n := (v1 + 1)) (by omega) (by omega)])) ?_
   refine X.seq (rs 3 ?_)
   obtain ⟨r6, hr8, hf7⟩ := l_markText (v1 + 1) (by omega)
   replace hr8 := hr8.symm; subst hr8
   refine ca hf7 Try.func58 ?_
   refine CH.idxR hτ (rows := ((L0.set (Int.toNat v5) (⟨v1, x5.f1, x5.f2, x5.f3, x5.f4⟩ : S35)).map d35)) (n := v5) (b := 0) (by kernel_rfl) (by kernel_rfl) (by first | omega | (simp; done) | (simp; omega)) (by simp only [List.length_map, List.length_set]; first | omega | (simp; done) | (simp; omega)) (by kernel_rfl) ?_
   refine go 1 ?_
   obtain ⟨x10, hx10⟩ : ∃ x, (L0.set (Int.toNat v5) (⟨v1, x5.f1, x5.f2, x5.f3, x5.f4⟩ : S35))[Int.toNat v5]? = some x := ⟨_, List.getElem?_eq_getElem (by first | omega | (simp; done) | (simp; omega))⟩
   have qhx10 := set_get hx10
   refine CH.row hτ (d35 x10) (by kernel_rfl) (by kernel_rfl) (by rw [List.getElem?_map, hx10]; rfl) (by kernel_rfl) ?_
   refine CH.endk ⟨[(0, rV 0), (1, iV (v1 + 1)), (5, iV v5)], [(0, some (.row 5 35 (((L0.set (Int.toNat v5) (⟨v1, x5.f1, x5.f2, x5.f3, x5.f4⟩ : S35)).map d35).set (Int.toNat v5) (d35 (⟨x10.f0, (mt (v1 + 1)), x10.f2, x10.f3, x10.f4⟩ : S35))) false true))], 416⟩ (by kernel_rfl) (by kernel_rfl) (s2 := ⟨[(0, rV 0), (1, iV (v1 + 1)), (5, iV v5)], [(0, some (.row 5 35 (((L0.set (Int.toNat v5) (⟨v1, x5.f1, x5.f2, x5.f3, x5.f4⟩ : S35)).set (Int.toNat v5) (⟨x10.f0, (mt (v1 + 1)), x10.f2, x10.f3, x10.f4⟩ : S35)).map d35) false true))], 416⟩) (congrArg (fun z : List (List D) => (⟨[(0, rV 0), (1, iV (v1 + 1)), (5, iV v5)], [(0, some (.row 5 35 z false true))], 416⟩ : St)) (show (((L0.set (Int.toNat v5) (⟨v1, x5.f1, x5.f2, x5.f3, x5.f4⟩ : S35)).map d35).set (Int.toNat v5) (d35 (⟨x10.f0, (mt (v1 + 1)), x10.f2, x10.f3, x10.f4⟩ : S35))) = (((L0.set (Int.toNat v5) (⟨v1, x5.f1, x5.f2, x5.f3, x5.f4⟩ : S35)).set (Int.toNat v5) (⟨x10.f0, (mt (v1 + 1)), x10.f2, x10.f3, x10.f4⟩ : S35)).map d35) from List.map_set.symm)) ?_
   refine X.seq ?_
   refine X.rk ⟨[(0, rV 0), (1, iV (wrap64 ((v1 + 1) + 1))), (5, iV v5)], [(0, some (.row 5 35 (((L0.set (Int.toNat v5) (⟨v1, x5.f1, x5.f2, x5.f3, x5.f4⟩ : S35)).set (Int.toNat v5) (⟨x10.f0, (mt (v1 + 1)), x10.f2, x10.f3, x10.f4⟩ : S35)).map d35) false true))], 464⟩ hτ hmix (by kernel_rfl) (by kernel_rfl) (s2 := ⟨[(0, rV 0), (1, iV ((v1 + 1) + 1)), (5, iV v5)], [(0, some (.row 5 35 (((L0.set (Int.toNat v5) (⟨v1, x5.f1, x5.f2, x5.f3, x5.f4⟩ : S35)).set (Int.toNat v5) (⟨x10.f0, (mt (v1 + 1)), x10.f2, x10.f3, x10.f4⟩ : S35)).map d35) false true))], 464⟩) (congrArg (fun z : Int => (⟨[(0, rV 0), (1, iV z), (5, iV v5)], [(0, some (.row 5 35 (((L0.set (Int.toNat v5) (⟨v1, x5.f1, x5.f2, x5.f3, x5.f4⟩ : S35)).set (Int.toNat v5) (⟨x10.f0, (mt (v1 + 1)), x10.f2, x10.f3, x10.f4⟩ : S35)).map d35) false true))], 464⟩ : St)) (show wrap64 ((v1 + 1) + 1) = ((v1 + 1) + 1) by rw [w64 (n := ((v1 + 1) + 1)) (by omega) (by omega)])) ?_
   refine X.seq (rs 3 ?_)
   obtain ⟨r11, hr13, hf12⟩ := l_markText ((v1 + 1) + 1) (by omega)
   replace hr13 := hr13.symm; subst hr13
   refine ca hf12 Try.func58 ?_
   refine CH.idxR hτ (rows := (((L0.set (Int.toNat v5) (⟨v1, x5.f1, x5.f2, x5.f3, x5.f4⟩ : S35)).set (Int.toNat v5) (⟨x10.f0, (mt (v1 + 1)), x10.f2, x10.f3, x10.f4⟩ : S35)).map d35)) (n := v5) (b := 0) (by kernel_rfl) (by kernel_rfl) (by first | omega | (simp; done) | (simp; omega)) (by simp only [List.length_map, List.length_set]; first | omega | (simp; done) | (simp; omega)) (by kernel_rfl) ?_
   refine go 1 ?_
   obtain ⟨x15, hx15⟩ : ∃ x, ((L0.set (Int.toNat v5) (⟨v1, x5.f1, x5.f2, x5.f3, x5.f4⟩ : S35)).set (Int.toNat v5) (⟨x10.f0, (mt (v1 + 1)), x10.f2, x10.f3, x10.f4⟩ : S35))[Int.toNat v5]? = some x := ⟨_, List.getElem?_eq_getElem (by first | omega | (simp; done) | (simp; omega))⟩
   have qhx15 := set_get hx15
   refine CH.row hτ (d35 x15) (by kernel_rfl) (by kernel_rfl) (by rw [List.getElem?_map, hx15]; rfl) (by kernel_rfl) ?_
   refine CH.endk ⟨[(0, rV 0), (1, iV ((v1 + 1) + 1)), (5, iV v5)], [(0, some (.row 5 35 ((((L0.set (Int.toNat v5) (⟨v1, x5.f1, x5.f2, x5.f3, x5.f4⟩ : S35)).set (Int.toNat v5) (⟨x10.f0, (mt (v1 + 1)), x10.f2, x10.f3, x10.f4⟩ : S35)).map d35).set (Int.toNat v5) (d35 (⟨x15.f0, x15.f1, (mt ((v1 + 1) + 1)), x15.f3, x15.f4⟩ : S35))) false true))], 576⟩ (by kernel_rfl) (by kernel_rfl) (s2 := ⟨[(0, rV 0), (1, iV ((v1 + 1) + 1)), (5, iV v5)], [(0, some (.row 5 35 ((((L0.set (Int.toNat v5) (⟨v1, x5.f1, x5.f2, x5.f3, x5.f4⟩ : S35)).set (Int.toNat v5) (⟨x10.f0, (mt (v1 + 1)), x10.f2, x10.f3, x10.f4⟩ : S35)).set (Int.toNat v5) (⟨x15.f0, x15.f1, (mt ((v1 + 1) + 1)), x15.f3, x15.f4⟩ : S35)).map d35) false true))], 576⟩) (congrArg (fun z : List (List D) => (⟨[(0, rV 0), (1, iV ((v1 + 1) + 1)), (5, iV v5)], [(0, some (.row 5 35 z false true))], 576⟩ : St)) (show ((((L0.set (Int.toNat v5) (⟨v1, x5.f1, x5.f2, x5.f3, x5.f4⟩ : S35)).set (Int.toNat v5) (⟨x10.f0, (mt (v1 + 1)), x10.f2, x10.f3, x10.f4⟩ : S35)).map d35).set (Int.toNat v5) (d35 (⟨x15.f0, x15.f1, (mt ((v1 + 1) + 1)), x15.f3, x15.f4⟩ : S35))) = ((((L0.set (Int.toNat v5) (⟨v1, x5.f1, x5.f2, x5.f3, x5.f4⟩ : S35)).set (Int.toNat v5) (⟨x10.f0, (mt (v1 + 1)), x10.f2, x10.f3, x10.f4⟩ : S35)).set (Int.toNat v5) (⟨x15.f0, x15.f1, (mt ((v1 + 1) + 1)), x15.f3, x15.f4⟩ : S35)).map d35) from List.map_set.symm)) ?_
   refine X.seq ?_
   refine X.rk ⟨[(0, rV 0), (1, iV (wrap64 (((v1 + 1) + 1) + 1))), (5, iV v5)], [(0, some (.row 5 35 ((((L0.set (Int.toNat v5) (⟨v1, x5.f1, x5.f2, x5.f3, x5.f4⟩ : S35)).set (Int.toNat v5) (⟨x10.f0, (mt (v1 + 1)), x10.f2, x10.f3, x10.f4⟩ : S35)).set (Int.toNat v5) (⟨x15.f0, x15.f1, (mt ((v1 + 1) + 1)), x15.f3, x15.f4⟩ : S35)).map d35) false true))], 624⟩ hτ hmix (by kernel_rfl) (by kernel_rfl) (s2 := ⟨[(0, rV 0), (1, iV (((v1 + 1) + 1) + 1)), (5, iV v5)], [(0, some (.row 5 35 ((((L0.set (Int.toNat v5) (⟨v1, x5.f1, x5.f2, x5.f3, x5.f4⟩ : S35)).set (Int.toNat v5) (⟨x10.f0, (mt (v1 + 1)), x10.f2, x10.f3, x10.f4⟩ : S35)).set (Int.toNat v5) (⟨x15.f0, x15.f1, (mt ((v1 + 1) + 1)), x15.f3, x15.f4⟩ : S35)).map d35) false true))], 624⟩) (congrArg (fun z : Int => (⟨[(0, rV 0), (1, iV z), (5, iV v5)], [(0, some (.row 5 35 ((((L0.set (Int.toNat v5) (⟨v1, x5.f1, x5.f2, x5.f3, x5.f4⟩ : S35)).set (Int.toNat v5) (⟨x10.f0, (mt (v1 + 1)), x10.f2, x10.f3, x10.f4⟩ : S35)).set (Int.toNat v5) (⟨x15.f0, x15.f1, (mt ((v1 + 1) + 1)), x15.f3, x15.f4⟩ : S35)).map d35) false true))], 624⟩ : St)) (show wrap64 (((v1 + 1) + 1) + 1) = (((v1 + 1) + 1) + 1) by rw [w64 (n := (((v1 + 1) + 1) + 1)) (by omega) (by omega)])) ?_
   refine X.seq (rs 3 ?_)
   refine CH.idxR hτ (rows := ((((L0.set (Int.toNat v5) (⟨v1, x5.f1, x5.f2, x5.f3, x5.f4⟩ : S35)).set (Int.toNat v5) (⟨x10.f0, (mt (v1 + 1)), x10.f2, x10.f3, x10.f4⟩ : S35)).set (Int.toNat v5) (⟨x15.f0, x15.f1, (mt ((v1 + 1) + 1)), x15.f3, x15.f4⟩ : S35)).map d35)) (n := v5) (b := 0) (by kernel_rfl) (by kernel_rfl) (by first | omega | (simp; done) | (simp; omega)) (by simp only [List.length_map, List.length_set]; first | omega | (simp; done) | (simp; omega)) (by kernel_rfl) ?_
   refine go 1 ?_
   obtain ⟨x16, hx16⟩ : ∃ x, (((L0.set (Int.toNat v5) (⟨v1, x5.f1, x5.f2, x5.f3, x5.f4⟩ : S35)).set (Int.toNat v5) (⟨x10.f0, (mt (v1 + 1)), x10.f2, x10.f3, x10.f4⟩ : S35)).set (Int.toNat v5) (⟨x15.f0, x15.f1, (mt ((v1 + 1) + 1)), x15.f3, x15.f4⟩ : S35))[Int.toNat v5]? = some x := ⟨_, List.getElem?_eq_getElem (by first | omega | (simp; done) | (simp; omega))⟩
   have qhx16 := set_get hx16
   refine CH.row hτ (d35 x16) (by kernel_rfl) (by kernel_rfl) (by rw [List.getElem?_map, hx16]; rfl) (by kernel_rfl) ?_
   refine CH.endk ⟨[(0, rV 0), (1, iV (((v1 + 1) + 1) + 1)), (5, iV v5)], [(0, some (.row 5 35 (((((L0.set (Int.toNat v5) (⟨v1, x5.f1, x5.f2, x5.f3, x5.f4⟩ : S35)).set (Int.toNat v5) (⟨x10.f0, (mt (v1 + 1)), x10.f2, x10.f3, x10.f4⟩ : S35)).set (Int.toNat v5) (⟨x15.f0, x15.f1, (mt ((v1 + 1) + 1)), x15.f3, x15.f4⟩ : S35)).map d35).set (Int.toNat v5) (d35 (⟨x16.f0, x16.f1, x16.f2, (((v1 + 1) + 1) + 1), x16.f4⟩ : S35))) false true))], 720⟩ (by kernel_rfl) (by kernel_rfl) (s2 := ⟨[(0, rV 0), (1, iV (((v1 + 1) + 1) + 1)), (5, iV v5)], [(0, some (.row 5 35 (((((L0.set (Int.toNat v5) (⟨v1, x5.f1, x5.f2, x5.f3, x5.f4⟩ : S35)).set (Int.toNat v5) (⟨x10.f0, (mt (v1 + 1)), x10.f2, x10.f3, x10.f4⟩ : S35)).set (Int.toNat v5) (⟨x15.f0, x15.f1, (mt ((v1 + 1) + 1)), x15.f3, x15.f4⟩ : S35)).set (Int.toNat v5) (⟨x16.f0, x16.f1, x16.f2, (((v1 + 1) + 1) + 1), x16.f4⟩ : S35)).map d35) false true))], 720⟩) (congrArg (fun z : List (List D) => (⟨[(0, rV 0), (1, iV (((v1 + 1) + 1) + 1)), (5, iV v5)], [(0, some (.row 5 35 z false true))], 720⟩ : St)) (show (((((L0.set (Int.toNat v5) (⟨v1, x5.f1, x5.f2, x5.f3, x5.f4⟩ : S35)).set (Int.toNat v5) (⟨x10.f0, (mt (v1 + 1)), x10.f2, x10.f3, x10.f4⟩ : S35)).set (Int.toNat v5) (⟨x15.f0, x15.f1, (mt ((v1 + 1) + 1)), x15.f3, x15.f4⟩ : S35)).map d35).set (Int.toNat v5) (d35 (⟨x16.f0, x16.f1, x16.f2, (((v1 + 1) + 1) + 1), x16.f4⟩ : S35))) = (((((L0.set (Int.toNat v5) (⟨v1, x5.f1, x5.f2, x5.f3, x5.f4⟩ : S35)).set (Int.toNat v5) (⟨x10.f0, (mt (v1 + 1)), x10.f2, x10.f3, x10.f4⟩ : S35)).set (Int.toNat v5) (⟨x15.f0, x15.f1, (mt ((v1 + 1) + 1)), x15.f3, x15.f4⟩ : S35)).set (Int.toNat v5) (⟨x16.f0, x16.f1, x16.f2, (((v1 + 1) + 1) + 1), x16.f4⟩ : S35)).map d35) from List.map_set.symm)) ?_
   refine X.seq ?_
   refine X.rk ⟨[(0, rV 0), (1, iV (wrap64 ((((v1 + 1) + 1) + 1) + 1))), (5, iV v5)], [(0, some (.row 5 35 (((((L0.set (Int.toNat v5) (⟨v1, x5.f1, x5.f2, x5.f3, x5.f4⟩ : S35)).set (Int.toNat v5) (⟨x10.f0, (mt (v1 + 1)), x10.f2, x10.f3, x10.f4⟩ : S35)).set (Int.toNat v5) (⟨x15.f0, x15.f1, (mt ((v1 + 1) + 1)), x15.f3, x15.f4⟩ : S35)).set (Int.toNat v5) (⟨x16.f0, x16.f1, x16.f2, (((v1 + 1) + 1) + 1), x16.f4⟩ : S35)).map d35) false true))], 768⟩ hτ hmix (by kernel_rfl) (by kernel_rfl) (s2 := ⟨[(0, rV 0), (1, iV ((((v1 + 1) + 1) + 1) + 1)), (5, iV v5)], [(0, some (.row 5 35 (((((L0.set (Int.toNat v5) (⟨v1, x5.f1, x5.f2, x5.f3, x5.f4⟩ : S35)).set (Int.toNat v5) (⟨x10.f0, (mt (v1 + 1)), x10.f2, x10.f3, x10.f4⟩ : S35)).set (Int.toNat v5) (⟨x15.f0, x15.f1, (mt ((v1 + 1) + 1)), x15.f3, x15.f4⟩ : S35)).set (Int.toNat v5) (⟨x16.f0, x16.f1, x16.f2, (((v1 + 1) + 1) + 1), x16.f4⟩ : S35)).map d35) false true))], 768⟩) (congrArg (fun z : Int => (⟨[(0, rV 0), (1, iV z), (5, iV v5)], [(0, some (.row 5 35 (((((L0.set (Int.toNat v5) (⟨v1, x5.f1, x5.f2, x5.f3, x5.f4⟩ : S35)).set (Int.toNat v5) (⟨x10.f0, (mt (v1 + 1)), x10.f2, x10.f3, x10.f4⟩ : S35)).set (Int.toNat v5) (⟨x15.f0, x15.f1, (mt ((v1 + 1) + 1)), x15.f3, x15.f4⟩ : S35)).set (Int.toNat v5) (⟨x16.f0, x16.f1, x16.f2, (((v1 + 1) + 1) + 1), x16.f4⟩ : S35)).map d35) false true))], 768⟩ : St)) (show wrap64 ((((v1 + 1) + 1) + 1) + 1) = ((((v1 + 1) + 1) + 1) + 1) by rw [w64 (n := ((((v1 + 1) + 1) + 1) + 1)) (by omega) (by omega)])) ?_
   refine X.seq (rs 3 ?_)
   refine CH.idxR hτ (rows := (((((L0.set (Int.toNat v5) (⟨v1, x5.f1, x5.f2, x5.f3, x5.f4⟩ : S35)).set (Int.toNat v5) (⟨x10.f0, (mt (v1 + 1)), x10.f2, x10.f3, x10.f4⟩ : S35)).set (Int.toNat v5) (⟨x15.f0, x15.f1, (mt ((v1 + 1) + 1)), x15.f3, x15.f4⟩ : S35)).set (Int.toNat v5) (⟨x16.f0, x16.f1, x16.f2, (((v1 + 1) + 1) + 1), x16.f4⟩ : S35)).map d35)) (n := v5) (b := 0) (by kernel_rfl) (by kernel_rfl) (by first | omega | (simp; done) | (simp; omega)) (by simp only [List.length_map, List.length_set]; first | omega | (simp; done) | (simp; omega)) (by kernel_rfl) ?_
   refine go 1 ?_
   obtain ⟨x17, hx17⟩ : ∃ x, ((((L0.set (Int.toNat v5) (⟨v1, x5.f1, x5.f2, x5.f3, x5.f4⟩ : S35)).set (Int.toNat v5) (⟨x10.f0, (mt (v1 + 1)), x10.f2, x10.f3, x10.f4⟩ : S35)).set (Int.toNat v5) (⟨x15.f0, x15.f1, (mt ((v1 + 1) + 1)), x15.f3, x15.f4⟩ : S35)).set (Int.toNat v5) (⟨x16.f0, x16.f1, x16.f2, (((v1 + 1) + 1) + 1), x16.f4⟩ : S35))[Int.toNat v5]? = some x := ⟨_, List.getElem?_eq_getElem (by first | omega | (simp; done) | (simp; omega))⟩
   have qhx17 := set_get hx17
   refine CH.row hτ (d35 x17) (by kernel_rfl) (by kernel_rfl) (by rw [List.getElem?_map, hx17]; rfl) (by kernel_rfl) ?_
   refine CH.endk ⟨[(0, rV 0), (1, iV ((((v1 + 1) + 1) + 1) + 1)), (5, iV v5)], [(0, some (.row 5 35 ((((((L0.set (Int.toNat v5) (⟨v1, x5.f1, x5.f2, x5.f3, x5.f4⟩ : S35)).set (Int.toNat v5) (⟨x10.f0, (mt (v1 + 1)), x10.f2, x10.f3, x10.f4⟩ : S35)).set (Int.toNat v5) (⟨x15.f0, x15.f1, (mt ((v1 + 1) + 1)), x15.f3, x15.f4⟩ : S35)).set (Int.toNat v5) (⟨x16.f0, x16.f1, x16.f2, (((v1 + 1) + 1) + 1), x16.f4⟩ : S35)).map d35).set (Int.toNat v5) (d35 (⟨x17.f0, x17.f1, x17.f2, x17.f3, ((((v1 + 1) + 1) + 1) + 1)⟩ : S35))) false true))], 864⟩ (by kernel_rfl) (by kernel_rfl) (s2 := ⟨[(0, rV 0), (1, iV ((((v1 + 1) + 1) + 1) + 1)), (5, iV v5)], [(0, some (.row 5 35 ((((((L0.set (Int.toNat v5) (⟨v1, x5.f1, x5.f2, x5.f3, x5.f4⟩ : S35)).set (Int.toNat v5) (⟨x10.f0, (mt (v1 + 1)), x10.f2, x10.f3, x10.f4⟩ : S35)).set (Int.toNat v5) (⟨x15.f0, x15.f1, (mt ((v1 + 1) + 1)), x15.f3, x15.f4⟩ : S35)).set (Int.toNat v5) (⟨x16.f0, x16.f1, x16.f2, (((v1 + 1) + 1) + 1), x16.f4⟩ : S35)).set (Int.toNat v5) (⟨x17.f0, x17.f1, x17.f2, x17.f3, ((((v1 + 1) + 1) + 1) + 1)⟩ : S35)).map d35) false true))], 864⟩) (congrArg (fun z : List (List D) => (⟨[(0, rV 0), (1, iV ((((v1 + 1) + 1) + 1) + 1)), (5, iV v5)], [(0, some (.row 5 35 z false true))], 864⟩ : St)) (show ((((((L0.set (Int.toNat v5) (⟨v1, x5.f1, x5.f2, x5.f3, x5.f4⟩ : S35)).set (Int.toNat v5) (⟨x10.f0, (mt (v1 + 1)), x10.f2, x10.f3, x10.f4⟩ : S35)).set (Int.toNat v5) (⟨x15.f0, x15.f1, (mt ((v1 + 1) + 1)), x15.f3, x15.f4⟩ : S35)).set (Int.toNat v5) (⟨x16.f0, x16.f1, x16.f2, (((v1 + 1) + 1) + 1), x16.f4⟩ : S35)).map d35).set (Int.toNat v5) (d35 (⟨x17.f0, x17.f1, x17.f2, x17.f3, ((((v1 + 1) + 1) + 1) + 1)⟩ : S35))) = ((((((L0.set (Int.toNat v5) (⟨v1, x5.f1, x5.f2, x5.f3, x5.f4⟩ : S35)).set (Int.toNat v5) (⟨x10.f0, (mt (v1 + 1)), x10.f2, x10.f3, x10.f4⟩ : S35)).set (Int.toNat v5) (⟨x15.f0, x15.f1, (mt ((v1 + 1) + 1)), x15.f3, x15.f4⟩ : S35)).set (Int.toNat v5) (⟨x16.f0, x16.f1, x16.f2, (((v1 + 1) + 1) + 1), x16.f4⟩ : S35)).set (Int.toNat v5) (⟨x17.f0, x17.f1, x17.f2, x17.f3, ((((v1 + 1) + 1) + 1) + 1)⟩ : S35)).map d35) from List.map_set.symm)) ?_
   refine X.rk ⟨[(0, rV 0), (1, iV (wrap64 (((((v1 + 1) + 1) + 1) + 1) + 1))), (5, iV v5)], [(0, some (.row 5 35 ((((((L0.set (Int.toNat v5) (⟨v1, x5.f1, x5.f2, x5.f3, x5.f4⟩ : S35)).set (Int.toNat v5) (⟨x10.f0, (mt (v1 + 1)), x10.f2, x10.f3, x10.f4⟩ : S35)).set (Int.toNat v5) (⟨x15.f0, x15.f1, (mt ((v1 + 1) + 1)), x15.f3, x15.f4⟩ : S35)).set (Int.toNat v5) (⟨x16.f0, x16.f1, x16.f2, (((v1 + 1) + 1) + 1), x16.f4⟩ : S35)).set (Int.toNat v5) (⟨x17.f0, x17.f1, x17.f2, x17.f3, ((((v1 + 1) + 1) + 1) + 1)⟩ : S35)).map d35) false true))], 912⟩ hτ hmix (by kernel_rfl) (by kernel_rfl) (s2 := ⟨[(0, rV 0), (1, iV (((((v1 + 1) + 1) + 1) + 1) + 1)), (5, iV v5)], [(0, some (.row 5 35 ((((((L0.set (Int.toNat v5) (⟨v1, x5.f1, x5.f2, x5.f3, x5.f4⟩ : S35)).set (Int.toNat v5) (⟨x10.f0, (mt (v1 + 1)), x10.f2, x10.f3, x10.f4⟩ : S35)).set (Int.toNat v5) (⟨x15.f0, x15.f1, (mt ((v1 + 1) + 1)), x15.f3, x15.f4⟩ : S35)).set (Int.toNat v5) (⟨x16.f0, x16.f1, x16.f2, (((v1 + 1) + 1) + 1), x16.f4⟩ : S35)).set (Int.toNat v5) (⟨x17.f0, x17.f1, x17.f2, x17.f3, ((((v1 + 1) + 1) + 1) + 1)⟩ : S35)).map d35) false true))], 912⟩) (congrArg (fun z : Int => (⟨[(0, rV 0), (1, iV z), (5, iV v5)], [(0, some (.row 5 35 ((((((L0.set (Int.toNat v5) (⟨v1, x5.f1, x5.f2, x5.f3, x5.f4⟩ : S35)).set (Int.toNat v5) (⟨x10.f0, (mt (v1 + 1)), x10.f2, x10.f3, x10.f4⟩ : S35)).set (Int.toNat v5) (⟨x15.f0, x15.f1, (mt ((v1 + 1) + 1)), x15.f3, x15.f4⟩ : S35)).set (Int.toNat v5) (⟨x16.f0, x16.f1, x16.f2, (((v1 + 1) + 1) + 1), x16.f4⟩ : S35)).set (Int.toNat v5) (⟨x17.f0, x17.f1, x17.f2, x17.f3, ((((v1 + 1) + 1) + 1) + 1)⟩ : S35)).map d35) false true))], 912⟩ : St)) (show wrap64 (((((v1 + 1) + 1) + 1) + 1) + 1) = (((((v1 + 1) + 1) + 1) + 1) + 1) by rw [w64 (n := (((((v1 + 1) + 1) + 1) + 1) + 1)) (by omega) (by omega)])) ?_
   refine X.rk ⟨[(0, rV 0), (1, iV (((((v1 + 1) + 1) + 1) + 1) + 1)), (5, iV (wrap64 (v5 + 1)))], [(0, some (.row 5 35 ((((((L0.set (Int.toNat v5) (⟨v1, x5.f1, x5.f2, x5.f3, x5.f4⟩ : S35)).set (Int.toNat v5) (⟨x10.f0, (mt (v1 + 1)), x10.f2, x10.f3, x10.f4⟩ : S35)).set (Int.toNat v5) (⟨x15.f0, x15.f1, (mt ((v1 + 1) + 1)), x15.f3, x15.f4⟩ : S35)).set (Int.toNat v5) (⟨x16.f0, x16.f1, x16.f2, (((v1 + 1) + 1) + 1), x16.f4⟩ : S35)).set (Int.toNat v5) (⟨x17.f0, x17.f1, x17.f2, x17.f3, ((((v1 + 1) + 1) + 1) + 1)⟩ : S35)).map d35) false true))], 960⟩ hτ hmix (by kernel_rfl) (by kernel_rfl) (s2 := ⟨[(0, rV 0), (1, iV (((((v1 + 1) + 1) + 1) + 1) + 1)), (5, iV (v5 + 1))], [(0, some (.row 5 35 ((((((L0.set (Int.toNat v5) (⟨v1, x5.f1, x5.f2, x5.f3, x5.f4⟩ : S35)).set (Int.toNat v5) (⟨x10.f0, (mt (v1 + 1)), x10.f2, x10.f3, x10.f4⟩ : S35)).set (Int.toNat v5) (⟨x15.f0, x15.f1, (mt ((v1 + 1) + 1)), x15.f3, x15.f4⟩ : S35)).set (Int.toNat v5) (⟨x16.f0, x16.f1, x16.f2, (((v1 + 1) + 1) + 1), x16.f4⟩ : S35)).set (Int.toNat v5) (⟨x17.f0, x17.f1, x17.f2, x17.f3, ((((v1 + 1) + 1) + 1) + 1)⟩ : S35)).map d35) false true))], 960⟩) (congrArg (fun z : Int => (⟨[(0, rV 0), (1, iV (((((v1 + 1) + 1) + 1) + 1) + 1)), (5, iV z)], [(0, some (.row 5 35 ((((((L0.set (Int.toNat v5) (⟨v1, x5.f1, x5.f2, x5.f3, x5.f4⟩ : S35)).set (Int.toNat v5) (⟨x10.f0, (mt (v1 + 1)), x10.f2, x10.f3, x10.f4⟩ : S35)).set (Int.toNat v5) (⟨x15.f0, x15.f1, (mt ((v1 + 1) + 1)), x15.f3, x15.f4⟩ : S35)).set (Int.toNat v5) (⟨x16.f0, x16.f1, x16.f2, (((v1 + 1) + 1) + 1), x16.f4⟩ : S35)).set (Int.toNat v5) (⟨x17.f0, x17.f1, x17.f2, x17.f3, ((((v1 + 1) + 1) + 1) + 1)⟩ : S35)).map d35) false true))], 960⟩ : St)) (show wrap64 (v5 + 1) = (v5 + 1) by rw [w64 (n := (v5 + 1)) (by omega) (by omega)])) ?_
   refine ⟨⟨((((((L0.set (Int.toNat v5) (⟨v1, x5.f1, x5.f2, x5.f3, x5.f4⟩ : S35)).set (Int.toNat v5) (⟨x10.f0, (mt (v1 + 1)), x10.f2, x10.f3, x10.f4⟩ : S35)).set (Int.toNat v5) (⟨x15.f0, x15.f1, (mt ((v1 + 1) + 1)), x15.f3, x15.f4⟩ : S35)).set (Int.toNat v5) (⟨x16.f0, x16.f1, x16.f2, (((v1 + 1) + 1) + 1), x16.f4⟩ : S35)).set (Int.toNat v5) (⟨x17.f0, x17.f1, x17.f2, x17.f3, ((((v1 + 1) + 1) + 1) + 1)⟩ : S35)), (((((v1 + 1) + 1) + 1) + 1) + 1), (v5 + 1)), ⟨by first | omega | (dsimp only; omega), by first | omega | (dsimp only; omega), by first | omega | (dsimp only; omega), by simp only [List.length_set]; omega, by simp only [List.set_set]; exact set_all hA (by first | omega | (dsimp only; omega)) (by subst_vars; exact ⟨rfl, rfl, by dsimp only; congr 1; omega, by dsimp only; omega, by dsimp only; omega⟩)⟩⟩, by first | exact rfl | omega | (dsimp only; omega) | (simp only [List.length_append, List.length_cons, List.length_nil, List.length_set]; omega) | (simp; done) | (simp; omega), Wk.mk' [] (by kernel_rfl) (by kernel_rfl) (by kernel_rfl)⟩
  ·replace hb4 := of_decide_eq_false (hb4)
   refine X.exit ?_
   refine sk ⟨[(4, iV v1)], [(0, some (.row 5 35 (L0.map d35) false true))], 192⟩ ?_
   refine X.ret ?_
   exact ⟨trivial, _, _, ⟨v1, L0, ⟨hL, by omega, upto_all hA (by omega)⟩, rfl, rfl⟩, mkr⟩
 obtain ⟨_, _, ⟨r0, q0, h1_, rfl, rfl⟩, hf⟩ := key
 exact ⟨r0, q0, h1_, hf⟩

end Go.Proofs.Ytggmeldoecnkaaa.Av
