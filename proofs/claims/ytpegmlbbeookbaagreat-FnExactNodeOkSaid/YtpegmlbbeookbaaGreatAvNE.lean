/-
What functions of the program come to, walked one by one.
Conditions: none beside those that each theorem names.
-/
import Derived.Test.YtpegmlbbeookbaaGreatAvND
set_option linter.unusedVariables false
set_option linter.unusedSimpArgs false
namespace Go.Proofs.YtpegmlbbeookbaaGreat.Av
open Go.RowKit
set_option maxRecDepth 20000
set_option maxHeartbeats 4000000
theorem l_szVote (x : S107) (n : Int) (hw : w107 x) (hn : 0 ≤ n ∧ n ≤ 2000000) : ∃ r0 : Int, (r0 ≤ n ∧ -1 ≤ r0 ∧ (0 ≤ r0 → Sm131 (toVote x))) ∧ Fn Tryz.prog 59 [.e (.agg (cD (d107 x))), iV n] (lookH []) (iV r0) (lookH []) := by
 have key : ∃ x' h', ((fun x' h' => ∃ r0 : Int, (r0 ≤ n ∧ -1 ≤ r0 ∧ (0 ≤ r0 → Sm131 (toVote x))) ∧ x' = iV r0 ∧ h' = [])) x' h' ∧ Fn Tryz.prog 59 [.e (.agg (cD (d107 x))), iV n] (lookH []) x' (lookH h') := by
  refine Fn.bodyX (N := 13) hτ Tryz.func59 rfl rfl rfl rfl ?_
  refine sk ⟨[(1, iV n), (2, .pt 64 0 0)], [(64, some (.box (cD (d107 x))))], 96⟩ ?_
  refine X.seq ?_
  have hs2 : x.f2.size ≤ 9223372036854775807 := hw.2.2
  refine X.rk ⟨[(1, iV (wrap64 (n - (x.f2.size : Int))))], [], 192⟩ hτ hmix (by kernel_rfl) (by kernel_rfl) (s2 := ⟨[(1, iV (n - (x.f2.size : Int)))], [], 192⟩) (congrArg (fun z : Int => (⟨[(1, iV z)], [], 192⟩ : St)) (show wrap64 (n - (x.f2.size : Int)) = (n - (x.f2.size : Int)) by rw [w64 (n := (n - (x.f2.size : Int))) (by omega) (by omega)])) ?_
  refine X.seq ?_
  refine sk ⟨[(1, iV (n - (x.f2.size : Int))), (11, bV (decide (((n - (x.f2.size : Int)) : Int) < 0)))], [], 224⟩ ?_
  refine if_ (b := decide (((n - (x.f2.size : Int)) : Int) < 0)) (fun hb1 => ?_) (fun hb1 => ?_)
  ·replace hb1 := of_decide_eq_true (hb1)
   refine sk ⟨[(4, iV (-1))], [], 240⟩ ?_
   refine X.ret ?_
   exact ⟨trivial, _, _, ⟨(-1), ⟨by omega, by omega, fun h => by first | omega | exact m2⟩, rfl, rfl⟩, mkr⟩
  ·replace hb1 := of_decide_eq_false (hb1)
   refine X.skip ?_
   refine X.seq ?_
   have m2 : SmS x.f2 := (by show _ ≤ 2000000; omega)
   refine rk ⟨[(4, iV (n - (x.f2.size : Int)))], [], 256⟩ ?_
   refine X.ret ?_
   exact ⟨trivial, _, _, ⟨(n - (x.f2.size : Int)), ⟨by omega, by omega, fun h => by first | omega | exact m2⟩, rfl, rfl⟩, mkr⟩
 obtain ⟨_, _, ⟨r0, h1_, rfl, rfl⟩, hf⟩ := key
 exact ⟨r0, h1_, hf⟩

theorem l_szVoteS (l : List S107) (n : Int) (hw : l.length ≤ maxLen ∧ ∀ y ∈ l, w107 y) (hn : 0 ≤ n ∧ n ≤ 2000000) : ∃ r0 : Int, (r0 ≤ n ∧ -1 ≤ r0 ∧ (0 ≤ r0 → ((l.map toVote).length ≤ 2000000 ∧ ∀ x, x ∈ (l.map toVote) → Sm131 x))) ∧ Fn Tryz.prog 14 [lV (l.map d107), iV n] (lookH []) (iV r0) (lookH []) := by
 have key : ∃ x' h', ((fun x' h' => ∃ r0 : Int, (r0 ≤ n ∧ -1 ≤ r0 ∧ (0 ≤ r0 → ((l.map toVote).length ≤ 2000000 ∧ ∀ x, x ∈ (l.map toVote) → Sm131 x))) ∧ x' = iV r0 ∧ h' = [])) x' h' ∧ Fn Tryz.prog 14 [lV (l.map d107), iV n] (lookH []) x' (lookH h') := by
  refine Fn.bodyX (N := 27) hτ Tryz.func14 rfl rfl rfl rfl ?_
  refine sk ⟨[(0, lV (l.map d107)), (1, iV n)], [], 80⟩ ?_
  refine X.seq ?_
  have hsl : l.length ≤ 9223372036854775807 := hw.1
  have el1 : (l.map d107).length = l.length := List.length_map ..
  refine X.rk ⟨[(0, lV (l.map d107)), (1, iV (wrap64 (n - ((l.map d107).length : Int))))], [], 160⟩ hτ hmix (by kernel_rfl) (by kernel_rfl) (s2 := ⟨[(0, lV (l.map d107)), (1, iV (n - ((l.map d107).length : Int)))], [], 160⟩) (congrArg (fun z : Int => (⟨[(0, lV (l.map d107)), (1, iV z)], [], 160⟩ : St)) (show wrap64 (n - ((l.map d107).length : Int)) = (n - ((l.map d107).length : Int)) by rw [w64 (n := (n - ((l.map d107).length : Int))) (by omega) (by omega)])) ?_
  refine X.seq ?_
  refine sk ⟨[(0, lV (l.map d107)), (1, iV (n - ((l.map d107).length : Int))), (11, bV (decide (((n - ((l.map d107).length : Int)) : Int) < 0)))], [], 192⟩ ?_
  refine if_ (b := decide (((n - ((l.map d107).length : Int)) : Int) < 0)) (fun hb2 => ?_) (fun hb2 => ?_)
  ·replace hb2 := of_decide_eq_true (hb2)
   refine sk ⟨[(4, iV (-1))], [], 208⟩ ?_
   refine X.ret ?_
   exact ⟨trivial, _, _, ⟨(-1), ⟨by omega, by omega, fun h => by first | omega | exact ⟨by rw [List.length_map]; omega, fun y hy => by obtain ⟨x, hx, rfl⟩ := List.mem_map.1 hy; exact mem_upto hA (by omega) x hx⟩⟩, rfl, rfl⟩, mkr⟩
  ·replace hb2 := of_decide_eq_false (hb2)
   refine X.skip ?_
   refine X.seq ?_
   refine sk ⟨[(0, lV (l.map d107)), (1, iV (n - ((l.map d107).length : Int))), (5, iV 0)], [], 208⟩ ?_
   refine X.block ?_
   -- 5: v1 : Int, v5 : Int
   refine X.loop (σ := { g : Int × Int // (fun (v1 : Int) (v5 : Int) => 0 ≤ v5 ∧ v5 ≤ l.length ∧ 0 ≤ v1 ∧ v1 ≤ n - l.length ∧ Upto (fun _ y => Sm131 (toVote y)) (fun n => l[n]?) v5) g.1 g.2 }) (fun g => (fun (v1 : Int) (v5 : Int) => ⟨[(0, lV (l.map d107)), (1, iV v1), (5, iV v5)], [], 208⟩) g.1.1 g.1.2) (fun g => (fun (v1 : Int) (v5 : Int) => (l.length - v5).toNat) g.1.1 g.1.2) ⟨((n - ((l.map d107).length : Int)), 0), ⟨by first | omega | (dsimp only; omega), by first | omega | (dsimp only; omega), by first | omega | (dsimp only; omega), by simp only [List.length_map]; omega, upto_zero⟩⟩ (Wk.less (by kernel_rfl)) (fun g => ?_)
   obtain ⟨⟨v1, v5⟩, hg4⟩ := g
   have hg4 : 0 ≤ v5 ∧ v5 ≤ l.length ∧ 0 ≤ v1 ∧ v1 ≤ n - l.length ∧ Upto (fun _ y => Sm131 (toVote y)) (fun n => l[n]?) v5 := hg4
   obtain ⟨_, _, _, _, hA⟩ := hg4
   refine X.seq ?_
   refine sk ⟨[(0, lV (l.map d107)), (1, iV v1), (5, iV v5), (15, bV (decide ((v5 : Int) < ((l.map d107).length : Int))))], [], 272⟩ ?_
   refine if_ (b := decide ((v5 : Int) < ((l.map d107).length : Int))) (fun hb5 => ?_) (fun hb5 => ?_)
   ·replace hb5 := of_decide_eq_true (hb5)
    refine X.skip ?_
    refine X.seq ?_
    refine X.block ?_
    refine X.seq (rs 2 ?_)
    obtain ⟨x6, hx6⟩ : ∃ x, l[Int.toNat v5]? = some x := ⟨_, List.getElem?_eq_getElem (by first | omega | (simp; done) | (simp; omega))⟩
    refine CH.idx hτ (d107 x6) (rows := (l.map d107)) (n := v5) (sz := 3) (by kernel_rfl) (by kernel_rfl) (by first | omega | (simp; done) | (simp; omega)) (by rw [List.getElem?_map, hx6]; rfl) (by kernel_rfl) ?_
    refine go 2 ?_
    obtain ⟨r7, hr9, hf8⟩ := l_szVote x6 v1 (by exact hw.2 _ (List.mem_of_getElem? ‹_›)) (by omega)
    obtain ⟨hz1, hz0, hz2⟩ := hr9
    refine ca hf8 Tryz.func59 ?_
    refine go 1 ?_
    refine ek ⟨[(0, lV (l.map d107)), (1, iV r7), (5, iV v5)], [], 384⟩ ?_
    refine sk ⟨[(0, lV (l.map d107)), (1, iV r7), (5, iV v5), (25, bV (decide ((r7 : Int) < 0)))], [], 416⟩ ?_
    refine if_ (b := decide ((r7 : Int) < 0)) (fun hb10 => ?_) (fun hb10 => ?_)
    ·replace hb10 := of_decide_eq_true (hb10)
     refine sk ⟨[(4, iV (-1))], [], 432⟩ ?_
     refine X.ret ?_
     exact ⟨trivial, _, _, ⟨(-1), ⟨by omega, by omega, fun h => by first | omega | exact ⟨by rw [List.length_map]; omega, fun y hy => by obtain ⟨x, hx, rfl⟩ := List.mem_map.1 hy; exact mem_upto hA (by omega) x hx⟩⟩, rfl, rfl⟩, mkr⟩
    ·replace hb10 := of_decide_eq_false (hb10)
     refine X.skip ?_
     refine X.rk ⟨[(0, lV (l.map d107)), (1, iV r7), (5, iV (wrap64 (v5 + 1)))], [], 464⟩ hτ hmix (by kernel_rfl) (by kernel_rfl) (s2 := ⟨[(0, lV (l.map d107)), (1, iV r7), (5, iV (v5 + 1))], [], 464⟩) (congrArg (fun z : Int => (⟨[(0, lV (l.map d107)), (1, iV r7), (5, iV z)], [], 464⟩ : St)) (show wrap64 (v5 + 1) = (v5 + 1) by rw [w64 (n := (v5 + 1)) (by omega) (by omega)])) ?_
     refine ⟨⟨(r7, (v5 + 1)), ⟨by first | omega | (dsimp only; omega), by first | omega | (dsimp only; omega), by first | omega | (dsimp only; omega), by first | omega | (dsimp only; omega), upto_nx (by first | omega | (dsimp only; omega)) hA ‹_› (hz2 (by first | omega | (dsimp only; omega)))⟩⟩, by first | exact rfl | omega | (dsimp only; omega) | (simp only [List.length_append, List.length_cons, List.length_nil, List.length_set]; omega) | (simp; done) | (simp; omega), Wk.mk' [] (by kernel_rfl) (by kernel_rfl) (by kernel_rfl)⟩
   ·replace hb5 := of_decide_eq_false (hb5)
    refine X.exit ?_
    refine sk ⟨[(4, iV v1)], [], 304⟩ ?_
    refine X.ret ?_
    exact ⟨trivial, _, _, ⟨v1, ⟨by omega, by omega, fun h => by first | omega | exact ⟨by rw [List.length_map]; omega, fun y hy => by obtain ⟨x, hx, rfl⟩ := List.mem_map.1 hy; exact mem_upto hA (by omega) x hx⟩⟩, rfl, rfl⟩, mkr⟩
 obtain ⟨_, _, ⟨r0, h1_, rfl, rfl⟩, hf⟩ := key
 exact ⟨r0, h1_, hf⟩

theorem l_szGone (x : S110) (n : Int) (hw : w110 x) (hn : 0 ≤ n ∧ n ≤ 2000000) : ∃ r0 : Int, (r0 ≤ n ∧ -1 ≤ r0 ∧ (0 ≤ r0 → Sm133 (toGone x))) ∧ Fn Tryz.prog 60 [.e (.agg (cD (d110 x))), iV n] (lookH []) (iV r0) (lookH []) := by
 have key : ∃ x' h', ((fun x' h' => ∃ r0 : Int, (r0 ≤ n ∧ -1 ≤ r0 ∧ (0 ≤ r0 → Sm133 (toGone x))) ∧ x' = iV r0 ∧ h' = [])) x' h' ∧ Fn Tryz.prog 60 [.e (.agg (cD (d110 x))), iV n] (lookH []) x' (lookH h') := by
  refine Fn.bodyX (N := 13) hτ Tryz.func60 rfl rfl rfl rfl ?_
  refine sk ⟨[(1, iV n), (2, .pt 64 0 0)], [(64, some (.box (cD (d110 x))))], 96⟩ ?_
  refine X.seq ?_
  have hs2 : x.f2.size ≤ 9223372036854775807 := hw.2.2
  refine X.rk ⟨[(1, iV (wrap64 (n - (x.f2.size : Int))))], [], 192⟩ hτ hmix (by kernel_rfl) (by kernel_rfl) (s2 := ⟨[(1, iV (n - (x.f2.size : Int)))], [], 192⟩) (congrArg (fun z : Int => (⟨[(1, iV z)], [], 192⟩ : St)) (show wrap64 (n - (x.f2.size : Int)) = (n - (x.f2.size : Int)) by rw [w64 (n := (n - (x.f2.size : Int))) (by omega) (by omega)])) ?_
  refine X.seq ?_
  refine sk ⟨[(1, iV (n - (x.f2.size : Int))), (11, bV (decide (((n - (x.f2.size : Int)) : Int) < 0)))], [], 224⟩ ?_
  refine if_ (b := decide (((n - (x.f2.size : Int)) : Int) < 0)) (fun hb1 => ?_) (fun hb1 => ?_)
  ·replace hb1 := of_decide_eq_true (hb1)
   refine sk ⟨[(4, iV (-1))], [], 240⟩ ?_
   refine X.ret ?_
   exact ⟨trivial, _, _, ⟨(-1), ⟨by omega, by omega, fun h => by first | omega | exact m2⟩, rfl, rfl⟩, mkr⟩
  ·replace hb1 := of_decide_eq_false (hb1)
   refine X.skip ?_
   refine X.seq ?_
   have m2 : SmS x.f2 := (by show _ ≤ 2000000; omega)
   refine rk ⟨[(4, iV (n - (x.f2.size : Int)))], [], 256⟩ ?_
   refine X.ret ?_
   exact ⟨trivial, _, _, ⟨(n - (x.f2.size : Int)), ⟨by omega, by omega, fun h => by first | omega | exact m2⟩, rfl, rfl⟩, mkr⟩
 obtain ⟨_, _, ⟨r0, h1_, rfl, rfl⟩, hf⟩ := key
 exact ⟨r0, h1_, hf⟩

theorem l_szGoneS (l : List S110) (n : Int) (hw : l.length ≤ maxLen ∧ ∀ y ∈ l, w110 y) (hn : 0 ≤ n ∧ n ≤ 2000000) : ∃ r0 : Int, (r0 ≤ n ∧ -1 ≤ r0 ∧ (0 ≤ r0 → ((l.map toGone).length ≤ 2000000 ∧ ∀ x, x ∈ (l.map toGone) → Sm133 x))) ∧ Fn Tryz.prog 15 [lV (l.map d110), iV n] (lookH []) (iV r0) (lookH []) := by
 have key : ∃ x' h', ((fun x' h' => ∃ r0 : Int, (r0 ≤ n ∧ -1 ≤ r0 ∧ (0 ≤ r0 → ((l.map toGone).length ≤ 2000000 ∧ ∀ x, x ∈ (l.map toGone) → Sm133 x))) ∧ x' = iV r0 ∧ h' = [])) x' h' ∧ Fn Tryz.prog 15 [lV (l.map d110), iV n] (lookH []) x' (lookH h') := by
  refine Fn.bodyX (N := 27) hτ Tryz.func15 rfl rfl rfl rfl ?_
  refine sk ⟨[(0, lV (l.map d110)), (1, iV n)], [], 80⟩ ?_
  refine X.seq ?_
  have hsl : l.length ≤ 9223372036854775807 := hw.1
  have el1 : (l.map d110).length = l.length := List.length_map ..
  refine X.rk ⟨[(0, lV (l.map d110)), (1, iV (wrap64 (n - ((l.map d110).length : Int))))], [], 160⟩ hτ hmix (by kernel_rfl) (by kernel_rfl) (s2 := ⟨[(0, lV (l.map d110)), (1, iV (n - ((l.map d110).length : Int)))], [], 160⟩) (congrArg (fun z : Int => (⟨[(0, lV (l.map d110)), (1, iV z)], [], 160⟩ : St)) (show wrap64 (n - ((l.map d110).length : Int)) = (n - ((l.map d110).length : Int)) by rw [w64 (n := (n - ((l.map d110).length : Int))) (by omega) (by omega)])) ?_
  refine X.seq ?_
  refine sk ⟨[(0, lV (l.map d110)), (1, iV (n - ((l.map d110).length : Int))), (11, bV (decide (((n - ((l.map d110).length : Int)) : Int) < 0)))], [], 192⟩ ?_
  refine if_ (b := decide (((n - ((l.map d110).length : Int)) : Int) < 0)) (fun hb2 => ?_) (fun hb2 => ?_)
  ·replace hb2 := of_decide_eq_true (hb2)
   refine sk ⟨[(4, iV (-1))], [], 208⟩ ?_
   refine X.ret ?_
   exact ⟨trivial, _, _, ⟨(-1), ⟨by omega, by omega, fun h => by first | omega | exact ⟨by rw [List.length_map]; omega, fun y hy => by obtain ⟨x, hx, rfl⟩ := List.mem_map.1 hy; exact mem_upto hA (by omega) x hx⟩⟩, rfl, rfl⟩, mkr⟩
  ·replace hb2 := of_decide_eq_false (hb2)
   refine X.skip ?_
   refine X.seq ?_
   refine sk ⟨[(0, lV (l.map d110)), (1, iV (n - ((l.map d110).length : Int))), (5, iV 0)], [], 208⟩ ?_
   refine X.block ?_
   -- 5: v1 : Int, v5 : Int
   refine X.loop (σ := { g : Int × Int // (fun (v1 : Int) (v5 : Int) => 0 ≤ v5 ∧ v5 ≤ l.length ∧ 0 ≤ v1 ∧ v1 ≤ n - l.length ∧ Upto (fun _ y => Sm133 (toGone y)) (fun n => l[n]?) v5) g.1 g.2 }) (fun g => (fun (v1 : Int) (v5 : Int) => ⟨[(0, lV (l.map d110)), (1, iV v1), (5, iV v5)], [], 208⟩) g.1.1 g.1.2) (fun g => (fun (v1 : Int) (v5 : Int) => (l.length - v5).toNat) g.1.1 g.1.2) ⟨((n - ((l.map d110).length : Int)), 0), ⟨by first | omega | (dsimp only; omega), by first | omega | (dsimp only; omega), by first | omega | (dsimp only; omega), by simp only [List.length_map]; omega, upto_zero⟩⟩ (Wk.less (by kernel_rfl)) (fun g => ?_)
   obtain ⟨⟨v1, v5⟩, hg4⟩ := g
   have hg4 : 0 ≤ v5 ∧ v5 ≤ l.length ∧ 0 ≤ v1 ∧ v1 ≤ n - l.length ∧ Upto (fun _ y => Sm133 (toGone y)) (fun n => l[n]?) v5 := hg4
   obtain ⟨_, _, _, _, hA⟩ := hg4
   refine X.seq ?_
   refine sk ⟨[(0, lV (l.map d110)), (1, iV v1), (5, iV v5), (15, bV (decide ((v5 : Int) < ((l.map d110).length : Int))))], [], 272⟩ ?_
   refine if_ (b := decide ((v5 : Int) < ((l.map d110).length : Int))) (fun hb5 => ?_) (fun hb5 => ?_)
   ·replace hb5 := of_decide_eq_true (hb5)
    refine X.skip ?_
    refine X.seq ?_
    refine X.block ?_
    refine X.seq (rs 2 ?_)
    obtain ⟨x6, hx6⟩ : ∃ x, l[Int.toNat v5]? = some x := ⟨_, List.getElem?_eq_getElem (by first | omega | (simp; done) | (simp; omega))⟩
    refine CH.idx hτ (d110 x6) (rows := (l.map d110)) (n := v5) (sz := 3) (by kernel_rfl) (by kernel_rfl) (by first | omega | (simp; done) | (simp; omega)) (by rw [List.getElem?_map, hx6]; rfl) (by kernel_rfl) ?_
    refine go 2 ?_
    obtain ⟨r7, hr9, hf8⟩ := l_szGone x6 v1 (by exact hw.2 _ (List.mem_of_getElem? ‹_›)) (by omega)
    obtain ⟨hz1, hz0, hz2⟩ := hr9
    refine ca hf8 Tryz.func60 ?_
    refine go 1 ?_
    refine ek ⟨[(0, lV (l.map d110)), (1, iV r7), (5, iV v5)], [], 384⟩ ?_
    refine sk ⟨[(0, lV (l.map d110)), (1, iV r7), (5, iV v5), (25, bV (decide ((r7 : Int) < 0)))], [], 416⟩ ?_
    refine if_ (b := decide ((r7 : Int) < 0)) (fun hb10 => ?_) (fun hb10 => ?_)
    ·replace hb10 := of_decide_eq_true (hb10)
     refine sk ⟨[(4, iV (-1))], [], 432⟩ ?_
     refine X.ret ?_
     exact ⟨trivial, _, _, ⟨(-1), ⟨by omega, by omega, fun h => by first | omega | exact ⟨by rw [List.length_map]; omega, fun y hy => by obtain ⟨x, hx, rfl⟩ := List.mem_map.1 hy; exact mem_upto hA (by omega) x hx⟩⟩, rfl, rfl⟩, mkr⟩
    ·replace hb10 := of_decide_eq_false (hb10)
     refine X.skip ?_
     refine X.rk ⟨[(0, lV (l.map d110)), (1, iV r7), (5, iV (wrap64 (v5 + 1)))], [], 464⟩ hτ hmix (by kernel_rfl) (by kernel_rfl) (s2 := ⟨[(0, lV (l.map d110)), (1, iV r7), (5, iV (v5 + 1))], [], 464⟩) (congrArg (fun z : Int => (⟨[(0, lV (l.map d110)), (1, iV r7), (5, iV z)], [], 464⟩ : St)) (show wrap64 (v5 + 1) = (v5 + 1) by rw [w64 (n := (v5 + 1)) (by omega) (by omega)])) ?_
     refine ⟨⟨(r7, (v5 + 1)), ⟨by first | omega | (dsimp only; omega), by first | omega | (dsimp only; omega), by first | omega | (dsimp only; omega), by first | omega | (dsimp only; omega), upto_nx (by first | omega | (dsimp only; omega)) hA ‹_› (hz2 (by first | omega | (dsimp only; omega)))⟩⟩, by first | exact rfl | omega | (dsimp only; omega) | (simp only [List.length_append, List.length_cons, List.length_nil, List.length_set]; omega) | (simp; done) | (simp; omega), Wk.mk' [] (by kernel_rfl) (by kernel_rfl) (by kernel_rfl)⟩
   ·replace hb5 := of_decide_eq_false (hb5)
    refine X.exit ?_
    refine sk ⟨[(4, iV v1)], [], 304⟩ ?_
    refine X.ret ?_
    exact ⟨trivial, _, _, ⟨v1, ⟨by omega, by omega, fun h => by first | omega | exact ⟨by rw [List.length_map]; omega, fun y hy => by obtain ⟨x, hx, rfl⟩ := List.mem_map.1 hy; exact mem_upto hA (by omega) x hx⟩⟩, rfl, rfl⟩, mkr⟩
 obtain ⟨_, _, ⟨r0, h1_, rfl, rfl⟩, hf⟩ := key
 exact ⟨r0, h1_, hf⟩

theorem l_szProof (x : S116) (n : Int) (hw : w116 x) (hn : 0 ≤ n ∧ n ≤ 2000000) : ∃ r0 : Int, (r0 ≤ n ∧ -1 ≤ r0 ∧ (0 ≤ r0 → Sm137 (toProof x))) ∧ Fn Tryz.prog 62 [.e (.agg (cD (d116 x))), iV n] (lookH []) (iV r0) (lookH []) := by
 have key : ∃ x' h', ((fun x' h' => ∃ r0 : Int, (r0 ≤ n ∧ -1 ≤ r0 ∧ (0 ≤ r0 → Sm137 (toProof x))) ∧ x' = iV r0 ∧ h' = [])) x' h' ∧ Fn Tryz.prog 62 [.e (.agg (cD (d116 x))), iV n] (lookH []) x' (lookH h') := by
  refine Fn.bodyX (N := 18) hτ Tryz.func62 rfl rfl rfl rfl ?_
  refine sk ⟨[(1, iV n), (2, .pt 64 0 0)], [(64, some (.box (cD (d116 x))))], 96⟩ ?_
  refine X.seq ?_
  have hw1 := hw.2.1
  refine rs 3 ?_
  obtain ⟨r1, hr3, hf2⟩ := l_szBlockS x.f1 n (by assumption) (by first | omega | assumption)
  obtain ⟨hz1, hz0, hz2⟩ := hr3
  refine ca hf2 Tryz.func11 ?_
  refine go 1 ?_
  refine ek ⟨[(1, iV r1), (2, .pt 64 0 0)], [(64, some (.box (cD (d116 x))))], 176⟩ ?_
  refine X.seq ?_
  refine sk ⟨[(1, iV r1), (2, .pt 64 0 0), (10, bV (decide ((r1 : Int) < 0)))], [(64, some (.box (cD (d116 x))))], 208⟩ ?_
  refine if_ (b := decide ((r1 : Int) < 0)) (fun hb4 => ?_) (fun hb4 => ?_)
  ·replace hb4 := of_decide_eq_true (hb4)
   refine sk ⟨[(4, iV (-1))], [], 224⟩ ?_
   refine X.ret ?_
   exact ⟨trivial, _, _, ⟨(-1), ⟨by omega, by omega, fun h => by first | omega | exact ⟨m1, m2⟩⟩, rfl, rfl⟩, mkr⟩
  ·replace hb4 := of_decide_eq_false (hb4)
   refine X.skip ?_
   refine X.seq ?_
   have m1 := hz2 (by omega)
   have hw2 := hw.2.2
   refine rs 3 ?_
   obtain ⟨r5, hr7, hf6⟩ := l_szQc x.f2 r1 (by assumption) (by first | omega | assumption)
   obtain ⟨hz1, hz0, hz2⟩ := hr7
   refine ca hf6 Tryz.func12 ?_
   refine go 1 ?_
   refine ek ⟨[(1, iV r5)], [], 288⟩ ?_
   refine X.seq ?_
   refine sk ⟨[(1, iV r5), (16, bV (decide ((r5 : Int) < 0)))], [], 320⟩ ?_
   refine if_ (b := decide ((r5 : Int) < 0)) (fun hb8 => ?_) (fun hb8 => ?_)
   ·replace hb8 := of_decide_eq_true (hb8)
    refine sk ⟨[(4, iV (-1))], [], 336⟩ ?_
    refine X.ret ?_
    exact ⟨trivial, _, _, ⟨(-1), ⟨by omega, by omega, fun h => by first | omega | exact ⟨m1, m2⟩⟩, rfl, rfl⟩, mkr⟩
   ·replace hb8 := of_decide_eq_false (hb8)
    refine X.skip ?_
    refine X.seq ?_
    have m2 := hz2 (by omega)
    refine rk ⟨[(4, iV r5)], [], 352⟩ ?_
    refine X.ret ?_
    exact ⟨trivial, _, _, ⟨r5, ⟨by omega, by omega, fun h => by first | omega | exact ⟨m1, m2⟩⟩, rfl, rfl⟩, mkr⟩
 obtain ⟨_, _, ⟨r0, h1_, rfl, rfl⟩, hf⟩ := key
 exact ⟨r0, h1_, hf⟩

theorem l_szProofS (l : List S116) (n : Int) (hw : l.length ≤ maxLen ∧ ∀ y ∈ l, w116 y) (hn : 0 ≤ n ∧ n ≤ 2000000) : ∃ r0 : Int, (r0 ≤ n ∧ -1 ≤ r0 ∧ (0 ≤ r0 → ((l.map toProof).length ≤ 2000000 ∧ ∀ x, x ∈ (l.map toProof) → Sm137 x))) ∧ Fn Tryz.prog 18 [lV (l.map d116), iV n] (lookH []) (iV r0) (lookH []) := by
 have key : ∃ x' h', ((fun x' h' => ∃ r0 : Int, (r0 ≤ n ∧ -1 ≤ r0 ∧ (0 ≤ r0 → ((l.map toProof).length ≤ 2000000 ∧ ∀ x, x ∈ (l.map toProof) → Sm137 x))) ∧ x' = iV r0 ∧ h' = [])) x' h' ∧ Fn Tryz.prog 18 [lV (l.map d116), iV n] (lookH []) x' (lookH h') := by
  refine Fn.bodyX (N := 27) hτ Tryz.func18 rfl rfl rfl rfl ?_
  refine sk ⟨[(0, lV (l.map d116)), (1, iV n)], [], 80⟩ ?_
  refine X.seq ?_
  have hsl : l.length ≤ 9223372036854775807 := hw.1
  have el1 : (l.map d116).length = l.length := List.length_map ..
  refine X.rk ⟨[(0, lV (l.map d116)), (1, iV (wrap64 (n - ((l.map d116).length : Int))))], [], 160⟩ hτ hmix (by kernel_rfl) (by kernel_rfl) (s2 := ⟨[(0, lV (l.map d116)), (1, iV (n - ((l.map d116).length : Int)))], [], 160⟩) (congrArg (fun z : Int => (⟨[(0, lV (l.map d116)), (1, iV z)], [], 160⟩ : St)) (show wrap64 (n - ((l.map d116).length : Int)) = (n - ((l.map d116).length : Int)) by rw [w64 (n := (n - ((l.map d116).length : Int))) (by omega) (by omega)])) ?_
  refine X.seq ?_
  refine sk ⟨[(0, lV (l.map d116)), (1, iV (n - ((l.map d116).length : Int))), (11, bV (decide (((n - ((l.map d116).length : Int)) : Int) < 0)))], [], 192⟩ ?_
  refine if_ (b := decide (((n - ((l.map d116).length : Int)) : Int) < 0)) (fun hb2 => ?_) (fun hb2 => ?_)
  ·replace hb2 := of_decide_eq_true (hb2)
   refine sk ⟨[(4, iV (-1))], [], 208⟩ ?_
   refine X.ret ?_
   exact ⟨trivial, _, _, ⟨(-1), ⟨by omega, by omega, fun h => by first | omega | exact ⟨by rw [List.length_map]; omega, fun y hy => by obtain ⟨x, hx, rfl⟩ := List.mem_map.1 hy; exact mem_upto hA (by omega) x hx⟩⟩, rfl, rfl⟩, mkr⟩
  ·replace hb2 := of_decide_eq_false (hb2)
   refine X.skip ?_
   refine X.seq ?_
   refine sk ⟨[(0, lV (l.map d116)), (1, iV (n - ((l.map d116).length : Int))), (5, iV 0)], [], 208⟩ ?_
   refine X.block ?_
   -- 5: v1 : Int, v5 : Int
   refine X.loop (σ := { g : Int × Int // (fun (v1 : Int) (v5 : Int) => 0 ≤ v5 ∧ v5 ≤ l.length ∧ 0 ≤ v1 ∧ v1 ≤ n - l.length ∧ Upto (fun _ y => Sm137 (toProof y)) (fun n => l[n]?) v5) g.1 g.2 }) (fun g => (fun (v1 : Int) (v5 : Int) => ⟨[(0, lV (l.map d116)), (1, iV v1), (5, iV v5)], [], 208⟩) g.1.1 g.1.2) (fun g => (fun (v1 : Int) (v5 : Int) => (l.length - v5).toNat) g.1.1 g.1.2) ⟨((n - ((l.map d116).length : Int)), 0), ⟨by first | omega | (dsimp only; omega), by first | omega | (dsimp only; omega), by first | omega | (dsimp only; omega), by simp only [List.length_map]; omega, upto_zero⟩⟩ (Wk.less (by kernel_rfl)) (fun g => ?_)
   obtain ⟨⟨v1, v5⟩, hg4⟩ := g
   have hg4 : 0 ≤ v5 ∧ v5 ≤ l.length ∧ 0 ≤ v1 ∧ v1 ≤ n - l.length ∧ Upto (fun _ y => Sm137 (toProof y)) (fun n => l[n]?) v5 := hg4
   obtain ⟨_, _, _, _, hA⟩ := hg4
   refine X.seq ?_
   refine sk ⟨[(0, lV (l.map d116)), (1, iV v1), (5, iV v5), (15, bV (decide ((v5 : Int) < ((l.map d116).length : Int))))], [], 272⟩ ?_
   refine if_ (b := decide ((v5 : Int) < ((l.map d116).length : Int))) (fun hb5 => ?_) (fun hb5 => ?_)
   ·replace hb5 := of_decide_eq_true (hb5)
    refine X.skip ?_
    refine X.seq ?_
    refine X.block ?_
    refine X.seq (rs 2 ?_)
    obtain ⟨x6, hx6⟩ : ∃ x, l[Int.toNat v5]? = some x := ⟨_, List.getElem?_eq_getElem (by first | omega | (simp; done) | (simp; omega))⟩
    refine CH.idx hτ (d116 x6) (rows := (l.map d116)) (n := v5) (sz := 5) (by kernel_rfl) (by kernel_rfl) (by first | omega | (simp; done) | (simp; omega)) (by rw [List.getElem?_map, hx6]; rfl) (by kernel_rfl) ?_
    refine go 2 ?_
    obtain ⟨r7, hr9, hf8⟩ := l_szProof x6 v1 (by exact hw.2 _ (List.mem_of_getElem? ‹_›)) (by omega)
    obtain ⟨hz1, hz0, hz2⟩ := hr9
    refine ca hf8 Tryz.func62 ?_
    refine go 1 ?_
    refine ek ⟨[(0, lV (l.map d116)), (1, iV r7), (5, iV v5)], [], 384⟩ ?_
    refine sk ⟨[(0, lV (l.map d116)), (1, iV r7), (5, iV v5), (25, bV (decide ((r7 : Int) < 0)))], [], 416⟩ ?_
    refine if_ (b := decide ((r7 : Int) < 0)) (fun hb10 => ?_) (fun hb10 => ?_)
    ·replace hb10 := of_decide_eq_true (hb10)
     refine sk ⟨[(4, iV (-1))], [], 432⟩ ?_
     refine X.ret ?_
     exact ⟨trivial, _, _, ⟨(-1), ⟨by omega, by omega, fun h => by first | omega | exact ⟨by rw [List.length_map]; omega, fun y hy => by obtain ⟨x, hx, rfl⟩ := List.mem_map.1 hy; exact mem_upto hA (by omega) x hx⟩⟩, rfl, rfl⟩, mkr⟩
    ·replace hb10 := of_decide_eq_false (hb10)
     refine X.skip ?_
     refine X.rk ⟨[(0, lV (l.map d116)), (1, iV r7), (5, iV (wrap64 (v5 + 1)))], [], 464⟩ hτ hmix (by kernel_rfl) (by kernel_rfl) (s2 := ⟨[(0, lV (l.map d116)), (1, iV r7), (5, iV (v5 + 1))], [], 464⟩) (congrArg (fun z : Int => (⟨[(0, lV (l.map d116)), (1, iV r7), (5, iV z)], [], 464⟩ : St)) (show wrap64 (v5 + 1) = (v5 + 1) by rw [w64 (n := (v5 + 1)) (by omega) (by omega)])) ?_
     refine ⟨⟨(r7, (v5 + 1)), ⟨by first | omega | (dsimp only; omega), by first | omega | (dsimp only; omega), by first | omega | (dsimp only; omega), by first | omega | (dsimp only; omega), upto_nx (by first | omega | (dsimp only; omega)) hA ‹_› (hz2 (by first | omega | (dsimp only; omega)))⟩⟩, by first | exact rfl | omega | (dsimp only; omega) | (simp only [List.length_append, List.length_cons, List.length_nil, List.length_set]; omega) | (simp; done) | (simp; omega), Wk.mk' [] (by kernel_rfl) (by kernel_rfl) (by kernel_rfl)⟩
   ·replace hb5 := of_decide_eq_false (hb5)
    refine X.exit ?_
    refine sk ⟨[(4, iV v1)], [], 304⟩ ?_
    refine X.ret ?_
    exact ⟨trivial, _, _, ⟨v1, ⟨by omega, by omega, fun h => by first | omega | exact ⟨by rw [List.length_map]; omega, fun y hy => by obtain ⟨x, hx, rfl⟩ := List.mem_map.1 hy; exact mem_upto hA (by omega) x hx⟩⟩, rfl, rfl⟩, mkr⟩
 obtain ⟨_, _, ⟨r0, h1_, rfl, rfl⟩, hf⟩ := key
 exact ⟨r0, h1_, hf⟩

theorem l_szNode (x : S38) (n : Int) (hw : w38 x) (hn : 0 ≤ n ∧ n ≤ 2000000) : ∃ r0 : Int, (r0 ≤ n ∧ -1 ≤ r0 ∧ (0 ≤ r0 → Sm53 (toNode x))) ∧ Fn Tryz.prog 4 [.e (.agg (cD (d38 x))), iV n] (lookH []) (iV r0) (lookH []) := by
 have key : ∃ x' h', ((fun x' h' => ∃ r0 : Int, (r0 ≤ n ∧ -1 ≤ r0 ∧ (0 ≤ r0 → Sm53 (toNode x))) ∧ x' = iV r0 ∧ h' = [])) x' h' ∧ Fn Tryz.prog 4 [.e (.agg (cD (d38 x))), iV n] (lookH []) x' (lookH h') := by
  refine Fn.bodyX (N := 73) hτ Tryz.func4 rfl rfl rfl rfl ?_
  refine sk ⟨[(1, iV n), (2, .pt 64 0 0)], [(64, some (.box (cD (d38 x))))], 96⟩ ?_
  refine X.seq ?_
  have hs0 : x.f0.size ≤ 9223372036854775807 := hw.1
  refine X.rk ⟨[(1, iV (wrap64 (n - (x.f0.size : Int)))), (2, .pt 64 0 0)], [(64, some (.box (cD (d38 x))))], 192⟩ hτ hmix (by kernel_rfl) (by kernel_rfl) (s2 := ⟨[(1, iV (n - (x.f0.size : Int))), (2, .pt 64 0 0)], [(64, some (.box (cD (d38 x))))], 192⟩) (congrArg (fun z : Int => (⟨[(1, iV z), (2, .pt 64 0 0)], [(64, some (.box (cD (d38 x))))], 192⟩ : St)) (show wrap64 (n - (x.f0.size : Int)) = (n - (x.f0.size : Int)) by rw [w64 (n := (n - (x.f0.size : Int))) (by omega) (by omega)])) ?_
  refine X.seq ?_
  refine sk ⟨[(1, iV (n - (x.f0.size : Int))), (2, .pt 64 0 0), (11, bV (decide (((n - (x.f0.size : Int)) : Int) < 0)))], [(64, some (.box (cD (d38 x))))], 224⟩ ?_
  refine if_ (b := decide (((n - (x.f0.size : Int)) : Int) < 0)) (fun hb1 => ?_) (fun hb1 => ?_)
  ·replace hb1 := of_decide_eq_true (hb1)
   refine sk ⟨[(4, iV (-1))], [], 240⟩ ?_
   refine X.ret ?_
   exact ⟨trivial, _, _, ⟨(-1), ⟨by omega, by omega, fun h => by first | omega | exact ⟨m0, m2, m3, m4, m7, m8, m10, m11, m12, m13, m14⟩⟩, rfl, rfl⟩, mkr⟩
  ·replace hb1 := of_decide_eq_false (hb1)
   refine X.skip ?_
   refine X.seq ?_
   have m0 : SmS x.f0 := (by show _ ≤ 2000000; omega)
   have hw2 := hw.2.2.1
   refine rs 3 ?_
   obtain ⟨r2, hr4, hf3⟩ := l_szLedger x.f2 (n - (x.f0.size : Int)) (by assumption) (by first | omega | assumption)
   obtain ⟨hz1, hz0, hz2⟩ := hr4
   refine ca hf3 Tryz.func9 ?_
   refine go 1 ?_
   refine ek ⟨[(1, iV r2), (2, .pt 64 0 0)], [(64, some (.box (cD (d38 x))))], 304⟩ ?_
   refine X.seq ?_
   refine sk ⟨[(1, iV r2), (2, .pt 64 0 0), (17, bV (decide ((r2 : Int) < 0)))], [(64, some (.box (cD (d38 x))))], 336⟩ ?_
   refine if_ (b := decide ((r2 : Int) < 0)) (fun hb5 => ?_) (fun hb5 => ?_)
   ·replace hb5 := of_decide_eq_true (hb5)
    refine sk ⟨[(4, iV (-1))], [], 352⟩ ?_
    refine X.ret ?_
    exact ⟨trivial, _, _, ⟨(-1), ⟨by omega, by omega, fun h => by first | omega | exact ⟨m0, m2, m3, m4, m7, m8, m10, m11, m12, m13, m14⟩⟩, rfl, rfl⟩, mkr⟩
   ·replace hb5 := of_decide_eq_false (hb5)
    refine X.skip ?_
    refine X.seq ?_
    have m2 := hz2 (by omega)
    have hw3 := hw.2.2.2.1
    refine rs 3 ?_
    obtain ⟨r6, hr8, hf7⟩ := l_szValS x.f3 r2 (by assumption) (by first | omega | assumption)
    obtain ⟨hz1, hz0, hz2⟩ := hr8
    refine ca hf7 Tryz.func10 ?_
    refine go 1 ?_
    refine ek ⟨[(1, iV r6), (2, .pt 64 0 0)], [(64, some (.box (cD (d38 x))))], 416⟩ ?_
    refine X.seq ?_
    refine sk ⟨[(1, iV r6), (2, .pt 64 0 0), (23, bV (decide ((r6 : Int) < 0)))], [(64, some (.box (cD (d38 x))))], 448⟩ ?_
    refine if_ (b := decide ((r6 : Int) < 0)) (fun hb9 => ?_) (fun hb9 => ?_)
    ·replace hb9 := of_decide_eq_true (hb9)
     refine sk ⟨[(4, iV (-1))], [], 464⟩ ?_
     refine X.ret ?_
     exact ⟨trivial, _, _, ⟨(-1), ⟨by omega, by omega, fun h => by first | omega | exact ⟨m0, m2, m3, m4, m7, m8, m10, m11, m12, m13, m14⟩⟩, rfl, rfl⟩, mkr⟩
    ·replace hb9 := of_decide_eq_false (hb9)
     refine X.skip ?_
     refine X.seq ?_
     have m3 := hz2 (by omega)
     have hw4 := hw.2.2.2.2.1
     refine rs 3 ?_
     obtain ⟨r10, hr12, hf11⟩ := l_szBlockS x.f4 r6 (by assumption) (by first | omega | assumption)
     obtain ⟨hz1, hz0, hz2⟩ := hr12
     refine ca hf11 Tryz.func11 ?_
     refine go 1 ?_
     refine ek ⟨[(1, iV r10), (2, .pt 64 0 0)], [(64, some (.box (cD (d38 x))))], 528⟩ ?_
     refine X.seq ?_
     refine sk ⟨[(1, iV r10), (2, .pt 64 0 0), (29, bV (decide ((r10 : Int) < 0)))], [(64, some (.box (cD (d38 x))))], 560⟩ ?_
     refine if_ (b := decide ((r10 : Int) < 0)) (fun hb13 => ?_) (fun hb13 => ?_)
     ·replace hb13 := of_decide_eq_true (hb13)
      refine sk ⟨[(4, iV (-1))], [], 576⟩ ?_
      refine X.ret ?_
      exact ⟨trivial, _, _, ⟨(-1), ⟨by omega, by omega, fun h => by first | omega | exact ⟨m0, m2, m3, m4, m7, m8, m10, m11, m12, m13, m14⟩⟩, rfl, rfl⟩, mkr⟩
     ·replace hb13 := of_decide_eq_false (hb13)
      refine X.skip ?_
      refine X.seq ?_
      have m4 := hz2 (by omega)
      have hw7 := hw.2.2.2.2.2.2.2.1
      refine rs 3 ?_
      obtain ⟨r14, hr16, hf15⟩ := l_szQc x.f7 r10 (by assumption) (by first | omega | assumption)
      obtain ⟨hz1, hz0, hz2⟩ := hr16
      refine ca hf15 Tryz.func12 ?_
      refine go 1 ?_
      refine ek ⟨[(1, iV r14), (2, .pt 64 0 0)], [(64, some (.box (cD (d38 x))))], 640⟩ ?_
      refine X.seq ?_
      refine sk ⟨[(1, iV r14), (2, .pt 64 0 0), (35, bV (decide ((r14 : Int) < 0)))], [(64, some (.box (cD (d38 x))))], 672⟩ ?_
      refine if_ (b := decide ((r14 : Int) < 0)) (fun hb17 => ?_) (fun hb17 => ?_)
      ·replace hb17 := of_decide_eq_true (hb17)
       refine sk ⟨[(4, iV (-1))], [], 688⟩ ?_
       refine X.ret ?_
       exact ⟨trivial, _, _, ⟨(-1), ⟨by omega, by omega, fun h => by first | omega | exact ⟨m0, m2, m3, m4, m7, m8, m10, m11, m12, m13, m14⟩⟩, rfl, rfl⟩, mkr⟩
      ·replace hb17 := of_decide_eq_false (hb17)
       refine X.skip ?_
       refine X.seq ?_
       have m7 := hz2 (by omega)
       have hw8 := hw.2.2.2.2.2.2.2.2.1
       refine rs 3 ?_
       obtain ⟨r18, hr20, hf19⟩ := l_szTc x.f8 r14 (by assumption) (by first | omega | assumption)
       obtain ⟨hz1, hz0, hz2⟩ := hr20
       refine ca hf19 Tryz.func13 ?_
       refine go 1 ?_
       refine ek ⟨[(1, iV r18), (2, .pt 64 0 0)], [(64, some (.box (cD (d38 x))))], 752⟩ ?_
       refine X.seq ?_
       refine sk ⟨[(1, iV r18), (2, .pt 64 0 0), (41, bV (decide ((r18 : Int) < 0)))], [(64, some (.box (cD (d38 x))))], 784⟩ ?_
       refine if_ (b := decide ((r18 : Int) < 0)) (fun hb21 => ?_) (fun hb21 => ?_)
       ·replace hb21 := of_decide_eq_true (hb21)
        refine sk ⟨[(4, iV (-1))], [], 800⟩ ?_
        refine X.ret ?_
        exact ⟨trivial, _, _, ⟨(-1), ⟨by omega, by omega, fun h => by first | omega | exact ⟨m0, m2, m3, m4, m7, m8, m10, m11, m12, m13, m14⟩⟩, rfl, rfl⟩, mkr⟩
       ·replace hb21 := of_decide_eq_false (hb21)
        refine X.skip ?_
        refine X.seq ?_
        have m8 := hz2 (by omega)
        have hw10 := hw.2.2.2.2.2.2.2.2.2.2.1
        refine rs 3 ?_
        obtain ⟨r22, hr24, hf23⟩ := l_szVoteS x.f10 r18 (by assumption) (by first | omega | assumption)
        obtain ⟨hz1, hz0, hz2⟩ := hr24
        refine ca hf23 Tryz.func14 ?_
        refine go 1 ?_
        refine ek ⟨[(1, iV r22), (2, .pt 64 0 0)], [(64, some (.box (cD (d38 x))))], 864⟩ ?_
        refine X.seq ?_
        refine sk ⟨[(1, iV r22), (2, .pt 64 0 0), (47, bV (decide ((r22 : Int) < 0)))], [(64, some (.box (cD (d38 x))))], 896⟩ ?_
        refine if_ (b := decide ((r22 : Int) < 0)) (fun hb25 => ?_) (fun hb25 => ?_)
        ·replace hb25 := of_decide_eq_true (hb25)
         refine sk ⟨[(4, iV (-1))], [], 912⟩ ?_
         refine X.ret ?_
         exact ⟨trivial, _, _, ⟨(-1), ⟨by omega, by omega, fun h => by first | omega | exact ⟨m0, m2, m3, m4, m7, m8, m10, m11, m12, m13, m14⟩⟩, rfl, rfl⟩, mkr⟩
        ·replace hb25 := of_decide_eq_false (hb25)
         refine X.skip ?_
         refine X.seq ?_
         have m10 := hz2 (by omega)
         have hw11 := hw.2.2.2.2.2.2.2.2.2.2.2.1
         refine rs 3 ?_
         obtain ⟨r26, hr28, hf27⟩ := l_szGoneS x.f11 r22 (by assumption) (by first | omega | assumption)
         obtain ⟨hz1, hz0, hz2⟩ := hr28
         refine ca hf27 Tryz.func15 ?_
         refine go 1 ?_
         refine ek ⟨[(1, iV r26), (2, .pt 64 0 0)], [(64, some (.box (cD (d38 x))))], 976⟩ ?_
         refine X.seq ?_
         refine sk ⟨[(1, iV r26), (2, .pt 64 0 0), (53, bV (decide ((r26 : Int) < 0)))], [(64, some (.box (cD (d38 x))))], 1008⟩ ?_
         refine if_ (b := decide ((r26 : Int) < 0)) (fun hb29 => ?_) (fun hb29 => ?_)
         ·replace hb29 := of_decide_eq_true (hb29)
          refine sk ⟨[(4, iV (-1))], [], 1024⟩ ?_
          refine X.ret ?_
          exact ⟨trivial, _, _, ⟨(-1), ⟨by omega, by omega, fun h => by first | omega | exact ⟨m0, m2, m3, m4, m7, m8, m10, m11, m12, m13, m14⟩⟩, rfl, rfl⟩, mkr⟩
         ·replace hb29 := of_decide_eq_false (hb29)
          refine X.skip ?_
          refine X.seq ?_
          have m11 := hz2 (by omega)
          have hw12 := hw.2.2.2.2.2.2.2.2.2.2.2.2.1
          refine rs 3 ?_
          obtain ⟨r30, hr32, hf31⟩ := l_szIntS x.f12 r26 (by assumption) (by first | omega | assumption)
          obtain ⟨hz1, hz0, hz2⟩ := hr32
          refine ca hf31 Tryz.func16 ?_
          refine go 1 ?_
          refine ek ⟨[(1, iV r30), (2, .pt 64 0 0)], [(64, some (.box (cD (d38 x))))], 1088⟩ ?_
          refine X.seq ?_
          refine sk ⟨[(1, iV r30), (2, .pt 64 0 0), (59, bV (decide ((r30 : Int) < 0)))], [(64, some (.box (cD (d38 x))))], 1120⟩ ?_
          refine if_ (b := decide ((r30 : Int) < 0)) (fun hb33 => ?_) (fun hb33 => ?_)
          ·replace hb33 := of_decide_eq_true (hb33)
           refine sk ⟨[(4, iV (-1))], [], 1136⟩ ?_
           refine X.ret ?_
           exact ⟨trivial, _, _, ⟨(-1), ⟨by omega, by omega, fun h => by first | omega | exact ⟨m0, m2, m3, m4, m7, m8, m10, m11, m12, m13, m14⟩⟩, rfl, rfl⟩, mkr⟩
          ·replace hb33 := of_decide_eq_false (hb33)
           refine X.skip ?_
           refine X.seq ?_
           have m12 := hz2 (by omega)
           have hw13 := hw.2.2.2.2.2.2.2.2.2.2.2.2.2.1
           refine rs 3 ?_
           obtain ⟨r34, hr36, hf35⟩ := l_szTxS x.f13 r30 (by assumption) (by first | omega | assumption)
           obtain ⟨hz1, hz0, hz2⟩ := hr36
           refine ca hf35 Tryz.func17 ?_
           refine go 1 ?_
           refine ek ⟨[(1, iV r34), (2, .pt 64 0 0)], [(64, some (.box (cD (d38 x))))], 1200⟩ ?_
           refine X.seq ?_
           refine sk ⟨[(1, iV r34), (2, .pt 64 0 0), (65, bV (decide ((r34 : Int) < 0)))], [(64, some (.box (cD (d38 x))))], 1232⟩ ?_
           refine if_ (b := decide ((r34 : Int) < 0)) (fun hb37 => ?_) (fun hb37 => ?_)
           ·replace hb37 := of_decide_eq_true (hb37)
            refine sk ⟨[(4, iV (-1))], [], 1248⟩ ?_
            refine X.ret ?_
            exact ⟨trivial, _, _, ⟨(-1), ⟨by omega, by omega, fun h => by first | omega | exact ⟨m0, m2, m3, m4, m7, m8, m10, m11, m12, m13, m14⟩⟩, rfl, rfl⟩, mkr⟩
           ·replace hb37 := of_decide_eq_false (hb37)
            refine X.skip ?_
            refine X.seq ?_
            have m13 := hz2 (by omega)
            have hw14 := hw.2.2.2.2.2.2.2.2.2.2.2.2.2.2
            refine rs 3 ?_
            obtain ⟨r38, hr40, hf39⟩ := l_szProofS x.f14 r34 (by assumption) (by first | omega | assumption)
            obtain ⟨hz1, hz0, hz2⟩ := hr40
            refine ca hf39 Tryz.func18 ?_
            refine go 1 ?_
            refine ek ⟨[(1, iV r38)], [], 1312⟩ ?_
            refine X.seq ?_
            refine sk ⟨[(1, iV r38), (71, bV (decide ((r38 : Int) < 0)))], [], 1344⟩ ?_
            refine if_ (b := decide ((r38 : Int) < 0)) (fun hb41 => ?_) (fun hb41 => ?_)
            ·replace hb41 := of_decide_eq_true (hb41)
             refine sk ⟨[(4, iV (-1))], [], 1360⟩ ?_
             refine X.ret ?_
             exact ⟨trivial, _, _, ⟨(-1), ⟨by omega, by omega, fun h => by first | omega | exact ⟨m0, m2, m3, m4, m7, m8, m10, m11, m12, m13, m14⟩⟩, rfl, rfl⟩, mkr⟩
            ·replace hb41 := of_decide_eq_false (hb41)
             refine X.skip ?_
             refine X.seq ?_
             have m14 := hz2 (by omega)
             refine rk ⟨[(4, iV r38)], [], 1376⟩ ?_
             refine X.ret ?_
             exact ⟨trivial, _, _, ⟨r38, ⟨by omega, by omega, fun h => by first | omega | exact ⟨m0, m2, m3, m4, m7, m8, m10, m11, m12, m13, m14⟩⟩, rfl, rfl⟩, mkr⟩
 obtain ⟨_, _, ⟨r0, h1_, rfl, rfl⟩, hf⟩ := key
 exact ⟨r0, h1_, hf⟩
end Go.Proofs.YtpegmlbbeookbaaGreat.Av
