/-
What functions of the program come to, walked one by one.
Conditions: none beside those that each theorem names.
-/
import Derived.Test.YtggmeldoecnkaaaAvL
set_option linter.unusedVariables false
set_option linter.unusedSimpArgs false
namespace Go.Proofs.Ytggmeldoecnkaaa.Av
open Go.RowKit
set_option maxRecDepth 20000
set_option maxHeartbeats 4000000

section
variable {l : List S72} {q : S68} {x y : S72}
end
theorem i_blockAt1 (id : Int) (b : S72) : ∃ r0 : Bool, (r0 = (b.f0 == id)) ∧ Fn Try.prog 141 [.e (.agg (cD (d72 b))), .pt 0 0 0] (lookH [(0, some (.box [.k 0 (.v (.int .i64 id))]))]) (bV r0) (lookH [(0, some (.box [.k 0 (.v (.int .i64 id))]))]) := by
 have key : ∃ x' h', ((fun x' h' => ∃ r0 : Bool, (r0 = (b.f0 == id)) ∧ x' = bV r0 ∧ h' = [(0, some (.box [.k 0 (.v (.int .i64 id))]))])) x' h' ∧ Fn Try.prog 141 [.e (.agg (cD (d72 b))), .pt 0 0 0] (lookH [(0, some (.box [.k 0 (.v (.int .i64 id))]))]) x' (lookH h') := by
  refine Fn.bodyX (N := 8) hτ Try.func141 rfl rfl rfl rfl ?_
  refine sk ⟨[(1, .pt 0 0 0), (2, .pt 64 0 0)], [(0, some (.box [.k 0 (.v (.int .i64 id))])), (64, some (.box (cD (d72 b))))], 96⟩ ?_
  refine sk ⟨[(3, bV (b.f0 == id))], [(0, some (.box [.k 0 (.v (.int .i64 id))]))], 176⟩ ?_
  refine X.ret ?_
  exact ⟨trivial, _, _, ⟨(b.f0 == id), by first | exact rfl | omega | (dsimp only; omega) | (simp only [List.length_append, List.length_cons, List.length_nil, List.length_set]; omega) | (simp; done) | (simp; omega), rfl, rfl⟩, mkr⟩
 obtain ⟨_, _, ⟨r0, h1_, rfl, rfl⟩, hf⟩ := key
 exact ⟨r0, h1_, hf⟩

theorem i_indexBlock (id : Int) (l : List S72) (hl : l.length ≤ 2000000) : ∃ r0 : Int, (r0 = idAt l id) ∧ Fn Try.prog 140 [lV (l.map d72), .fv 141 0] (lookH [(0, some (.box [.k 0 (.v (.int .i64 id))]))]) (iV r0) (lookH [(0, some (.box [.k 0 (.v (.int .i64 id))]))]) := by
 have key : ∃ x' h', ((fun x' h' => ∃ r0 : Int, (r0 = idAt l id) ∧ x' = iV r0 ∧ h' = [(0, some (.box [.k 0 (.v (.int .i64 id))]))])) x' h' ∧ Fn Try.prog 140 [lV (l.map d72), .fv 141 0] (lookH [(0, some (.box [.k 0 (.v (.int .i64 id))]))]) x' (lookH h') := by
  refine Fn.bodyX (N := 19) hτ Try.func140 rfl rfl rfl rfl ?_
  refine sk ⟨[(0, lV (l.map d72)), (1, .fv 141 0)], [(0, some (.box [.k 0 (.v (.int .i64 id))]))], 80⟩ ?_
  refine X.seq ?_
  refine X.seq ?_
  have el1 : (l.map d72).length = l.length := List.length_map ..
  refine rk ⟨[(0, lV (l.map d72)), (1, .fv 141 0), (7, iV ((l.map d72).length : Int)), (8, iV 0)], [(0, some (.box [.k 0 (.v (.int .i64 id))]))], 128⟩ ?_
  refine X.block ?_
  -- 2: v8 : Int
  refine X.loop (σ := { g : Int // (fun (v8 : Int) => 0 ≤ v8 ∧ v8 ≤ l.length ∧ ∀ (j : Nat) (y : S72), j < v8.toNat → l[j]? = some y → y.f0 ≠ id) g }) (fun g => (fun (v8 : Int) => ⟨[(0, lV (l.map d72)), (1, .fv 141 0), (7, iV ((l.map d72).length : Int)), (8, iV v8)], [(0, some (.box [.k 0 (.v (.int .i64 id))]))], 128⟩) g.1) (fun g => (fun (v8 : Int) => (l.length - v8).toNat) g.1) ⟨0, ⟨by first | omega | (dsimp only; omega), by first | omega | (dsimp only; omega), fun j y h => by simp at h⟩⟩ (Wk.less (by kernel_rfl)) (fun g => ?_)
  obtain ⟨v8, hg3⟩ := g
  have hg3 : 0 ≤ v8 ∧ v8 ≤ l.length ∧ ∀ (j : Nat) (y : S72), j < v8.toNat → l[j]? = some y → y.f0 ≠ id := hg3
  obtain ⟨_, _, hn⟩ := hg3
  refine sk ⟨[(0, lV (l.map d72)), (1, .fv 141 0), (7, iV ((l.map d72).length : Int)), (8, iV v8), (9, bV (decide ((v8 : Int) < ((l.map d72).length : Int))))], [(0, some (.box [.k 0 (.v (.int .i64 id))]))], 144⟩ ?_
  refine X.seq ?_
  refine if_ (b := decide ((v8 : Int) < ((l.map d72).length : Int))) (fun hb4 => ?_) (fun hb4 => ?_)
  ·replace hb4 := of_decide_eq_true (hb4)
   refine X.skip ?_
   refine X.seq ?_
   refine X.block ?_
   refine sk ⟨[(0, lV (l.map d72)), (1, .fv 141 0), (5, iV v8), (7, iV ((l.map d72).length : Int)), (8, iV v8)], [(0, some (.box [.k 0 (.v (.int .i64 id))]))], 176⟩ ?_
   refine X.seq (rs 3 ?_)
   obtain ⟨x5, hx5⟩ : ∃ x, l[Int.toNat v8]? = some x := ⟨_, List.getElem?_eq_getElem (by first | omega | (simp; done) | (simp; omega))⟩
   refine CH.idx hτ (d72 x5) (rows := (l.map d72)) (n := v8) (sz := 14) (by kernel_rfl) (by kernel_rfl) (by first | omega | (simp; done) | (simp; omega)) (by rw [List.getElem?_map, hx5]; rfl) (by kernel_rfl) ?_
   refine go 1 ?_
   obtain ⟨r6, hr8, hf7⟩ := i_blockAt1 id x5
   replace hr8 := hr8.symm; subst hr8
   refine CH.callV hf7 Try.func141 ⟨rfl, rfl⟩ [(0, 0)] (by kernel_rfl) (by kernel_rfl) (by kernel_rfl) (by kernel_rfl) ?_
   refine ek ⟨[(0, lV (l.map d72)), (1, .fv 141 0), (5, iV v8), (7, iV ((l.map d72).length : Int)), (8, iV v8), (16, bV (x5.f0 == id))], [(0, some (.box [.k 0 (.v (.int .i64 id))]))], 272⟩ ?_
   refine if_ (b := (x5.f0 == id)) (fun hb10 => ?_) (fun hb10 => ?_)
   ·replace hb10 := eq_of_beq (hb10)
    refine sk ⟨[(4, iV v8)], [(0, some (.box [.k 0 (.v (.int .i64 id))]))], 304⟩ ?_
    refine X.ret ?_
    exact ⟨trivial, _, _, ⟨v8, (idAt_yes (by omega) ‹_› ‹_› hn).symm, rfl, rfl⟩, mkr⟩
   ·replace hb10 := beq_eq_false_iff_ne.1 (hb10)
    refine X.skip ?_
    refine X.rk ⟨[(0, lV (l.map d72)), (1, .fv 141 0), (7, iV ((l.map d72).length : Int)), (8, iV (wrap64 (v8 + 1)))], [(0, some (.box [.k 0 (.v (.int .i64 id))]))], 304⟩ hτ hmix (by kernel_rfl) (by kernel_rfl) (s2 := ⟨[(0, lV (l.map d72)), (1, .fv 141 0), (7, iV ((l.map d72).length : Int)), (8, iV (v8 + 1))], [(0, some (.box [.k 0 (.v (.int .i64 id))]))], 304⟩) (congrArg (fun z : Int => (⟨[(0, lV (l.map d72)), (1, .fv 141 0), (7, iV ((l.map d72).length : Int)), (8, iV z)], [(0, some (.box [.k 0 (.v (.int .i64 id))]))], 304⟩ : St)) (show wrap64 (v8 + 1) = (v8 + 1) by rw [w64 (n := (v8 + 1)) (by omega) (by omega)])) ?_
    refine ⟨⟨(v8 + 1), ⟨by first | omega | (dsimp only; omega), by first | omega | (dsimp only; omega), before_succ (by first | omega | (dsimp only; omega)) ‹_› ‹_› hn⟩⟩, by first | exact rfl | omega | (dsimp only; omega) | (simp only [List.length_append, List.length_cons, List.length_nil, List.length_set]; omega) | (simp; done) | (simp; omega), Wk.mk' [] (by kernel_rfl) (by kernel_rfl) (by kernel_rfl)⟩
  ·replace hb4 := of_decide_eq_false (hb4)
   refine X.exit ?_
   refine sk ⟨[(4, iV (-1))], [(0, some (.box [.k 0 (.v (.int .i64 id))]))], 160⟩ ?_
   refine X.ret ?_
   exact ⟨trivial, _, _, ⟨(-1), (idAt_no fun j y hj => hn j y (by have := (List.getElem?_eq_some_iff.1 hj).1; omega) hj).symm, rfl, rfl⟩, mkr⟩
 obtain ⟨_, _, ⟨r0, h1_, rfl, rfl⟩, hf⟩ := key
 exact ⟨r0, h1_, hf⟩

theorem i_blockAt (l : List S72) (id : Int) (hl : l.length ≤ 2000000) : ∃ r0 : Int, (r0 = idAt l id) ∧ Fn Try.prog 73 [lV (l.map d72), iV id] (lookH []) (iV r0) (lookH []) := by
 have key : ∃ x' h', ((fun x' h' => ∃ r0 : Int, (r0 = idAt l id) ∧ x' = iV r0 ∧ h' = [])) x' h' ∧ Fn Try.prog 73 [lV (l.map d72), iV id] (lookH []) x' (lookH h') := by
  refine Fn.bodyX (N := 8) hτ Try.func73 rfl rfl rfl rfl ?_
  refine sk ⟨[(0, lV (l.map d72)), (3, .pt 64 0 0)], [(64, some (.box [.d (.v (.int .i64 id))]))], 96⟩ ?_
  refine X.seq (rs 2 ?_)
  obtain ⟨r1, hr3, hf2⟩ := i_indexBlock id l (by omega)
  replace hr3 := hr3.symm; subst hr3
  refine CH.call hf2 Try.func140 ⟨rfl, rfl⟩ [(64, 0)] (by kernel_rfl) (by kernel_rfl) (by kernel_rfl) (by kernel_rfl) ?_
  refine go 1 ?_
  refine ek ⟨[(4, iV (idAt l id))], [], 160⟩ ?_
  refine X.ret ?_
  exact ⟨trivial, _, _, ⟨(idAt l id), by first | exact rfl | omega | (dsimp only; omega) | (simp only [List.length_append, List.length_cons, List.length_nil, List.length_set]; omega) | (simp; done) | (simp; omega), rfl, rfl⟩, mkr⟩
 obtain ⟨_, _, ⟨r0, h1_, rfl, rfl⟩, hf⟩ := key
 exact ⟨r0, h1_, hf⟩

end Go.Proofs.Ytggmeldoecnkaaa.Av
