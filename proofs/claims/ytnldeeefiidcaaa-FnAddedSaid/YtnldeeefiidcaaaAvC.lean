/-
What functions of the program come to, walked one by one.
Conditions: none beside those that each theorem names.
-/
import Derived.Test.YtnldeeefiidcaaaAvD
set_option linter.unusedVariables false
set_option linter.unusedSimpArgs false
namespace Go.Proofs.Ytnldeeefiidcaaa.Av
open Go.RowKit
set_option maxRecDepth 20000
set_option maxHeartbeats 4000000

section
variable {l : List S59} {q : S31} {x y : S59}
end
theorem i_clone_string (l : List ByteArray) (hl : l.length ≤ 2000000) : ∃ r0 : List ByteArray, (r0 = l) ∧ Fn Try.prog 168 [lV (l.map dS)] (lookH []) (.e (.c (.f (.sl (r0.map dS))))) (lookH []) := by
  refine ⟨_, rfl, ?_⟩
  refine Fn.bodyU (N := 8) hτ Try.func168 rfl rfl rfl rfl ?_
  refine U.seq ?_
  refine U.rk ⟨[(0, lV (l.map dS))], [], 80⟩ hτ hmix (by kernel_rfl) (by kernel_rfl) rfl ?_
  refine U.seq ?_
  refine U.seq ?_
  refine U.rk ⟨[(0, lV (l.map dS)), (4, .bo ((l.map dS) = []) (True))], [], 112⟩ hτ hmix (by kernel_rfl) (by kernel_rfl) rfl ?_
  refine U.ifN (p := (l.map dS) = []) (q := True) (by kernel_rfl) (fun hb1 => ?_) (fun hb1 => ?_)
  · have hn := hb1
    refine U.seq ?_
    refine U.rk ⟨[(2, .e (.c (.nil)))], [], 128⟩ hτ hmix (by kernel_rfl) (by kernel_rfl) rfl ?_
    refine U.ret ?_
    exact ⟨trivial, .inr ⟨⟨[(2, .e (.c (.f (.sl []))))], [], 128⟩, Wk.less (by kernel_rfl), Ret.mk' [] (by rw [hn]; kernel_rfl) (by kernel_rfl) (by kernel_rfl)⟩⟩
  · have _ := trivial
    refine U.skip ?_
    refine U.seq ?_
    refine U.rs 2 hτ hmix (by kernel_rfl) ?_
    have el2 : (l.map dS).length = l.length := List.length_map ..
    refine CH.app hτ (rows := []) (rows2 := (l.map dS)) (sz := 1) (bys := 16) true (by kernel_rfl) (by kernel_rfl) (fun _ => flat_d dS (fun x => rfl)) (flat_ok (f := dS) (fun x => rfl)) (by simp only [List.length_map] <;> (first | done | omega | (simp; done) | (simp; omega))) (by kernel_rfl) ?_
    refine CH.go 1 hτ (by kernel_rfl) ?_
    refine CH.endk ⟨[(2, rV 144)], [(144, some (.row 1 9 (l.map dS) false true))], 176⟩ (by kernel_rfl) (by kernel_rfl) rfl ?_
    refine U.ret ?_
    exact ⟨trivial, .inr ⟨⟨[(2, .e (.c (.f (.sl (l.map dS)))))], [(144, some (.row 1 9 (l.map dS) true true))], 176⟩, Wk.less (by kernel_rfl), Ret.mk' [] (by kernel_rfl) (by kernel_rfl) (by kernel_rfl)⟩⟩

theorem i_clone_int (l : List Int) (hl : l.length ≤ 2000000) : ∃ r0 : List Int, (r0 = l) ∧ Fn Try.prog 169 [lV (l.map dI)] (lookH []) (.e (.c (.f (.sl (r0.map dI))))) (lookH []) := by
  refine ⟨_, rfl, ?_⟩
  refine Fn.bodyU (N := 8) hτ Try.func169 rfl rfl rfl rfl ?_
  refine U.seq ?_
  refine U.rk ⟨[(0, lV (l.map dI))], [], 80⟩ hτ hmix (by kernel_rfl) (by kernel_rfl) rfl ?_
  refine U.seq ?_
  refine U.seq ?_
  refine U.rk ⟨[(0, lV (l.map dI)), (4, .bo ((l.map dI) = []) (True))], [], 112⟩ hτ hmix (by kernel_rfl) (by kernel_rfl) rfl ?_
  refine U.ifN (p := (l.map dI) = []) (q := True) (by kernel_rfl) (fun hb1 => ?_) (fun hb1 => ?_)
  · have hn := hb1
    refine U.seq ?_
    refine U.rk ⟨[(2, .e (.c (.nil)))], [], 128⟩ hτ hmix (by kernel_rfl) (by kernel_rfl) rfl ?_
    refine U.ret ?_
    exact ⟨trivial, .inr ⟨⟨[(2, .e (.c (.f (.sl []))))], [], 128⟩, Wk.less (by kernel_rfl), Ret.mk' [] (by rw [hn]; kernel_rfl) (by kernel_rfl) (by kernel_rfl)⟩⟩
  · have _ := trivial
    refine U.skip ?_
    refine U.seq ?_
    refine U.rs 2 hτ hmix (by kernel_rfl) ?_
    have el2 : (l.map dI).length = l.length := List.length_map ..
    refine CH.app hτ (rows := []) (rows2 := (l.map dI)) (sz := 1) (bys := 8) true (by kernel_rfl) (by kernel_rfl) (fun _ => flat_d dI (fun x => rfl)) (flat_ok (f := dI) (fun x => rfl)) (by simp only [List.length_map] <;> (first | done | omega | (simp; done) | (simp; omega))) (by kernel_rfl) ?_
    refine CH.go 1 hτ (by kernel_rfl) ?_
    refine CH.endk ⟨[(2, rV 144)], [(144, some (.row 1 3 (l.map dI) false true))], 176⟩ (by kernel_rfl) (by kernel_rfl) rfl ?_
    refine U.ret ?_
    exact ⟨trivial, .inr ⟨⟨[(2, .e (.c (.f (.sl (l.map dI)))))], [(144, some (.row 1 3 (l.map dI) true true))], 176⟩, Wk.less (by kernel_rfl), Ret.mk' [] (by kernel_rfl) (by kernel_rfl) (by kernel_rfl)⟩⟩

theorem i_clone_Tx (l : List S120) (hl : l.length ≤ 2000000) : ∃ r0 : List S120, (r0 = l) ∧ Fn Try.prog 145 [lV (l.map d120)] (lookH []) (.e (.c (.f (.sl (r0.map d120))))) (lookH []) := by
  refine ⟨_, rfl, ?_⟩
  refine Fn.bodyU (N := 8) hτ Try.func145 rfl rfl rfl rfl ?_
  refine U.seq ?_
  refine U.rk ⟨[(0, lV (l.map d120))], [], 80⟩ hτ hmix (by kernel_rfl) (by kernel_rfl) rfl ?_
  refine U.seq ?_
  refine U.seq ?_
  refine U.rk ⟨[(0, lV (l.map d120)), (4, .bo ((l.map d120) = []) (True))], [], 112⟩ hτ hmix (by kernel_rfl) (by kernel_rfl) rfl ?_
  refine U.ifN (p := (l.map d120) = []) (q := True) (by kernel_rfl) (fun hb1 => ?_) (fun hb1 => ?_)
  · have hn := hb1
    refine U.seq ?_
    refine U.rk ⟨[(2, .e (.c (.nil)))], [], 128⟩ hτ hmix (by kernel_rfl) (by kernel_rfl) rfl ?_
    refine U.ret ?_
    exact ⟨trivial, .inr ⟨⟨[(2, .e (.c (.f (.sl []))))], [], 128⟩, Wk.less (by kernel_rfl), Ret.mk' [] (by rw [hn]; kernel_rfl) (by kernel_rfl) (by kernel_rfl)⟩⟩
  · have _ := trivial
    refine U.skip ?_
    refine U.seq ?_
    refine U.rs 2 hτ hmix (by kernel_rfl) ?_
    have el2 : (l.map d120).length = l.length := List.length_map ..
    refine CH.app hτ (rows := []) (rows2 := (l.map d120)) (sz := 5) (bys := 56) true (by kernel_rfl) (by kernel_rfl) (fun _ => flat_d d120 (fun x => rfl)) (flat_ok (f := d120) (fun x => rfl)) (by simp only [List.length_map] <;> (first | done | omega | (simp; done) | (simp; omega))) (by kernel_rfl) ?_
    refine CH.go 1 hτ (by kernel_rfl) ?_
    refine CH.endk ⟨[(2, rV 144)], [(144, some (.row 5 120 (l.map d120) false true))], 176⟩ (by kernel_rfl) (by kernel_rfl) rfl ?_
    refine U.ret ?_
    exact ⟨trivial, .inr ⟨⟨[(2, .e (.c (.f (.sl (l.map d120)))))], [(144, some (.row 5 120 (l.map d120) true true))], 176⟩, Wk.less (by kernel_rfl), Ret.mk' [] (by kernel_rfl) (by kernel_rfl) (by kernel_rfl)⟩⟩

theorem i_clone_Val (l : List S122) (hl : l.length ≤ 2000000) : ∃ r0 : List S122, (r0 = l) ∧ Fn Try.prog 146 [lV (l.map d122)] (lookH []) (.e (.c (.f (.sl (r0.map d122))))) (lookH []) := by
  refine ⟨_, rfl, ?_⟩
  refine Fn.bodyU (N := 8) hτ Try.func146 rfl rfl rfl rfl ?_
  refine U.seq ?_
  refine U.rk ⟨[(0, lV (l.map d122))], [], 80⟩ hτ hmix (by kernel_rfl) (by kernel_rfl) rfl ?_
  refine U.seq ?_
  refine U.seq ?_
  refine U.rk ⟨[(0, lV (l.map d122)), (4, .bo ((l.map d122) = []) (True))], [], 112⟩ hτ hmix (by kernel_rfl) (by kernel_rfl) rfl ?_
  refine U.ifN (p := (l.map d122) = []) (q := True) (by kernel_rfl) (fun hb1 => ?_) (fun hb1 => ?_)
  · have hn := hb1
    refine U.seq ?_
    refine U.rk ⟨[(2, .e (.c (.nil)))], [], 128⟩ hτ hmix (by kernel_rfl) (by kernel_rfl) rfl ?_
    refine U.ret ?_
    exact ⟨trivial, .inr ⟨⟨[(2, .e (.c (.f (.sl []))))], [], 128⟩, Wk.less (by kernel_rfl), Ret.mk' [] (by rw [hn]; kernel_rfl) (by kernel_rfl) (by kernel_rfl)⟩⟩
  · have _ := trivial
    refine U.skip ?_
    refine U.seq ?_
    refine U.rs 2 hτ hmix (by kernel_rfl) ?_
    have el2 : (l.map d122).length = l.length := List.length_map ..
    refine CH.app hτ (rows := []) (rows2 := (l.map d122)) (sz := 2) (bys := 24) true (by kernel_rfl) (by kernel_rfl) (fun _ => flat_d d122 (fun x => rfl)) (flat_ok (f := d122) (fun x => rfl)) (by simp only [List.length_map] <;> (first | done | omega | (simp; done) | (simp; omega))) (by kernel_rfl) ?_
    refine CH.go 1 hτ (by kernel_rfl) ?_
    refine CH.endk ⟨[(2, rV 144)], [(144, some (.row 2 122 (l.map d122) false true))], 176⟩ (by kernel_rfl) (by kernel_rfl) rfl ?_
    refine U.ret ?_
    exact ⟨trivial, .inr ⟨⟨[(2, .e (.c (.f (.sl (l.map d122)))))], [(144, some (.row 2 122 (l.map d122) true true))], 176⟩, Wk.less (by kernel_rfl), Ret.mk' [] (by kernel_rfl) (by kernel_rfl) (by kernel_rfl)⟩⟩

theorem i_blockAt1 (id : Int) (b : S59) : ∃ r0 : Bool, (r0 = (b.f0 == id)) ∧ Fn Try.prog 118 [.e (.agg (cD (d59 b))), .pt 0 0 0] (lookH [(0, some (.box [.k 0 (.v (.int .i64 id))]))]) (bV r0) (lookH [(0, some (.box [.k 0 (.v (.int .i64 id))]))]) := by
  have key : ∃ x' h', ((fun x' h' => ∃ r0 : Bool, (r0 = (b.f0 == id)) ∧ x' = bV r0 ∧ h' = [(0, some (.box [.k 0 (.v (.int .i64 id))]))])) x' h' ∧ Fn Try.prog 118 [.e (.agg (cD (d59 b))), .pt 0 0 0] (lookH [(0, some (.box [.k 0 (.v (.int .i64 id))]))]) x' (lookH h') := by
    refine Fn.bodyX (N := 8) hτ Try.func118 rfl rfl rfl rfl ?_
    refine X.seq ?_
    refine X.rk ⟨[(1, .pt 0 0 0), (2, .pt 64 0 0)], [(0, some (.box [.k 0 (.v (.int .i64 id))])), (64, some (.box (cD (d59 b))))], 96⟩ hτ hmix (by kernel_rfl) (by kernel_rfl) rfl ?_
    refine X.seq ?_
    refine X.rk ⟨[(3, bV (b.f0 == id))], [(0, some (.box [.k 0 (.v (.int .i64 id))]))], 176⟩ hτ hmix (by kernel_rfl) (by kernel_rfl) rfl ?_
    refine X.ret ?_
    exact ⟨trivial, _, _, ⟨(b.f0 == id), by first | exact rfl | omega | (dsimp only; omega) | (simp only [List.length_append, List.length_cons, List.length_nil, List.length_set]; omega) | (simp; done) | (simp; omega), rfl, rfl⟩, .inl (Ret.mk' [] (by kernel_rfl) (by kernel_rfl) (by kernel_rfl))⟩
  obtain ⟨_, _, ⟨r0, q1, rfl, rfl⟩, hf⟩ := key
  exact ⟨r0, q1, hf⟩

theorem i_indexBlock (id : Int) (l : List S59) (hl : l.length ≤ 2000000) : ∃ r0 : Int, (r0 = idAt l id) ∧ Fn Try.prog 117 [lV (l.map d59), .fv 118 0] (lookH [(0, some (.box [.k 0 (.v (.int .i64 id))]))]) (iV r0) (lookH [(0, some (.box [.k 0 (.v (.int .i64 id))]))]) := by
  have key : ∃ x' h', ((fun x' h' => ∃ r0 : Int, (r0 = idAt l id) ∧ x' = iV r0 ∧ h' = [(0, some (.box [.k 0 (.v (.int .i64 id))]))])) x' h' ∧ Fn Try.prog 117 [lV (l.map d59), .fv 118 0] (lookH [(0, some (.box [.k 0 (.v (.int .i64 id))]))]) x' (lookH h') := by
    refine Fn.bodyX (N := 19) hτ Try.func117 rfl rfl rfl rfl ?_
    refine X.seq ?_
    refine X.rk ⟨[(0, lV (l.map d59)), (1, .fv 118 0)], [(0, some (.box [.k 0 (.v (.int .i64 id))]))], 80⟩ hτ hmix (by kernel_rfl) (by kernel_rfl) rfl ?_
    refine X.seq ?_
    refine X.seq ?_
    have el1 : (l.map d59).length = l.length := List.length_map ..
    refine X.rk ⟨[(0, lV (l.map d59)), (1, .fv 118 0), (7, iV ((l.map d59).length : Int)), (8, iV 0)], [(0, some (.box [.k 0 (.v (.int .i64 id))]))], 128⟩ hτ hmix (by kernel_rfl) (by kernel_rfl) rfl ?_
    refine X.block ?_
    -- 2: v8 : Int
    refine X.loop (σ := { g : Int // (fun (v8 : Int) => 0 ≤ v8 ∧ v8 ≤ l.length ∧ ∀ (j : Nat) (y : S59), j < v8.toNat → l[j]? = some y → y.f0 ≠ id) g }) (fun g => (fun (v8 : Int) => ⟨[(0, lV (l.map d59)), (1, .fv 118 0), (7, iV ((l.map d59).length : Int)), (8, iV v8)], [(0, some (.box [.k 0 (.v (.int .i64 id))]))], 128⟩) g.1) (fun g => (fun (v8 : Int) => (l.length - v8).toNat) g.1) ⟨0, ⟨by first | omega | (dsimp only; omega), by first | omega | (dsimp only; omega), fun j y h => by simp at h⟩⟩ (Wk.less (by kernel_rfl)) (fun g => ?_)
    obtain ⟨v8, hg3⟩ := g
    have hg3 : 0 ≤ v8 ∧ v8 ≤ l.length ∧ ∀ (j : Nat) (y : S59), j < v8.toNat → l[j]? = some y → y.f0 ≠ id := hg3
    obtain ⟨_, _, hn⟩ := hg3
    refine X.seq ?_
    refine X.rk ⟨[(0, lV (l.map d59)), (1, .fv 118 0), (7, iV ((l.map d59).length : Int)), (8, iV v8), (9, bV (decide ((v8 : Int) < ((l.map d59).length : Int))))], [(0, some (.box [.k 0 (.v (.int .i64 id))]))], 144⟩ hτ hmix (by kernel_rfl) (by kernel_rfl) rfl ?_
    refine X.seq ?_
    refine X.if_ (b := decide ((v8 : Int) < ((l.map d59).length : Int))) (by kernel_rfl) (fun hb4 => ?_) (fun hb4 => ?_)
    · replace hb4 := of_decide_eq_true (hb4)
      refine X.skip ?_
      refine X.seq ?_
      refine X.block ?_
      refine X.seq ?_
      refine X.rk ⟨[(0, lV (l.map d59)), (1, .fv 118 0), (5, iV v8), (7, iV ((l.map d59).length : Int)), (8, iV v8)], [(0, some (.box [.k 0 (.v (.int .i64 id))]))], 176⟩ hτ hmix (by kernel_rfl) (by kernel_rfl) rfl ?_
      refine X.seq ?_
      refine X.rs 3 hτ hmix (by kernel_rfl) ?_
      obtain ⟨x5, hx5⟩ : ∃ x, l[Int.toNat v8]? = some x := ⟨_, List.getElem?_eq_getElem (by first | omega | (simp; done) | (simp; omega))⟩
      refine CH.idx hτ (d59 x5) (rows := (l.map d59)) (n := v8) (sz := 14) (by kernel_rfl) (by kernel_rfl) (by first | omega | (simp; done) | (simp; omega)) (by rw [List.getElem?_map, hx5]; rfl) (by kernel_rfl) ?_
      refine CH.go 1 hτ (by kernel_rfl) ?_
      obtain ⟨r6, hr8, hf7⟩ := i_blockAt1 id x5
      replace hr8 := hr8.symm; subst hr8
      refine CH.callV hf7 Try.func118 ⟨rfl, rfl⟩ [(0, 0)] (by kernel_rfl) (by kernel_rfl) (by kernel_rfl) (by kernel_rfl) ?_
      refine CH.endk ⟨[(0, lV (l.map d59)), (1, .fv 118 0), (5, iV v8), (7, iV ((l.map d59).length : Int)), (8, iV v8), (16, bV (x5.f0 == id))], [(0, some (.box [.k 0 (.v (.int .i64 id))]))], 272⟩ (by kernel_rfl) (by kernel_rfl) rfl ?_
      refine X.if_ (b := (x5.f0 == id)) (by kernel_rfl) (fun hb10 => ?_) (fun hb10 => ?_)
      · replace hb10 := eq_of_beq (hb10)
        refine X.seq ?_
        refine X.rk ⟨[(4, iV v8)], [(0, some (.box [.k 0 (.v (.int .i64 id))]))], 304⟩ hτ hmix (by kernel_rfl) (by kernel_rfl) rfl ?_
        refine X.ret ?_
        exact ⟨trivial, _, _, ⟨v8, (idAt_yes (by omega) ‹_› ‹_› hn).symm, rfl, rfl⟩, .inl (Ret.mk' [] (by kernel_rfl) (by kernel_rfl) (by kernel_rfl))⟩
      · replace hb10 := beq_eq_false_iff_ne.1 (hb10)
        refine X.skip ?_
        refine X.rk ⟨[(0, lV (l.map d59)), (1, .fv 118 0), (7, iV ((l.map d59).length : Int)), (8, iV (wrap64 (v8 + 1)))], [(0, some (.box [.k 0 (.v (.int .i64 id))]))], 304⟩ hτ hmix (by kernel_rfl) (by kernel_rfl) (s2 := ⟨[(0, lV (l.map d59)), (1, .fv 118 0), (7, iV ((l.map d59).length : Int)), (8, iV (v8 + 1))], [(0, some (.box [.k 0 (.v (.int .i64 id))]))], 304⟩) (congrArg (fun z : Int => (⟨[(0, lV (l.map d59)), (1, .fv 118 0), (7, iV ((l.map d59).length : Int)), (8, iV z)], [(0, some (.box [.k 0 (.v (.int .i64 id))]))], 304⟩ : St)) (show wrap64 (v8 + 1) = (v8 + 1) by rw [w64 (n := (v8 + 1)) (by omega) (by omega)])) ?_
        refine ⟨⟨(v8 + 1), ⟨by first | omega | (dsimp only; omega), by first | omega | (dsimp only; omega), before_succ (by first | omega | (dsimp only; omega)) ‹_› ‹_› hn⟩⟩, by first | exact rfl | omega | (dsimp only; omega) | (simp only [List.length_append, List.length_cons, List.length_nil, List.length_set]; omega) | (simp; done) | (simp; omega), Wk.mk' [] (by kernel_rfl) (by kernel_rfl) (by kernel_rfl)⟩
    · replace hb4 := of_decide_eq_false (hb4)
      refine X.exit ?_
      refine X.seq ?_
      refine X.rk ⟨[(4, iV (-1))], [(0, some (.box [.k 0 (.v (.int .i64 id))]))], 160⟩ hτ hmix (by kernel_rfl) (by kernel_rfl) rfl ?_
      refine X.ret ?_
      exact ⟨trivial, _, _, ⟨(-1), (idAt_no fun j y hj => hn j y (by have := (List.getElem?_eq_some_iff.1 hj).1; omega) hj).symm, rfl, rfl⟩, .inl (Ret.mk' [] (by kernel_rfl) (by kernel_rfl) (by kernel_rfl))⟩
  obtain ⟨_, _, ⟨r0, q1, rfl, rfl⟩, hf⟩ := key
  exact ⟨r0, q1, hf⟩

theorem i_blockAt (l : List S59) (id : Int) (hl : l.length ≤ 2000000) : ∃ r0 : Int, (r0 = idAt l id) ∧ Fn Try.prog 56 [lV (l.map d59), iV id] (lookH []) (iV r0) (lookH []) := by
  have key : ∃ x' h', ((fun x' h' => ∃ r0 : Int, (r0 = idAt l id) ∧ x' = iV r0 ∧ h' = [])) x' h' ∧ Fn Try.prog 56 [lV (l.map d59), iV id] (lookH []) x' (lookH h') := by
    refine Fn.bodyX (N := 8) hτ Try.func56 rfl rfl rfl rfl ?_
    refine X.seq ?_
    refine X.rk ⟨[(0, lV (l.map d59)), (3, .pt 64 0 0)], [(64, some (.box [.d (.v (.int .i64 id))]))], 96⟩ hτ hmix (by kernel_rfl) (by kernel_rfl) rfl ?_
    refine X.seq ?_
    refine X.rs 2 hτ hmix (by kernel_rfl) ?_
    obtain ⟨r1, hr3, hf2⟩ := i_indexBlock id l (by omega)
    replace hr3 := hr3.symm; subst hr3
    refine CH.call hf2 Try.func117 ⟨rfl, rfl⟩ [(64, 0)] (by kernel_rfl) (by kernel_rfl) (by kernel_rfl) (by kernel_rfl) ?_
    refine CH.go 1 hτ (by kernel_rfl) ?_
    refine CH.endk ⟨[(4, iV (idAt l id))], [], 160⟩ (by kernel_rfl) (by kernel_rfl) rfl ?_
    refine X.ret ?_
    exact ⟨trivial, _, _, ⟨(idAt l id), by first | exact rfl | omega | (dsimp only; omega) | (simp only [List.length_append, List.length_cons, List.length_nil, List.length_set]; omega) | (simp; done) | (simp; omega), rfl, rfl⟩, .inl (Ret.mk' [] (by kernel_rfl) (by kernel_rfl) (by kernel_rfl))⟩
  obtain ⟨_, _, ⟨r0, q1, rfl, rfl⟩, hf⟩ := key
  exact ⟨r0, q1, hf⟩

theorem i_copyQc (q : S31) (hq : q.f2.length ≤ 2000000) : ∃ r0 : S31, (r0 = q) ∧ Fn Try.prog 143 [.e (.agg (cD (d31 q)))] (lookH []) (.e (.agg [.d (.v (.int .i64 r0.f0)), .d (.v (.int .i64 r0.f1)), .f (.sl (r0.f2.map dS))])) (lookH []) := by
  have key : ∃ x' h', ((fun x' h' => ∃ r0 : S31, (r0 = q) ∧ x' = .e (.agg [.d (.v (.int .i64 r0.f0)), .d (.v (.int .i64 r0.f1)), .f (.sl (r0.f2.map dS))]) ∧ h' = [])) x' h' ∧ Fn Try.prog 143 [.e (.agg (cD (d31 q)))] (lookH []) x' (lookH h') := by
    refine Fn.bodyX (N := 8) hτ Try.func143 rfl rfl rfl rfl ?_
    refine X.seq ?_
    refine X.rk ⟨[(1, .pt 64 0 0), (2, .pt 80 0 0)], [(64, some (.box (cD (d31 q)))), (80, some (.box [.d (.v (.int .i64 0)), .d (.v (.int .i64 0)), .nil]))], 96⟩ hτ hmix (by kernel_rfl) (by kernel_rfl) rfl ?_
    refine X.seq ?_
    have hq2 := hq
    try simp only [Sm59, Sm31, Sm55, SmN, SmT, SmV] at hq2
    refine X.rs 2 hτ hmix (by kernel_rfl) ?_
    obtain ⟨r1, hr3, hf2⟩ := i_clone_string q.f2 (by omega)
    replace hr3 := hr3.symm; subst hr3
    refine CH.call hf2 Try.func168 ⟨rfl, rfl⟩ [] (by kernel_rfl) (by kernel_rfl) (by kernel_rfl) (by kernel_rfl) ?_
    refine CH.go 2 hτ (by kernel_rfl) ?_
    refine CH.endk ⟨[(1, .pt 64 0 0), (2, .pt 80 0 0)], [(64, some (.box [.d (.v (.int .i64 q.f0)), .d (.v (.int .i64 q.f1)), .f (.sl (q.f2.map dS))])), (80, some (.box [.d (.v (.int .i64 0)), .d (.v (.int .i64 0)), .nil]))], 176⟩ (by kernel_rfl) (by kernel_rfl) rfl ?_
    refine X.seq ?_
    refine X.rk ⟨[(2, .pt 80 0 0)], [(80, some (.box [.d (.v (.int .i64 q.f0)), .d (.v (.int .i64 q.f1)), .f (.sl (q.f2.map dS))]))], 208⟩ hτ hmix (by kernel_rfl) (by kernel_rfl) rfl ?_
    refine X.ret ?_
    exact ⟨trivial, _, _, ⟨q, by first | exact rfl | omega | (dsimp only; omega) | (simp only [List.length_append, List.length_cons, List.length_nil, List.length_set]; omega) | (simp; done) | (simp; omega), rfl, rfl⟩, .inl (Ret.mk' [] (by kernel_rfl) (by kernel_rfl) (by kernel_rfl))⟩
  obtain ⟨_, _, ⟨r0, q1, rfl, rfl⟩, hf⟩ := key
  exact ⟨r0, q1, hf⟩

theorem i_copyTc (q : S55) (hq : q.f1.length ≤ 2000000 ∧ q.f2.length ≤ 2000000) : ∃ r0 : S55, (r0 = q) ∧ Fn Try.prog 144 [.e (.agg (cD (d55 q)))] (lookH []) (.e (.agg [.d (.v (.int .i64 r0.f0)), .f (.sl (r0.f1.map dS)), .f (.sl (r0.f2.map dI))])) (lookH []) := by
  have key : ∃ x' h', ((fun x' h' => ∃ r0 : S55, (r0 = q) ∧ x' = .e (.agg [.d (.v (.int .i64 r0.f0)), .f (.sl (r0.f1.map dS)), .f (.sl (r0.f2.map dI))]) ∧ h' = [])) x' h' ∧ Fn Try.prog 144 [.e (.agg (cD (d55 q)))] (lookH []) x' (lookH h') := by
    refine Fn.bodyX (N := 12) hτ Try.func144 rfl rfl rfl rfl ?_
    refine X.seq ?_
    refine X.rk ⟨[(1, .pt 64 0 0), (2, .pt 80 0 0)], [(64, some (.box (cD (d55 q)))), (80, some (.box [.d (.v (.int .i64 0)), .nil, .nil]))], 96⟩ hτ hmix (by kernel_rfl) (by kernel_rfl) rfl ?_
    refine X.seq ?_
    have hq2 := hq
    try simp only [Sm59, Sm31, Sm55, SmN, SmT, SmV] at hq2
    refine X.rs 2 hτ hmix (by kernel_rfl) ?_
    obtain ⟨r1, hr3, hf2⟩ := i_clone_string q.f1 (by omega)
    replace hr3 := hr3.symm; subst hr3
    refine CH.call hf2 Try.func168 ⟨rfl, rfl⟩ [] (by kernel_rfl) (by kernel_rfl) (by kernel_rfl) (by kernel_rfl) ?_
    refine CH.go 2 hτ (by kernel_rfl) ?_
    obtain ⟨r5, hr7, hf6⟩ := i_clone_int q.f2 (by omega)
    replace hr7 := hr7.symm; subst hr7
    refine CH.call hf6 Try.func169 ⟨rfl, rfl⟩ [] (by kernel_rfl) (by kernel_rfl) (by kernel_rfl) (by kernel_rfl) ?_
    refine CH.go 4 hτ (by kernel_rfl) ?_
    refine CH.endk ⟨[(1, .pt 64 0 0), (2, .pt 80 0 0)], [(64, some (.box [.d (.v (.int .i64 q.f0)), .f (.sl (q.f1.map dS)), .f (.sl (q.f2.map dI))])), (80, some (.box [.d (.v (.int .i64 0)), .nil, .nil]))], 256⟩ (by kernel_rfl) (by kernel_rfl) rfl ?_
    refine X.seq ?_
    refine X.rk ⟨[(2, .pt 80 0 0)], [(80, some (.box [.d (.v (.int .i64 q.f0)), .f (.sl (q.f1.map dS)), .f (.sl (q.f2.map dI))]))], 288⟩ hτ hmix (by kernel_rfl) (by kernel_rfl) rfl ?_
    refine X.ret ?_
    exact ⟨trivial, _, _, ⟨q, by first | exact rfl | omega | (dsimp only; omega) | (simp only [List.length_append, List.length_cons, List.length_nil, List.length_set]; omega) | (simp; done) | (simp; omega), rfl, rfl⟩, .inl (Ret.mk' [] (by kernel_rfl) (by kernel_rfl) (by kernel_rfl))⟩
  obtain ⟨_, _, ⟨r0, q1, rfl, rfl⟩, hf⟩ := key
  exact ⟨r0, q1, hf⟩

theorem i_copyBlock (q : S59) (hq : Sm59 q) : ∃ r0 : S59, (r0 = q) ∧ Fn Try.prog 80 [.e (.agg (cD (d59 q)))] (lookH []) (.e (.agg [.d (.v (.int .i64 r0.f0)), .d (.v (.int .i64 r0.f1)), .d (.v (.int .i64 r0.f2)), .d (.v (.string r0.f3)), .d (.v (.int .i64 r0.f4.f0)), .d (.v (.int .i64 r0.f4.f1)), .f (.sl (r0.f4.f2.map dS)), .d (.v (.int .i64 r0.f5.f0)), .f (.sl (r0.f5.f1.map dS)), .f (.sl (r0.f5.f2.map dI)), .f (.sl (r0.f6.map d120)), .d (.v (.bool r0.f7)), .f (.sl (r0.f8.map d122)), .d (.v (.string r0.f9))])) (lookH []) := by
  have key : ∃ x' h', ((fun x' h' => ∃ r0 : S59, (r0 = q) ∧ x' = .e (.agg [.d (.v (.int .i64 r0.f0)), .d (.v (.int .i64 r0.f1)), .d (.v (.int .i64 r0.f2)), .d (.v (.string r0.f3)), .d (.v (.int .i64 r0.f4.f0)), .d (.v (.int .i64 r0.f4.f1)), .f (.sl (r0.f4.f2.map dS)), .d (.v (.int .i64 r0.f5.f0)), .f (.sl (r0.f5.f1.map dS)), .f (.sl (r0.f5.f2.map dI)), .f (.sl (r0.f6.map d120)), .d (.v (.bool r0.f7)), .f (.sl (r0.f8.map d122)), .d (.v (.string r0.f9))]) ∧ h' = [])) x' h' ∧ Fn Try.prog 80 [.e (.agg (cD (d59 q)))] (lookH []) x' (lookH h') := by
    refine Fn.bodyX (N := 20) hτ Try.func80 rfl rfl rfl rfl ?_
    refine X.seq ?_
    refine X.rk ⟨[(1, .pt 64 0 0), (2, .pt 80 0 0)], [(64, some (.box (cD (d59 q)))), (80, some (.box [.d (.v (.int .i64 0)), .d (.v (.int .i64 0)), .d (.v (.int .i64 0)), .d (.v (.string (⟨#[]⟩ : ByteArray))), .d (.v (.int .i64 0)), .d (.v (.int .i64 0)), .nil, .d (.v (.int .i64 0)), .nil, .nil, .nil, .d (.v (.bool false)), .nil, .d (.v (.string (⟨#[]⟩ : ByteArray)))]))], 96⟩ hτ hmix (by kernel_rfl) (by kernel_rfl) rfl ?_
    refine X.seq ?_
    have hq2 := hq
    try simp only [Sm59, Sm31, Sm55, SmN, SmT, SmV] at hq2
    refine X.rs 2 hτ hmix (by kernel_rfl) ?_
    obtain ⟨r1, hr3, hf2⟩ := i_copyQc q.f4 (by omega)
    replace hr3 := hr3.symm; subst hr3
    refine CH.call hf2 Try.func143 ⟨rfl, rfl⟩ [] (by kernel_rfl) (by kernel_rfl) (by kernel_rfl) (by kernel_rfl) ?_
    refine CH.go 2 hτ (by kernel_rfl) ?_
    obtain ⟨r5, hr7, hf6⟩ := i_copyTc q.f5 (by omega)
    replace hr7 := hr7.symm; subst hr7
    refine CH.call hf6 Try.func144 ⟨rfl, rfl⟩ [] (by kernel_rfl) (by kernel_rfl) (by kernel_rfl) (by kernel_rfl) ?_
    refine CH.go 4 hτ (by kernel_rfl) ?_
    refine CH.endk ⟨[(1, .pt 64 0 0), (2, .pt 80 0 0)], [(64, some (.box [.d (.v (.int .i64 q.f0)), .d (.v (.int .i64 q.f1)), .d (.v (.int .i64 q.f2)), .d (.v (.string q.f3)), .d (.v (.int .i64 q.f4.f0)), .d (.v (.int .i64 q.f4.f1)), .f (.sl (q.f4.f2.map dS)), .d (.v (.int .i64 q.f5.f0)), .f (.sl (q.f5.f1.map dS)), .f (.sl (q.f5.f2.map dI)), .d (.sl (q.f6.map d120)), .d (.v (.bool q.f7)), .d (.sl (q.f8.map d122)), .d (.v (.string q.f9))])), (80, some (.box [.d (.v (.int .i64 0)), .d (.v (.int .i64 0)), .d (.v (.int .i64 0)), .d (.v (.string (⟨#[]⟩ : ByteArray))), .d (.v (.int .i64 0)), .d (.v (.int .i64 0)), .nil, .d (.v (.int .i64 0)), .nil, .nil, .nil, .d (.v (.bool false)), .nil, .d (.v (.string (⟨#[]⟩ : ByteArray)))]))], 256⟩ (by kernel_rfl) (by kernel_rfl) rfl ?_
    refine X.seq ?_
    refine X.rs 2 hτ hmix (by kernel_rfl) ?_
    obtain ⟨r9, hr11, hf10⟩ := i_clone_Tx q.f6 (by omega)
    replace hr11 := hr11.symm; subst hr11
    refine CH.call hf10 Try.func145 ⟨rfl, rfl⟩ [] (by kernel_rfl) (by kernel_rfl) (by kernel_rfl) (by kernel_rfl) ?_
    refine CH.go 2 hτ (by kernel_rfl) ?_
    obtain ⟨r13, hr15, hf14⟩ := i_clone_Val q.f8 (by omega)
    replace hr15 := hr15.symm; subst hr15
    refine CH.call hf14 Try.func146 ⟨rfl, rfl⟩ [] (by kernel_rfl) (by kernel_rfl) (by kernel_rfl) (by kernel_rfl) ?_
    refine CH.go 4 hτ (by kernel_rfl) ?_
    refine CH.endk ⟨[(1, .pt 64 0 0), (2, .pt 80 0 0)], [(64, some (.box [.d (.v (.int .i64 q.f0)), .d (.v (.int .i64 q.f1)), .d (.v (.int .i64 q.f2)), .d (.v (.string q.f3)), .d (.v (.int .i64 q.f4.f0)), .d (.v (.int .i64 q.f4.f1)), .f (.sl (q.f4.f2.map dS)), .d (.v (.int .i64 q.f5.f0)), .f (.sl (q.f5.f1.map dS)), .f (.sl (q.f5.f2.map dI)), .f (.sl (q.f6.map d120)), .d (.v (.bool q.f7)), .f (.sl (q.f8.map d122)), .d (.v (.string q.f9))])), (80, some (.box [.d (.v (.int .i64 0)), .d (.v (.int .i64 0)), .d (.v (.int .i64 0)), .d (.v (.string (⟨#[]⟩ : ByteArray))), .d (.v (.int .i64 0)), .d (.v (.int .i64 0)), .nil, .d (.v (.int .i64 0)), .nil, .nil, .nil, .d (.v (.bool false)), .nil, .d (.v (.string (⟨#[]⟩ : ByteArray)))]))], 416⟩ (by kernel_rfl) (by kernel_rfl) rfl ?_
    refine X.seq ?_
    refine X.rk ⟨[(2, .pt 80 0 0)], [(80, some (.box [.d (.v (.int .i64 q.f0)), .d (.v (.int .i64 q.f1)), .d (.v (.int .i64 q.f2)), .d (.v (.string q.f3)), .d (.v (.int .i64 q.f4.f0)), .d (.v (.int .i64 q.f4.f1)), .f (.sl (q.f4.f2.map dS)), .d (.v (.int .i64 q.f5.f0)), .f (.sl (q.f5.f1.map dS)), .f (.sl (q.f5.f2.map dI)), .f (.sl (q.f6.map d120)), .d (.v (.bool q.f7)), .f (.sl (q.f8.map d122)), .d (.v (.string q.f9))]))], 448⟩ hτ hmix (by kernel_rfl) (by kernel_rfl) rfl ?_
    refine X.ret ?_
    exact ⟨trivial, _, _, ⟨q, by first | exact rfl | omega | (dsimp only; omega) | (simp only [List.length_append, List.length_cons, List.length_nil, List.length_set]; omega) | (simp; done) | (simp; omega), rfl, rfl⟩, .inl (Ret.mk' [] (by kernel_rfl) (by kernel_rfl) (by kernel_rfl))⟩
  obtain ⟨_, _, ⟨r0, q1, rfl, rfl⟩, hf⟩ := key
  exact ⟨r0, q1, hf⟩

theorem i_BlockAt (l : List S59) (id : Int) (hl : SmL l) : ∃ r0 : S59, ∃ r1 : Bool, (r0 = (findB l id).getD z59 ∧ r1 = (findB l id).isSome) ∧ Fn Try.prog 42 [lV (l.map d59), iV id] (lookH []) (.tup [.agg [.d (.v (.int .i64 r0.f0)), .d (.v (.int .i64 r0.f1)), .d (.v (.int .i64 r0.f2)), .d (.v (.string r0.f3)), .d (.v (.int .i64 r0.f4.f0)), .d (.v (.int .i64 r0.f4.f1)), .f (.sl (r0.f4.f2.map dS)), .d (.v (.int .i64 r0.f5.f0)), .f (.sl (r0.f5.f1.map dS)), .f (.sl (r0.f5.f2.map dI)), .f (.sl (r0.f6.map d120)), .d (.v (.bool r0.f7)), .f (.sl (r0.f8.map d122)), .d (.v (.string r0.f9))], .c (.d (.v (.bool r1)))]) (lookH []) := by
  have key : ∃ x' h', ((fun x' h' => ∃ r0 : S59, ∃ r1 : Bool, (r0 = (findB l id).getD z59 ∧ r1 = (findB l id).isSome) ∧ x' = .tup [.agg [.d (.v (.int .i64 r0.f0)), .d (.v (.int .i64 r0.f1)), .d (.v (.int .i64 r0.f2)), .d (.v (.string r0.f3)), .d (.v (.int .i64 r0.f4.f0)), .d (.v (.int .i64 r0.f4.f1)), .f (.sl (r0.f4.f2.map dS)), .d (.v (.int .i64 r0.f5.f0)), .f (.sl (r0.f5.f1.map dS)), .f (.sl (r0.f5.f2.map dI)), .f (.sl (r0.f6.map d120)), .d (.v (.bool r0.f7)), .f (.sl (r0.f8.map d122)), .d (.v (.string r0.f9))], .c (.d (.v (.bool r1)))] ∧ h' = [])) x' h' ∧ Fn Try.prog 42 [lV (l.map d59), iV id] (lookH []) x' (lookH h') := by
    refine Fn.bodyX (N := 18) hτ Try.func42 rfl rfl rfl rfl ?_
    refine X.seq ?_
    refine X.rk ⟨[(0, lV (l.map d59)), (1, iV id), (4, .pt 64 0 0)], [(64, some (.box [.d (.v (.int .i64 0)), .d (.v (.int .i64 0)), .d (.v (.int .i64 0)), .d (.v (.string (⟨#[]⟩ : ByteArray))), .d (.v (.int .i64 0)), .d (.v (.int .i64 0)), .nil, .d (.v (.int .i64 0)), .nil, .nil, .nil, .d (.v (.bool false)), .nil, .d (.v (.string (⟨#[]⟩ : ByteArray)))]))], 96⟩ hτ hmix (by kernel_rfl) (by kernel_rfl) rfl ?_
    refine X.seq ?_
    have hll := hl.1
    refine X.rs 2 hτ hmix (by kernel_rfl) ?_
    obtain ⟨r1, hr3, hf2⟩ := i_blockAt l id (by omega)
    replace hr3 := hr3.symm; subst hr3
    have hid := idAt_bd l id
    refine CH.call hf2 Try.func56 ⟨rfl, rfl⟩ [] (by kernel_rfl) (by kernel_rfl) (by kernel_rfl) (by kernel_rfl) ?_
    refine CH.go 1 hτ (by kernel_rfl) ?_
    refine CH.endk ⟨[(0, lV (l.map d59)), (4, .pt 64 0 0), (6, iV (idAt l id))], [(64, some (.box [.d (.v (.int .i64 0)), .d (.v (.int .i64 0)), .d (.v (.int .i64 0)), .d (.v (.string (⟨#[]⟩ : ByteArray))), .d (.v (.int .i64 0)), .d (.v (.int .i64 0)), .nil, .d (.v (.int .i64 0)), .nil, .nil, .nil, .d (.v (.bool false)), .nil, .d (.v (.string (⟨#[]⟩ : ByteArray)))]))], 160⟩ (by kernel_rfl) (by kernel_rfl) rfl ?_
    refine X.seq ?_
    refine X.seq ?_
    refine X.rk ⟨[(0, lV (l.map d59)), (4, .pt 64 0 0), (6, iV (idAt l id)), (11, bV (decide (((idAt l id) : Int) < 0)))], [(64, some (.box [.d (.v (.int .i64 0)), .d (.v (.int .i64 0)), .d (.v (.int .i64 0)), .d (.v (.string (⟨#[]⟩ : ByteArray))), .d (.v (.int .i64 0)), .d (.v (.int .i64 0)), .nil, .d (.v (.int .i64 0)), .nil, .nil, .nil, .d (.v (.bool false)), .nil, .d (.v (.string (⟨#[]⟩ : ByteArray)))]))], 192⟩ hτ hmix (by kernel_rfl) (by kernel_rfl) rfl ?_
    refine X.if_ (b := decide (((idAt l id) : Int) < 0)) (by kernel_rfl) (fun hb5 => ?_) (fun hb5 => ?_)
    · replace hb5 := of_decide_eq_true (hb5)
      refine X.seq ?_
      refine X.rk ⟨[(4, .pt 64 0 0), (5, bV false)], [(64, some (.box [.d (.v (.int .i64 0)), .d (.v (.int .i64 0)), .d (.v (.int .i64 0)), .d (.v (.string (⟨#[]⟩ : ByteArray))), .d (.v (.int .i64 0)), .d (.v (.int .i64 0)), .nil, .d (.v (.int .i64 0)), .nil, .nil, .nil, .d (.v (.bool false)), .nil, .d (.v (.string (⟨#[]⟩ : ByteArray)))]))], 240⟩ hτ hmix (by kernel_rfl) (by kernel_rfl) rfl ?_
      refine X.ret ?_
      exact ⟨trivial, _, _, ⟨(⟨0, 0, 0, (⟨#[]⟩ : ByteArray), (⟨0, 0, []⟩ : S31), (⟨0, [], []⟩ : S55), [], false, [], (⟨#[]⟩ : ByteArray)⟩ : S59), false, by rw [idAt_neg (by assumption)]; exact ⟨rfl, rfl⟩, rfl, rfl⟩, .inr ⟨⟨[(4, .pt 64 0 0), (5, bV false)], [(64, some (.box [.d (.v (.int .i64 0)), .d (.v (.int .i64 0)), .d (.v (.int .i64 0)), .d (.v (.string (⟨#[]⟩ : ByteArray))), .d (.v (.int .i64 0)), .d (.v (.int .i64 0)), .f (.sl []), .d (.v (.int .i64 0)), .f (.sl []), .f (.sl []), .f (.sl []), .d (.v (.bool false)), .f (.sl []), .d (.v (.string (⟨#[]⟩ : ByteArray)))]))], 240⟩, Wk.less (by kernel_rfl), Ret.mk' [] (by kernel_rfl) (by kernel_rfl) (by kernel_rfl)⟩⟩
    · replace hb5 := of_decide_eq_false (hb5)
      refine X.skip ?_
      refine X.seq ?_
      refine X.rs 2 hτ hmix (by kernel_rfl) ?_
      obtain ⟨x6, hx6⟩ : ∃ x, l[Int.toNat (idAt l id)]? = some x := ⟨_, List.getElem?_eq_getElem (by first | omega | (simp; done) | (simp; omega))⟩
      have hq := hl.at hx6
      refine CH.idx hτ (d59 x6) (rows := (l.map d59)) (n := (idAt l id)) (sz := 14) (by kernel_rfl) (by kernel_rfl) (by first | omega | (simp; done) | (simp; omega)) (by rw [List.getElem?_map, hx6]; rfl) (by kernel_rfl) ?_
      refine CH.go 1 hτ (by kernel_rfl) ?_
      obtain ⟨r7, hr9, hf8⟩ := i_copyBlock x6 (by exact hq)
      replace hr9 := hr9.symm; subst hr9
      refine CH.call hf8 Try.func80 ⟨rfl, rfl⟩ [] (by kernel_rfl) (by kernel_rfl) (by kernel_rfl) (by kernel_rfl) ?_
      refine CH.go 2 hτ (by kernel_rfl) ?_
      refine CH.endk ⟨[(4, .pt 64 0 0), (5, bV true)], [(64, some (.box [.d (.v (.int .i64 x6.f0)), .d (.v (.int .i64 x6.f1)), .d (.v (.int .i64 x6.f2)), .d (.v (.string x6.f3)), .d (.v (.int .i64 x6.f4.f0)), .d (.v (.int .i64 x6.f4.f1)), .f (.sl (x6.f4.f2.map dS)), .d (.v (.int .i64 x6.f5.f0)), .f (.sl (x6.f5.f1.map dS)), .f (.sl (x6.f5.f2.map dI)), .f (.sl (x6.f6.map d120)), .d (.v (.bool x6.f7)), .f (.sl (x6.f8.map d122)), .d (.v (.string x6.f9))]))], 304⟩ (by kernel_rfl) (by kernel_rfl) rfl ?_
      refine X.ret ?_
      exact ⟨trivial, _, _, ⟨x6, true, by rw [idAt_at (by assumption) (by assumption)]; exact ⟨rfl, rfl⟩, rfl, rfl⟩, .inl (Ret.mk' [] (by kernel_rfl) (by kernel_rfl) (by kernel_rfl))⟩
  obtain ⟨_, _, ⟨r0, r1, q1, rfl, rfl⟩, hf⟩ := key
  exact ⟨r0, r1, q1, hf⟩

theorem l_big (c : List Int) (hl : c.length ≤ 4611686018427387904) : ∃ r0 : Bool, (True) ∧ Fn Try.prog 40 [lV (c.map dB)] (lookH []) (bV r0) (lookH []) := by
  have key : ∃ x' h', ((fun x' h' => ∃ r0 : Bool, (True) ∧ x' = bV r0 ∧ h' = [])) x' h' ∧ Fn Try.prog 40 [lV (c.map dB)] (lookH []) x' (lookH h') := by
    refine Fn.bodyX (N := 6) hτ Try.func40 rfl rfl rfl rfl ?_
    refine X.seq ?_
    refine X.rk ⟨[(0, lV (c.map dB))], [], 80⟩ hτ hmix (by kernel_rfl) (by kernel_rfl) rfl ?_
    refine X.seq ?_
    have el1 : (c.map dB).length = c.length := List.length_map ..
    refine X.rk ⟨[(2, bV (decide ((((c.map dB).length : Int) : Int) > 1048576)))], [], 144⟩ hτ hmix (by kernel_rfl) (by kernel_rfl) rfl ?_
    refine X.ret ?_
    exact ⟨trivial, _, _, ⟨decide ((((c.map dB).length : Int) : Int) > 1048576), trivial, rfl, rfl⟩, .inl (Ret.mk' [] (by kernel_rfl) (by kernel_rfl) (by kernel_rfl))⟩
  obtain ⟨_, _, ⟨r0, q1, rfl, rfl⟩, hf⟩ := key
  exact ⟨r0, q1, hf⟩

end Go.Proofs.Ytnldeeefiidcaaa.Av
