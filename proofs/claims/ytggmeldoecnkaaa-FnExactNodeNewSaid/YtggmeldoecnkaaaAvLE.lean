/-
What functions of the program come to, walked one by one.
Conditions: none beside those that each theorem names.
-/
import Derived.Test.YtggmeldoecnkaaaAvLG
import Derived.Test.YtggmeldoecnkaaaAv36
import Derived.Test.YtggmeldoecnkaaaAv24
import Derived.Test.YtggmeldoecnkaaaAvT
set_option linter.unusedVariables false
set_option linter.unusedSimpArgs false
namespace Go.Proofs.Ytggmeldoecnkaaa.Av
open Go.RowKit
set_option maxRecDepth 20000
set_option maxHeartbeats 4000000

section
variable {α : Type} {p : α → Bool} {l : List α} {i : Int} {x : α}
end
section
variable {g : S27} {k : Nat} {t : S35} {x : S38}
end
section
variable {g : S27} {t : S35} {a : S38}
end
section
variable {l : List S188} {n t i : Int} {x : S188} {L : List S188}
end
section
variable {l : List S188} {n t i : Int} {x : S188} {L : List S188} {p : Bool}
end
section
variable {g : S27} {k : Nat} {t : S35} {x y : S38}
end
theorem i_cloneR_Leave (l : List S188) (hl : l.length ≤ 2000001) : ∃ r0 : List S188, (r0 = l) ∧ Fn Try.prog 163 [lV (l.map d188)] (lookH []) (rV 64) (lookH [(64, some (.row 2 188 (r0.map d188) false true))]) := by
  refine ⟨_, rfl, ?_⟩
  refine Fn.bodyU (N := 8) hτ Try.func163 rfl rfl rfl rfl ?_
  refine U.seq ?_
  refine U.rk ⟨[(0, lV (l.map d188))], [], 80⟩ hτ hmix (by kernel_rfl) (by kernel_rfl) rfl ?_
  refine U.seq ?_
  refine U.seq ?_
  refine U.rk ⟨[(0, lV (l.map d188)), (4, .bo ((l.map d188) = []) (True))], [], 112⟩ hτ hmix (by kernel_rfl) (by kernel_rfl) rfl ?_
  refine U.ifN (p := (l.map d188) = []) (q := True) (by kernel_rfl) (fun hb1 => ?_) (fun hb1 => ?_)
  · have hn := hb1
    refine U.seq ?_
    refine U.rk ⟨[(2, .e (.c (.nil)))], [], 128⟩ hτ hmix (by kernel_rfl) (by kernel_rfl) rfl ?_
    refine U.ret ?_
    exact ⟨trivial, .inr ⟨_, Wk.ownT 2 2 188 (by kernel_rfl) (by kernel_rfl) (by kernel_rfl), Ret.mk' [(64, 128)] (by kernel_rfl) (by rw [hn]; kernel_rfl) (by kernel_rfl)⟩⟩
  · have _ := trivial
    refine U.skip ?_
    refine U.seq ?_
    refine U.rs 2 hτ hmix (by kernel_rfl) ?_
    have el2 : (l.map d188).length = l.length := List.length_map ..
    refine CH.app hτ (rows := []) (rows2 := (l.map d188)) (sz := 2) (bys := 16) true (by kernel_rfl) (by kernel_rfl) (fun _ => flat_d d188 (fun x => rfl)) (flat_ok (f := d188) (fun x => rfl)) (by simp only [List.length_map] <;> (first | done | omega | (simp; done) | (simp; omega))) (by kernel_rfl) ?_
    refine go 1 ?_
    refine ek ⟨[(2, rV 144)], [(144, some (.row 2 188 (l.map d188) false true))], 176⟩ ?_
    refine U.ret ?_
    exact ⟨trivial, .inl (Ret.mk' [(64, 144)] (by kernel_rfl) (by kernel_rfl) (by kernel_rfl))⟩

theorem i_copyAccts (l : List S38) (hl : acsSm l) : ∃ r0 : List S38, (r0 = l) ∧ Fn Try.prog 117 [lV (l.map d38)] (lookH []) (rV 64) (lookH [(64, some (.nst 5 38 [(4, 2, 188)] (r0.map d38) []))]) := by
 have key : ∃ x' h', ((fun x' h' => ∃ r0 : List S38, (r0 = l) ∧ x' = rV 64 ∧ h' = [(64, some (.nst 5 38 [(4, 2, 188)] (r0.map d38) []))])) x' h' ∧ Fn Try.prog 117 [lV (l.map d38)] (lookH []) x' (lookH h') := by
  refine Fn.bodyX (N := 22) hτ Try.func117 rfl rfl rfl rfl ?_
  refine sk ⟨[(0, lV (l.map d38))], [], 80⟩ ?_
  refine sk ⟨[(0, lV (l.map d38)), (3, .e (.c (.nil)))], [], 96⟩ ?_
  refine X.seq ?_
  refine X.seq ?_
  have hll := hl.1
  have el1 : (l.map d38).length = l.length := List.length_map ..
  refine rk ⟨[(3, .e (.c (.nil))), (6, lV (l.map d38)), (7, iV ((l.map d38).length : Int)), (8, iV 0)], [], 144⟩ ?_
  refine X.block ?_
  refine X.weak (Wk.ownTN 3 5 38 [(4, 2, 188)] (by kernel_rfl) (by kernel_rfl) (by kernel_rfl)) ?_
  -- 3: Lv3 : List S38, v8 : Int
  refine X.loop (σ := { g : (List S38) × Int // (fun (Lv3 : List S38) (v8 : Int) => 0 ≤ v8 ∧ v8 ≤ l.length ∧ Lv3 = l.take v8.toNat) g.1 g.2 }) (fun g => (fun (Lv3 : List S38) (v8 : Int) => ⟨[(3, rV 144), (6, lV (l.map d38)), (7, iV ((l.map d38).length : Int)), (8, iV v8)], [(144, some (.nst 5 38 [(4, 2, 188)] (Lv3.map d38) []))], 160⟩) g.1.1 g.1.2) (fun g => (fun (Lv3 : List S38) (v8 : Int) => (l.length - v8).toNat) g.1.1 g.1.2) ⟨([], 0), ⟨by first | omega | (dsimp only; omega), by first | omega | (dsimp only; omega), by simp⟩⟩ (Wk.less (by kernel_rfl)) (fun g => ?_)
  obtain ⟨⟨Lv3, v8⟩, hg3⟩ := g
  have hg3 : 0 ≤ v8 ∧ v8 ≤ l.length ∧ Lv3 = l.take v8.toNat := hg3
  obtain ⟨_, _, hL⟩ := hg3
  refine sk ⟨[(3, rV 144), (6, lV (l.map d38)), (7, iV ((l.map d38).length : Int)), (8, iV v8), (9, bV (decide ((v8 : Int) < ((l.map d38).length : Int))))], [(144, some (.nst 5 38 [(4, 2, 188)] (Lv3.map d38) []))], 176⟩ ?_
  refine X.seq ?_
  refine if_ (b := decide ((v8 : Int) < ((l.map d38).length : Int))) (fun hb4 => ?_) (fun hb4 => ?_)
  ·replace hb4 := of_decide_eq_true (hb4)
   refine X.skip ?_
   refine X.seq ?_
   refine X.block ?_
   refine X.seq (rs 0 ?_)
   obtain ⟨x5, hx5⟩ : ∃ x, l[Int.toNat v8]? = some x := ⟨_, List.getElem?_eq_getElem (by first | omega | (simp; done) | (simp; omega))⟩
   have hxl := (all_at hl.2 hx5).2
   refine CH.idx hτ (d38 x5) (rows := (l.map d38)) (n := v8) (sz := 5) (by kernel_rfl) (by kernel_rfl) (by first | omega | (simp; done) | (simp; omega)) (by rw [List.getElem?_map, hx5]; rfl) (by kernel_rfl) ?_
   refine go 3 ?_
   refine ek ⟨[(3, rV 144), (5, .pt 208 0 0), (6, lV (l.map d38)), (7, iV ((l.map d38).length : Int)), (8, iV v8)], [(144, some (.nst 5 38 [(4, 2, 188)] (Lv3.map d38) [])), (208, some (.box (cD (d38 x5))))], 240⟩ ?_
   refine X.seq (rs 2 ?_)
   obtain ⟨r6, hr8, hf7⟩ := i_cloneR_Leave x5.f4 (by first | assumption | omega)
   replace hr8 := hr8.symm; subst hr8
   refine ca hf7 Try.func163 ?_
   refine go 2 ?_
   refine ek ⟨[(3, rV 144), (5, .pt 208 0 0), (6, lV (l.map d38)), (7, iV ((l.map d38).length : Int)), (8, iV v8)], [(144, some (.nst 5 38 [(4, 2, 188)] (Lv3.map d38) [])), (208, some (.box [.d (.v (.string x5.f0)), .d (.v (.int .i64 x5.f1)), .d (.v (.int .i64 x5.f2)), .d (.v (.int .i64 x5.f3)), .ref 272])), (272, some (.row 2 188 (x5.f4.map d188) false true))], 320⟩ ?_
   refine rs 2 ?_
   refine CH.ltN hτ (L := [(4, 272, (x5.f4.map d188))]) [(4, 2, 188)] (by kernel_rfl) (by kernel_rfl) ⟨flat_d d188 (fun x => rfl), trivial⟩ (by kernel_rfl) ?_
   have el10 : (Lv3.map d38).length = Lv3.length := List.length_map ..
   have el11 : (([x5] : List S38).map d38).length = ([x5] : List S38).length := List.length_map ..
   have el12 : ([x5] : List S38).length = 1 := rfl
   refine CH.apN hτ (rows := (Lv3.map d38)) (rows2 := (([x5] : List S38).map d38)) (bys := 64) [(4, 2, 188)] (by kernel_rfl) (by kernel_rfl) (by simp only [List.length_map] <;> (rw [hL]; simp; omega)) (by kernel_rfl) ?_
   refine go 1 ?_
   refine CH.endk ⟨[(3, rV 368), (6, lV (l.map d38)), (7, iV ((l.map d38).length : Int)), (8, iV v8)], [(368, some (.nst 5 38 [(4, 2, 188)] ((Lv3.map d38) ++ (([x5] : List S38).map d38)) []))], 400⟩ (by kernel_rfl) (by kernel_rfl) (s2 := ⟨[(3, rV 368), (6, lV (l.map d38)), (7, iV ((l.map d38).length : Int)), (8, iV v8)], [(368, some (.nst 5 38 [(4, 2, 188)] ((Lv3 ++ ([x5] : List S38)).map d38) []))], 400⟩) (congrArg (fun z : List (List D) => (⟨[(3, rV 368), (6, lV (l.map d38)), (7, iV ((l.map d38).length : Int)), (8, iV v8)], [(368, some (.nst 5 38 [(4, 2, 188)] z []))], 400⟩ : St)) (show (Lv3.map d38) ++ (([x5] : List S38).map d38) = ((Lv3 ++ ([x5] : List S38)).map d38) from List.map_append.symm)) ?_
   refine X.rk ⟨[(3, rV 368), (6, lV (l.map d38)), (7, iV ((l.map d38).length : Int)), (8, iV (wrap64 (v8 + 1)))], [(368, some (.nst 5 38 [(4, 2, 188)] ((Lv3 ++ ([x5] : List S38)).map d38) []))], 432⟩ hτ hmix (by kernel_rfl) (by kernel_rfl) (s2 := ⟨[(3, rV 368), (6, lV (l.map d38)), (7, iV ((l.map d38).length : Int)), (8, iV (v8 + 1))], [(368, some (.nst 5 38 [(4, 2, 188)] ((Lv3 ++ ([x5] : List S38)).map d38) []))], 432⟩) (congrArg (fun z : Int => (⟨[(3, rV 368), (6, lV (l.map d38)), (7, iV ((l.map d38).length : Int)), (8, iV z)], [(368, some (.nst 5 38 [(4, 2, 188)] ((Lv3 ++ ([x5] : List S38)).map d38) []))], 432⟩ : St)) (show wrap64 (v8 + 1) = (v8 + 1) by rw [w64 (n := (v8 + 1)) (by omega) (by omega)])) ?_
   refine ⟨⟨((Lv3 ++ ([x5] : List S38)), (v8 + 1)), ⟨by first | omega | (dsimp only; omega), by first | omega | (dsimp only; omega), by rw [hL]; exact take_succ (by first | omega | (dsimp only; omega)) ‹_›⟩⟩, by first | exact rfl | omega | (dsimp only; omega) | (simp only [List.length_append, List.length_cons, List.length_nil, List.length_set]; omega) | (simp; done) | (simp; omega), Wk.mk' [(144, 368)] (by kernel_rfl) (by kernel_rfl) (by kernel_rfl)⟩
  ·replace hb4 := of_decide_eq_false (hb4)
   refine X.exit ?_
   refine sk ⟨[(2, rV 144)], [(144, some (.nst 5 38 [(4, 2, 188)] (Lv3.map d38) []))], 208⟩ ?_
   refine X.ret ?_
   exact ⟨trivial, _, _, ⟨Lv3, (by rw [hL]; exact take_all (by omega)), rfl, rfl⟩, .inl (Ret.mk' [(64, 144)] (by kernel_rfl) (by kernel_rfl) (by kernel_rfl))⟩
 obtain ⟨_, _, ⟨r0, h1_, rfl, rfl⟩, hf⟩ := key
 exact ⟨r0, h1_, hf⟩

theorem i_copyLedger (g : S27) (hg : acsSm g.f1) : ∃ r0 : S27, (r0 = g) ∧ Fn Try.prog 47 [.e (.agg [.d (.v (.int .i64 g.f0)), .d (.sl (g.f1.map d38))])] (lookH []) (.e (.agg [.d (.v (.int .i64 r0.f0)), .ref 64])) (lookH [(64, some (.nst 5 38 [(4, 2, 188)] (r0.f1.map d38) []))]) := by
 have key : ∃ x' h', ((fun x' h' => ∃ r0 : S27, (r0 = g) ∧ x' = .e (.agg [.d (.v (.int .i64 r0.f0)), .ref 64]) ∧ h' = [(64, some (.nst 5 38 [(4, 2, 188)] (r0.f1.map d38) []))])) x' h' ∧ Fn Try.prog 47 [.e (.agg [.d (.v (.int .i64 g.f0)), .d (.sl (g.f1.map d38))])] (lookH []) x' (lookH h') := by
  refine Fn.bodyX (N := 9) hτ Try.func47 rfl rfl rfl rfl ?_
  refine sk ⟨[(1, .pt 64 0 0), (2, .pt 80 0 0)], [(64, some (.box [.d (.v (.int .i64 g.f0)), .d (.sl (g.f1.map d38))])), (80, some (.box [.d (.v (.int .i64 0)), .nil]))], 96⟩ ?_
  refine X.seq (rs 4 ?_)
  obtain ⟨r1, hr3, hf2⟩ := i_copyAccts g.f1 (by assumption)
  replace hr3 := hr3.symm; subst hr3
  refine ca hf2 Try.func117 ?_
  refine go 2 ?_
  refine ek ⟨[(2, .pt 80 0 0)], [(80, some (.box [.d (.v (.int .i64 g.f0)), .ref 160])), (160, some (.nst 5 38 [(4, 2, 188)] (g.f1.map d38) []))], 208⟩ ?_
  refine X.ret ?_
  exact ⟨trivial, _, _, ⟨g, rfl, rfl, rfl⟩, .inl (Ret.mk' [(64, 160)] (by kernel_rfl) (by kernel_rfl) (by kernel_rfl))⟩
 obtain ⟨_, _, ⟨r0, h1_, rfl, rfl⟩, hf⟩ := key
 exact ⟨r0, h1_, hf⟩

theorem s_l4Copy (l : List S38) (hl : acsSm l) : ∃ r0 : List S38, (r0 = l) ∧ Fn Try.prog 148 [lV (l.map d38)] (lookH []) (rV 64) (lookH [(64, some (.row 5 38 (r0.map d38) false true))]) := by
 have key : ∃ x' h', ((fun x' h' => ∃ r0 : List S38, (r0 = l) ∧ x' = rV 64 ∧ h' = [(64, some (.row 5 38 (r0.map d38) false true))])) x' h' ∧ Fn Try.prog 148 [lV (l.map d38)] (lookH []) x' (lookH h') := by
  refine Fn.bodyX (N := 27) hτ Try.func148 rfl rfl rfl rfl ?_
  refine sk ⟨[(0, lV (l.map d38))], [], 80⟩ ?_
  refine sk ⟨[(0, lV (l.map d38)), (3, rV 80)], [(80, some (.row 5 38 [] false true))], 112⟩ ?_
  refine X.seq ?_
  refine X.seq ?_
  have hll := hl.1
  refine rk ⟨[(0, lV (l.map d38)), (3, rV 80), (4, iV 0)], [(80, some (.row 5 38 [] false true))], 128⟩ ?_
  refine X.block ?_
  -- 3: Lv3 : List S38, v4 : Int
  refine X.loop (σ := { g : (List S38) × Int // (fun (Lv3 : List S38) (v4 : Int) => 0 ≤ v4 ∧ v4 ≤ l.length ∧ Lv3 = l.take v4.toNat) g.1 g.2 }) (fun g => (fun (Lv3 : List S38) (v4 : Int) => ⟨[(0, lV (l.map d38)), (3, rV 80), (4, iV v4)], [(80, some (.row 5 38 (Lv3.map d38) false true))], 128⟩) g.1.1 g.1.2) (fun g => (fun (Lv3 : List S38) (v4 : Int) => (l.length - v4).toNat) g.1.1 g.1.2) ⟨([], 0), ⟨by first | omega | (dsimp only; omega), by first | omega | (dsimp only; omega), by simp⟩⟩ (Wk.less (by kernel_rfl)) (fun g => ?_)
  obtain ⟨⟨Lv3, v4⟩, hg2⟩ := g
  have hg2 : 0 ≤ v4 ∧ v4 ≤ l.length ∧ Lv3 = l.take v4.toNat := hg2
  obtain ⟨_, _, hL⟩ := hg2
  refine X.seq ?_
  refine X.seq ?_
  have el3 : (l.map d38).length = l.length := List.length_map ..
  refine rk ⟨[(0, lV (l.map d38)), (3, rV 80), (4, iV v4), (10, bV (decide ((v4 : Int) < ((l.map d38).length : Int))))], [(80, some (.row 5 38 (Lv3.map d38) false true))], 192⟩ ?_
  refine if_ (b := decide ((v4 : Int) < ((l.map d38).length : Int))) (fun hb4 => ?_) (fun hb4 => ?_)
  ·replace hb4 := of_decide_eq_true (hb4)
   refine X.skip ?_
   refine X.seq ?_
   refine X.block ?_
   refine X.seq (rs 2 ?_)
   obtain ⟨x5, hx5⟩ : ∃ x, l[Int.toNat v4]? = some x := ⟨_, List.getElem?_eq_getElem (by first | omega | (simp; done) | (simp; omega))⟩
   have hxl := (all_at hl.2 hx5).2
   refine CH.idx hτ (d38 x5) (rows := (l.map d38)) (n := v4) (sz := 5) (by kernel_rfl) (by kernel_rfl) (by first | omega | (simp; done) | (simp; omega)) (by rw [List.getElem?_map, hx5]; rfl) (by kernel_rfl) ?_
   refine go 3 ?_
   refine ek ⟨[(0, lV (l.map d38)), (3, rV 80), (4, iV v4), (5, .pt 256 0 0)], [(80, some (.row 5 38 (Lv3.map d38) false true)), (256, some (.box (cD (d38 x5))))], 288⟩ ?_
   refine X.seq (rs 3 ?_)
   have el6 : (x5.f4.map d188).length = x5.f4.length := List.length_map ..
   refine CH.app hτ (rows := []) (rows2 := (x5.f4.map d188)) (sz := 2) (bys := 16) true (by kernel_rfl) (by kernel_rfl) (fun _ => flat_d d188 (fun x => rfl)) (flat_ok (f := d188) (fun x => rfl)) (by simp only [List.length_map] <;> (first | done | omega | (simp; done) | (simp; omega))) (by kernel_rfl) ?_
   refine go 2 ?_
   refine ek ⟨[(0, lV (l.map d38)), (3, rV 80), (4, iV v4), (5, .pt 256 0 0)], [(80, some (.row 5 38 (Lv3.map d38) false true)), (256, some (.box [.d (.v (.string x5.f0)), .d (.v (.int .i64 x5.f1)), .d (.v (.int .i64 x5.f2)), .d (.v (.int .i64 x5.f3)), .ref 336])), (336, some (.row 2 188 (x5.f4.map d188) false true))], 384⟩ ?_
   refine rs 3 ?_
   have el7 : (Lv3.map d38).length = Lv3.length := List.length_map ..
   have el8 : (([x5] : List S38).map d38).length = ([x5] : List S38).length := List.length_map ..
   have el9 : ([x5] : List S38).length = 1 := rfl
   refine CH.app hτ (rows := (Lv3.map d38)) (rows2 := (([x5] : List S38).map d38)) (sz := 5) (bys := 64) false (by kernel_rfl) (by kernel_rfl) (fun h => by cases h) (flat_ok (f := d38) (fun x => rfl)) (by simp only [List.length_map] <;> (rw [hL]; simp; omega)) (by kernel_rfl) ?_
   refine go 1 ?_
   refine CH.endk ⟨[(0, lV (l.map d38)), (3, rV 432), (4, iV v4)], [(432, some (.row 5 38 ((Lv3.map d38) ++ (([x5] : List S38).map d38)) false true))], 464⟩ (by kernel_rfl) (by kernel_rfl) (s2 := ⟨[(0, lV (l.map d38)), (3, rV 432), (4, iV v4)], [(432, some (.row 5 38 ((Lv3 ++ ([x5] : List S38)).map d38) false true))], 464⟩) (congrArg (fun z : List (List D) => (⟨[(0, lV (l.map d38)), (3, rV 432), (4, iV v4)], [(432, some (.row 5 38 z false true))], 464⟩ : St)) (show (Lv3.map d38) ++ (([x5] : List S38).map d38) = ((Lv3 ++ ([x5] : List S38)).map d38) from List.map_append.symm)) ?_
   refine X.rk ⟨[(0, lV (l.map d38)), (3, rV 432), (4, iV (wrap64 (v4 + 1)))], [(432, some (.row 5 38 ((Lv3 ++ ([x5] : List S38)).map d38) false true))], 512⟩ hτ hmix (by kernel_rfl) (by kernel_rfl) (s2 := ⟨[(0, lV (l.map d38)), (3, rV 432), (4, iV (v4 + 1))], [(432, some (.row 5 38 ((Lv3 ++ ([x5] : List S38)).map d38) false true))], 512⟩) (congrArg (fun z : Int => (⟨[(0, lV (l.map d38)), (3, rV 432), (4, iV z)], [(432, some (.row 5 38 ((Lv3 ++ ([x5] : List S38)).map d38) false true))], 512⟩ : St)) (show wrap64 (v4 + 1) = (v4 + 1) by rw [w64 (n := (v4 + 1)) (by omega) (by omega)])) ?_
   refine ⟨⟨((Lv3 ++ ([x5] : List S38)), (v4 + 1)), ⟨by first | omega | (dsimp only; omega), by first | omega | (dsimp only; omega), by rw [hL]; exact take_succ (by first | omega | (dsimp only; omega)) ‹_›⟩⟩, by first | exact rfl | omega | (dsimp only; omega) | (simp only [List.length_append, List.length_cons, List.length_nil, List.length_set]; omega) | (simp; done) | (simp; omega), Wk.mk' [(80, 432)] (by kernel_rfl) (by kernel_rfl) (by kernel_rfl)⟩
  ·replace hb4 := of_decide_eq_false (hb4)
   refine X.exit ?_
   refine sk ⟨[(2, rV 80)], [(80, some (.row 5 38 (Lv3.map d38) false true))], 224⟩ ?_
   refine X.ret ?_
   exact ⟨trivial, _, _, ⟨Lv3, (by rw [hL]; exact take_all (by omega)), rfl, rfl⟩, .inl (Ret.mk' [(64, 80)] (by kernel_rfl) (by kernel_rfl) (by kernel_rfl))⟩
 obtain ⟨_, _, ⟨r0, h1_, rfl, rfl⟩, hf⟩ := key
 exact ⟨r0, h1_, hf⟩

theorem s_l6Copy (g : S27) (hg : acsSm g.f1) : ∃ r0 : S27, (r0 = g) ∧ Fn Try.prog 88 [.e (.agg [.d (.v (.int .i64 g.f0)), .d (.sl (g.f1.map d38))])] (lookH []) (.e (.agg [.d (.v (.int .i64 r0.f0)), .ref 64])) (lookH [(64, some (.row 5 38 (r0.f1.map d38) false true))]) := by
 have key : ∃ x' h', ((fun x' h' => ∃ r0 : S27, (r0 = g) ∧ x' = .e (.agg [.d (.v (.int .i64 r0.f0)), .ref 64]) ∧ h' = [(64, some (.row 5 38 (r0.f1.map d38) false true))])) x' h' ∧ Fn Try.prog 88 [.e (.agg [.d (.v (.int .i64 g.f0)), .d (.sl (g.f1.map d38))])] (lookH []) x' (lookH h') := by
  refine Fn.bodyX (N := 9) hτ Try.func88 rfl rfl rfl rfl ?_
  refine sk ⟨[(1, .pt 64 0 0), (2, .pt 80 0 0)], [(64, some (.box [.d (.v (.int .i64 g.f0)), .d (.sl (g.f1.map d38))])), (80, some (.box [.d (.v (.int .i64 0)), .nil]))], 96⟩ ?_
  refine X.seq (rs 4 ?_)
  obtain ⟨r1, hr3, hf2⟩ := s_l4Copy g.f1 (by assumption)
  replace hr3 := hr3.symm; subst hr3
  refine ca hf2 Try.func148 ?_
  refine go 2 ?_
  refine ek ⟨[(2, .pt 80 0 0)], [(80, some (.box [.d (.v (.int .i64 g.f0)), .ref 160])), (160, some (.row 5 38 (g.f1.map d38) false true))], 208⟩ ?_
  refine X.ret ?_
  exact ⟨trivial, _, _, ⟨g, rfl, rfl, rfl⟩, .inl (Ret.mk' [(64, 160)] (by kernel_rfl) (by kernel_rfl) (by kernel_rfl))⟩
 obtain ⟨_, _, ⟨r0, h1_, rfl, rfl⟩, hf⟩ := key
 exact ⟨r0, h1_, hf⟩

end Go.Proofs.Ytggmeldoecnkaaa.Av
