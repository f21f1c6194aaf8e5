/-
What functions of the program come to, walked one by one.
Conditions: none beside those that each theorem names.
-/
import Derived.Test.YtggmeldoecnkaaaAvAT
set_option linter.unusedVariables false
set_option linter.unusedSimpArgs false
namespace Go.Proofs.Ytggmeldoecnkaaa.Av
open Go.RowKit
set_option maxRecDepth 20000
set_option maxHeartbeats 4000000
theorem i_cloneRR_Str (l : List ByteArray) (hl : l.length ≤ 2000001) : ∃ r0 : List ByteArray, (r0 = l) ∧ Fn Try.prog 173 [lV (l.map dS)] (lookH []) (rV 64) (lookH [(64, some (.row 1 9 (r0.map dS) false true))]) := by
  refine ⟨_, rfl, ?_⟩
  refine Fn.bodyU (N := 8) hτ Try.func173 rfl rfl rfl rfl ?_
  refine U.seq ?_
  refine U.rk ⟨[(0, lV (l.map dS))], [], 80⟩ hτ hmix (by kernel_rfl) (by kernel_rfl) rfl ?_
  refine U.seq ?_
  refine U.seq ?_
  refine U.rk ⟨[(0, lV (l.map dS)), (4, .bo ((l.map dS) = []) (True))], [], 112⟩ hτ hmix (by kernel_rfl) (by kernel_rfl) rfl ?_
  refine U.ifN (p := (l.map dS) = []) (q := True) (by kernel_rfl) (fun hb1 => ?_) (fun hb1 => ?_)
  · have hn := hb1
    refine U.seq ?_
    refine U.rk ⟨[(2, .e (.c (.nil)))], [], 128⟩ hτ hmix (by kernel_rfl) (by kernel_rfl) rfl ?_
    refine U.ret ?_
    exact ⟨trivial, .inr ⟨_, Wk.ownT 2 1 9 (by kernel_rfl) (by kernel_rfl) (by kernel_rfl), Ret.mk' [(64, 128)] (by kernel_rfl) (by rw [hn]; kernel_rfl) (by kernel_rfl)⟩⟩
  · have _ := trivial
    refine U.skip ?_
    refine U.seq ?_
    refine U.rs 2 hτ hmix (by kernel_rfl) ?_
    have el2 : (l.map dS).length = l.length := List.length_map ..
    refine CH.app hτ (rows := []) (rows2 := (l.map dS)) (sz := 1) (bys := 16) true (by kernel_rfl) (by kernel_rfl) (fun _ => flat_d dS (fun x => rfl)) (flat_ok (f := dS) (fun x => rfl)) (by simp only [List.length_map] <;> (first | done | omega | (simp; done) | (simp; omega))) (by kernel_rfl) ?_
    refine go 1 ?_
    refine ek ⟨[(2, rV 144)], [(144, some (.row 1 9 (l.map dS) false true))], 176⟩ ?_
    refine U.ret ?_
    exact ⟨trivial, .inl (Ret.mk' [(64, 144)] (by kernel_rfl) (by kernel_rfl) (by kernel_rfl))⟩

theorem i_cloneRR_Int (l : List Int) (hl : l.length ≤ 2000001) : ∃ r0 : List Int, (r0 = l) ∧ Fn Try.prog 174 [lV (l.map dI)] (lookH []) (rV 64) (lookH [(64, some (.row 1 3 (r0.map dI) false true))]) := by
  refine ⟨_, rfl, ?_⟩
  refine Fn.bodyU (N := 8) hτ Try.func174 rfl rfl rfl rfl ?_
  refine U.seq ?_
  refine U.rk ⟨[(0, lV (l.map dI))], [], 80⟩ hτ hmix (by kernel_rfl) (by kernel_rfl) rfl ?_
  refine U.seq ?_
  refine U.seq ?_
  refine U.rk ⟨[(0, lV (l.map dI)), (4, .bo ((l.map dI) = []) (True))], [], 112⟩ hτ hmix (by kernel_rfl) (by kernel_rfl) rfl ?_
  refine U.ifN (p := (l.map dI) = []) (q := True) (by kernel_rfl) (fun hb1 => ?_) (fun hb1 => ?_)
  · have hn := hb1
    refine U.seq ?_
    refine U.rk ⟨[(2, .e (.c (.nil)))], [], 128⟩ hτ hmix (by kernel_rfl) (by kernel_rfl) rfl ?_
    refine U.ret ?_
    exact ⟨trivial, .inr ⟨_, Wk.ownT 2 1 3 (by kernel_rfl) (by kernel_rfl) (by kernel_rfl), Ret.mk' [(64, 128)] (by kernel_rfl) (by rw [hn]; kernel_rfl) (by kernel_rfl)⟩⟩
  · have _ := trivial
    refine U.skip ?_
    refine U.seq ?_
    refine U.rs 2 hτ hmix (by kernel_rfl) ?_
    have el2 : (l.map dI).length = l.length := List.length_map ..
    refine CH.app hτ (rows := []) (rows2 := (l.map dI)) (sz := 1) (bys := 8) true (by kernel_rfl) (by kernel_rfl) (fun _ => flat_d dI (fun x => rfl)) (flat_ok (f := dI) (fun x => rfl)) (by simp only [List.length_map] <;> (first | done | omega | (simp; done) | (simp; omega))) (by kernel_rfl) ?_
    refine go 1 ?_
    refine ek ⟨[(2, rV 144)], [(144, some (.row 1 3 (l.map dI) false true))], 176⟩ ?_
    refine U.ret ?_
    exact ⟨trivial, .inl (Ret.mk' [(64, 144)] (by kernel_rfl) (by kernel_rfl) (by kernel_rfl))⟩

theorem i_cloneRR_Tx2 (l : List S35) (hl : l.length ≤ 2000001) : ∃ r0 : List S35, (r0 = l) ∧ Fn Try.prog 138 [lV (l.map d35)] (lookH []) (rV 64) (lookH [(64, some (.row 5 35 (r0.map d35) false true))]) := by
  refine ⟨_, rfl, ?_⟩
  refine Fn.bodyU (N := 8) hτ Try.func138 rfl rfl rfl rfl ?_
  refine U.seq ?_
  refine U.rk ⟨[(0, lV (l.map d35))], [], 80⟩ hτ hmix (by kernel_rfl) (by kernel_rfl) rfl ?_
  refine U.seq ?_
  refine U.seq ?_
  refine U.rk ⟨[(0, lV (l.map d35)), (4, .bo ((l.map d35) = []) (True))], [], 112⟩ hτ hmix (by kernel_rfl) (by kernel_rfl) rfl ?_
  refine U.ifN (p := (l.map d35) = []) (q := True) (by kernel_rfl) (fun hb1 => ?_) (fun hb1 => ?_)
  · have hn := hb1
    refine U.seq ?_
    refine U.rk ⟨[(2, .e (.c (.nil)))], [], 128⟩ hτ hmix (by kernel_rfl) (by kernel_rfl) rfl ?_
    refine U.ret ?_
    exact ⟨trivial, .inr ⟨_, Wk.ownT 2 5 35 (by kernel_rfl) (by kernel_rfl) (by kernel_rfl), Ret.mk' [(64, 128)] (by kernel_rfl) (by rw [hn]; kernel_rfl) (by kernel_rfl)⟩⟩
  · have _ := trivial
    refine U.skip ?_
    refine U.seq ?_
    refine U.rs 2 hτ hmix (by kernel_rfl) ?_
    have el2 : (l.map d35).length = l.length := List.length_map ..
    refine CH.app hτ (rows := []) (rows2 := (l.map d35)) (sz := 5) (bys := 56) true (by kernel_rfl) (by kernel_rfl) (fun _ => flat_d d35 (fun x => rfl)) (flat_ok (f := d35) (fun x => rfl)) (by simp only [List.length_map] <;> (first | done | omega | (simp; done) | (simp; omega))) (by kernel_rfl) ?_
    refine go 1 ?_
    refine ek ⟨[(2, rV 144)], [(144, some (.row 5 35 (l.map d35) false true))], 176⟩ ?_
    refine U.ret ?_
    exact ⟨trivial, .inl (Ret.mk' [(64, 144)] (by kernel_rfl) (by kernel_rfl) (by kernel_rfl))⟩

theorem i_cloneRR_Val (l : List S165) (hl : l.length ≤ 2000001) : ∃ r0 : List S165, (r0 = l) ∧ Fn Try.prog 139 [lV (l.map d165)] (lookH []) (rV 64) (lookH [(64, some (.row 2 165 (r0.map d165) false true))]) := by
  refine ⟨_, rfl, ?_⟩
  refine Fn.bodyU (N := 8) hτ Try.func139 rfl rfl rfl rfl ?_
  refine U.seq ?_
  refine U.rk ⟨[(0, lV (l.map d165))], [], 80⟩ hτ hmix (by kernel_rfl) (by kernel_rfl) rfl ?_
  refine U.seq ?_
  refine U.seq ?_
  refine U.rk ⟨[(0, lV (l.map d165)), (4, .bo ((l.map d165) = []) (True))], [], 112⟩ hτ hmix (by kernel_rfl) (by kernel_rfl) rfl ?_
  refine U.ifN (p := (l.map d165) = []) (q := True) (by kernel_rfl) (fun hb1 => ?_) (fun hb1 => ?_)
  · have hn := hb1
    refine U.seq ?_
    refine U.rk ⟨[(2, .e (.c (.nil)))], [], 128⟩ hτ hmix (by kernel_rfl) (by kernel_rfl) rfl ?_
    refine U.ret ?_
    exact ⟨trivial, .inr ⟨_, Wk.ownT 2 2 165 (by kernel_rfl) (by kernel_rfl) (by kernel_rfl), Ret.mk' [(64, 128)] (by kernel_rfl) (by rw [hn]; kernel_rfl) (by kernel_rfl)⟩⟩
  · have _ := trivial
    refine U.skip ?_
    refine U.seq ?_
    refine U.rs 2 hτ hmix (by kernel_rfl) ?_
    have el2 : (l.map d165).length = l.length := List.length_map ..
    refine CH.app hτ (rows := []) (rows2 := (l.map d165)) (sz := 2) (bys := 24) true (by kernel_rfl) (by kernel_rfl) (fun _ => flat_d d165 (fun x => rfl)) (flat_ok (f := d165) (fun x => rfl)) (by simp only [List.length_map] <;> (first | done | omega | (simp; done) | (simp; omega))) (by kernel_rfl) ?_
    refine go 1 ?_
    refine ek ⟨[(2, rV 144)], [(144, some (.row 2 165 (l.map d165) false true))], 176⟩ ?_
    refine U.ret ?_
    exact ⟨trivial, .inl (Ret.mk' [(64, 144)] (by kernel_rfl) (by kernel_rfl) (by kernel_rfl))⟩

theorem i_copyQcR (q : S68) (hq : q.f2.length ≤ 2000000) : ∃ r0 : S68, (r0 = q) ∧ Fn Try.prog 136 [.e (.agg (cD (d68 q)))] (lookH []) (.e (.agg [.d (.v (.int .i64 r0.f0)), .d (.v (.int .i64 r0.f1)), .ref 64])) (lookH [(64, some (.row 1 9 (r0.f2.map dS) false true))]) := by
 have key : ∃ x' h', ((fun x' h' => ∃ r0 : S68, (r0 = q) ∧ x' = .e (.agg [.d (.v (.int .i64 r0.f0)), .d (.v (.int .i64 r0.f1)), .ref 64]) ∧ h' = [(64, some (.row 1 9 (r0.f2.map dS) false true))])) x' h' ∧ Fn Try.prog 136 [.e (.agg (cD (d68 q)))] (lookH []) x' (lookH h') := by
  refine Fn.bodyX (N := 8) hτ Try.func136 rfl rfl rfl rfl ?_
  refine sk ⟨[(1, .pt 64 0 0), (2, .pt 80 0 0)], [(64, some (.box (cD (d68 q)))), (80, some (.box [.d (.v (.int .i64 0)), .d (.v (.int .i64 0)), .nil]))], 96⟩ ?_
  refine X.seq ?_
  have hq2 := hq
  try simp only [Sm72, Sm68, Sm69, SmN, SmT, SmV] at hq2
  refine rs 2 ?_
  obtain ⟨r1, hr3, hf2⟩ := i_cloneRR_Str q.f2 (by omega)
  replace hr3 := hr3.symm; subst hr3
  refine ca hf2 Try.func173 ?_
  refine go 2 ?_
  refine ek ⟨[(1, .pt 64 0 0), (2, .pt 80 0 0)], [(64, some (.box [.d (.v (.int .i64 q.f0)), .d (.v (.int .i64 q.f1)), .ref 128])), (80, some (.box [.d (.v (.int .i64 0)), .d (.v (.int .i64 0)), .nil])), (128, some (.row 1 9 (q.f2.map dS) false true))], 176⟩ ?_
  refine sk ⟨[(2, .pt 80 0 0)], [(80, some (.box [.d (.v (.int .i64 q.f0)), .d (.v (.int .i64 q.f1)), .ref 128])), (128, some (.row 1 9 (q.f2.map dS) false true))], 208⟩ ?_
  refine X.ret ?_
  exact ⟨trivial, _, _, ⟨q, by first | exact rfl | omega | (dsimp only; omega) | (simp only [List.length_append, List.length_cons, List.length_nil, List.length_set]; omega) | (simp; done) | (simp; omega), rfl, rfl⟩, .inl (Ret.mk' [(64, 128)] (by kernel_rfl) (by kernel_rfl) (by kernel_rfl))⟩
 obtain ⟨_, _, ⟨r0, h1_, rfl, rfl⟩, hf⟩ := key
 exact ⟨r0, h1_, hf⟩

theorem i_copyTcR (q : S69) (hq : q.f1.length ≤ 2000000 ∧ q.f2.length ≤ 2000000) : ∃ r0 : S69, (r0 = q) ∧ Fn Try.prog 137 [.e (.agg (cD (d69 q)))] (lookH []) (.e (.agg [.d (.v (.int .i64 r0.f0)), .ref 64, .ref 65])) (lookH [(64, some (.row 1 9 (r0.f1.map dS) false true)), (65, some (.row 1 3 (r0.f2.map dI) false true))]) := by
 have key : ∃ x' h', ((fun x' h' => ∃ r0 : S69, (r0 = q) ∧ x' = .e (.agg [.d (.v (.int .i64 r0.f0)), .ref 64, .ref 65]) ∧ h' = [(64, some (.row 1 9 (r0.f1.map dS) false true)), (65, some (.row 1 3 (r0.f2.map dI) false true))])) x' h' ∧ Fn Try.prog 137 [.e (.agg (cD (d69 q)))] (lookH []) x' (lookH h') := by
  refine Fn.bodyX (N := 12) hτ Try.func137 rfl rfl rfl rfl ?_
  refine sk ⟨[(1, .pt 64 0 0), (2, .pt 80 0 0)], [(64, some (.box (cD (d69 q)))), (80, some (.box [.d (.v (.int .i64 0)), .nil, .nil]))], 96⟩ ?_
  refine X.seq ?_
  have hq2 := hq
  try simp only [Sm72, Sm68, Sm69, SmN, SmT, SmV] at hq2
  refine rs 2 ?_
  obtain ⟨r1, hr3, hf2⟩ := i_cloneRR_Str q.f1 (by omega)
  replace hr3 := hr3.symm; subst hr3
  refine ca hf2 Try.func173 ?_
  refine go 2 ?_
  obtain ⟨r5, hr7, hf6⟩ := i_cloneRR_Int q.f2 (by omega)
  replace hr7 := hr7.symm; subst hr7
  refine ca hf6 Try.func174 ?_
  refine go 4 ?_
  refine ek ⟨[(1, .pt 64 0 0), (2, .pt 80 0 0)], [(64, some (.box [.d (.v (.int .i64 q.f0)), .ref 128, .ref 176])), (80, some (.box [.d (.v (.int .i64 0)), .nil, .nil])), (128, some (.row 1 9 (q.f1.map dS) false true)), (176, some (.row 1 3 (q.f2.map dI) false true))], 256⟩ ?_
  refine sk ⟨[(2, .pt 80 0 0)], [(80, some (.box [.d (.v (.int .i64 q.f0)), .ref 128, .ref 176])), (128, some (.row 1 9 (q.f1.map dS) false true)), (176, some (.row 1 3 (q.f2.map dI) false true))], 288⟩ ?_
  refine X.ret ?_
  exact ⟨trivial, _, _, ⟨q, by first | exact rfl | omega | (dsimp only; omega) | (simp only [List.length_append, List.length_cons, List.length_nil, List.length_set]; omega) | (simp; done) | (simp; omega), rfl, rfl⟩, .inl (Ret.mk' [(64, 128), (65, 176)] (by kernel_rfl) (by kernel_rfl) (by kernel_rfl))⟩
 obtain ⟨_, _, ⟨r0, h1_, rfl, rfl⟩, hf⟩ := key
 exact ⟨r0, h1_, hf⟩

theorem i_copyBlockR (q : S72) (hq : Sm72 q) : ∃ r0 : S72, (r0 = q) ∧ Fn Try.prog 72 [.e (.agg (cD (d72 q)))] (lookH []) (.e (.agg [.d (.v (.int .i64 r0.f0)), .d (.v (.int .i64 r0.f1)), .d (.v (.int .i64 r0.f2)), .d (.v (.string r0.f3)), .d (.v (.int .i64 r0.f4.f0)), .d (.v (.int .i64 r0.f4.f1)), .ref 64, .d (.v (.int .i64 r0.f5.f0)), .ref 65, .ref 66, .ref 67, .d (.v (.bool r0.f7)), .ref 68, .d (.v (.string r0.f9))])) (lookH [(64, some (.row 1 9 (r0.f4.f2.map dS) false true)), (65, some (.row 1 9 (r0.f5.f1.map dS) false true)), (66, some (.row 1 3 (r0.f5.f2.map dI) false true)), (67, some (.row 5 35 (r0.f6.map d35) false true)), (68, some (.row 2 165 (r0.f8.map d165) false true))]) := by
 have key : ∃ x' h', ((fun x' h' => ∃ r0 : S72, (r0 = q) ∧ x' = .e (.agg [.d (.v (.int .i64 r0.f0)), .d (.v (.int .i64 r0.f1)), .d (.v (.int .i64 r0.f2)), .d (.v (.string r0.f3)), .d (.v (.int .i64 r0.f4.f0)), .d (.v (.int .i64 r0.f4.f1)), .ref 64, .d (.v (.int .i64 r0.f5.f0)), .ref 65, .ref 66, .ref 67, .d (.v (.bool r0.f7)), .ref 68, .d (.v (.string r0.f9))]) ∧ h' = [(64, some (.row 1 9 (r0.f4.f2.map dS) false true)), (65, some (.row 1 9 (r0.f5.f1.map dS) false true)), (66, some (.row 1 3 (r0.f5.f2.map dI) false true)), (67, some (.row 5 35 (r0.f6.map d35) false true)), (68, some (.row 2 165 (r0.f8.map d165) false true))])) x' h' ∧ Fn Try.prog 72 [.e (.agg (cD (d72 q)))] (lookH []) x' (lookH h') := by
  refine Fn.bodyX (N := 20) hτ Try.func72 rfl rfl rfl rfl ?_
  refine sk ⟨[(1, .pt 64 0 0), (2, .pt 80 0 0)], [(64, some (.box (cD (d72 q)))), (80, some (.box [.d (.v (.int .i64 0)), .d (.v (.int .i64 0)), .d (.v (.int .i64 0)), .d (.v (.string (⟨#[]⟩ : ByteArray))), .d (.v (.int .i64 0)), .d (.v (.int .i64 0)), .nil, .d (.v (.int .i64 0)), .nil, .nil, .nil, .d (.v (.bool false)), .nil, .d (.v (.string (⟨#[]⟩ : ByteArray)))]))], 96⟩ ?_
  refine X.seq ?_
  have hq2 := hq
  try simp only [Sm72, Sm68, Sm69, SmN, SmT, SmV] at hq2
  refine rs 2 ?_
  obtain ⟨r1, hr3, hf2⟩ := i_copyQcR q.f4 (by omega)
  replace hr3 := hr3.symm; subst hr3
  refine ca hf2 Try.func136 ?_
  refine go 2 ?_
  obtain ⟨r5, hr7, hf6⟩ := i_copyTcR q.f5 (by omega)
  replace hr7 := hr7.symm; subst hr7
  refine ca hf6 Try.func137 ?_
  refine go 4 ?_
  refine ek ⟨[(1, .pt 64 0 0), (2, .pt 80 0 0)], [(64, some (.box [.d (.v (.int .i64 q.f0)), .d (.v (.int .i64 q.f1)), .d (.v (.int .i64 q.f2)), .d (.v (.string q.f3)), .d (.v (.int .i64 q.f4.f0)), .d (.v (.int .i64 q.f4.f1)), .ref 128, .d (.v (.int .i64 q.f5.f0)), .ref 176, .ref 177, .d (.sl (q.f6.map d35)), .d (.v (.bool q.f7)), .d (.sl (q.f8.map d165)), .d (.v (.string q.f9))])), (80, some (.box [.d (.v (.int .i64 0)), .d (.v (.int .i64 0)), .d (.v (.int .i64 0)), .d (.v (.string (⟨#[]⟩ : ByteArray))), .d (.v (.int .i64 0)), .d (.v (.int .i64 0)), .nil, .d (.v (.int .i64 0)), .nil, .nil, .nil, .d (.v (.bool false)), .nil, .d (.v (.string (⟨#[]⟩ : ByteArray)))])), (128, some (.row 1 9 (q.f4.f2.map dS) false true)), (176, some (.row 1 9 (q.f5.f1.map dS) false true)), (177, some (.row 1 3 (q.f5.f2.map dI) false true))], 256⟩ ?_
  refine X.seq (rs 2 ?_)
  obtain ⟨r9, hr11, hf10⟩ := i_cloneRR_Tx2 q.f6 (by omega)
  replace hr11 := hr11.symm; subst hr11
  refine ca hf10 Try.func138 ?_
  refine go 2 ?_
  obtain ⟨r13, hr15, hf14⟩ := i_cloneRR_Val q.f8 (by omega)
  replace hr15 := hr15.symm; subst hr15
  refine ca hf14 Try.func139 ?_
  refine go 4 ?_
  refine ek ⟨[(1, .pt 64 0 0), (2, .pt 80 0 0)], [(64, some (.box [.d (.v (.int .i64 q.f0)), .d (.v (.int .i64 q.f1)), .d (.v (.int .i64 q.f2)), .d (.v (.string q.f3)), .d (.v (.int .i64 q.f4.f0)), .d (.v (.int .i64 q.f4.f1)), .ref 128, .d (.v (.int .i64 q.f5.f0)), .ref 176, .ref 177, .ref 288, .d (.v (.bool q.f7)), .ref 336, .d (.v (.string q.f9))])), (80, some (.box [.d (.v (.int .i64 0)), .d (.v (.int .i64 0)), .d (.v (.int .i64 0)), .d (.v (.string (⟨#[]⟩ : ByteArray))), .d (.v (.int .i64 0)), .d (.v (.int .i64 0)), .nil, .d (.v (.int .i64 0)), .nil, .nil, .nil, .d (.v (.bool false)), .nil, .d (.v (.string (⟨#[]⟩ : ByteArray)))])), (128, some (.row 1 9 (q.f4.f2.map dS) false true)), (176, some (.row 1 9 (q.f5.f1.map dS) false true)), (177, some (.row 1 3 (q.f5.f2.map dI) false true)), (288, some (.row 5 35 (q.f6.map d35) false true)), (336, some (.row 2 165 (q.f8.map d165) false true))], 416⟩ ?_
  refine sk ⟨[(2, .pt 80 0 0)], [(80, some (.box [.d (.v (.int .i64 q.f0)), .d (.v (.int .i64 q.f1)), .d (.v (.int .i64 q.f2)), .d (.v (.string q.f3)), .d (.v (.int .i64 q.f4.f0)), .d (.v (.int .i64 q.f4.f1)), .ref 128, .d (.v (.int .i64 q.f5.f0)), .ref 176, .ref 177, .ref 288, .d (.v (.bool q.f7)), .ref 336, .d (.v (.string q.f9))])), (128, some (.row 1 9 (q.f4.f2.map dS) false true)), (176, some (.row 1 9 (q.f5.f1.map dS) false true)), (177, some (.row 1 3 (q.f5.f2.map dI) false true)), (288, some (.row 5 35 (q.f6.map d35) false true)), (336, some (.row 2 165 (q.f8.map d165) false true))], 448⟩ ?_
  refine X.ret ?_
  exact ⟨trivial, _, _, ⟨q, by first | exact rfl | omega | (dsimp only; omega) | (simp only [List.length_append, List.length_cons, List.length_nil, List.length_set]; omega) | (simp; done) | (simp; omega), rfl, rfl⟩, .inl (Ret.mk' [(64, 128), (65, 176), (66, 177), (67, 288), (68, 336)] (by kernel_rfl) (by kernel_rfl) (by kernel_rfl))⟩
 obtain ⟨_, _, ⟨r0, h1_, rfl, rfl⟩, hf⟩ := key
 exact ⟨r0, h1_, hf⟩

theorem i_copyBlocksN (l : List S72) (hl : SmL l) : ∃ r0 : List S72, (r0 = l) ∧ Fn Try.prog 71 [lV (l.map d72)] (lookH []) (rV 64) (lookH [(64, some (.nst 14 72 [(6, 1, 9), (8, 1, 9), (9, 1, 3), (10, 5, 35), (12, 2, 165)] (r0.map d72) []))]) := by
 have key : ∃ x' h', ((fun x' h' => ∃ r0 : List S72, (r0 = l) ∧ x' = rV 64 ∧ h' = [(64, some (.nst 14 72 [(6, 1, 9), (8, 1, 9), (9, 1, 3), (10, 5, 35), (12, 2, 165)] (r0.map d72) []))])) x' h' ∧ Fn Try.prog 71 [lV (l.map d72)] (lookH []) x' (lookH h') := by
  refine Fn.bodyX (N := 19) hτ Try.func71 rfl rfl rfl rfl ?_
  refine sk ⟨[(0, lV (l.map d72))], [], 80⟩ ?_
  refine sk ⟨[(0, lV (l.map d72)), (3, .e (.c (.nil)))], [], 96⟩ ?_
  refine X.seq ?_
  refine X.seq ?_
  have hll := hl.1
  have el1 : (l.map d72).length = l.length := List.length_map ..
  refine rk ⟨[(3, .e (.c (.nil))), (6, lV (l.map d72)), (7, iV ((l.map d72).length : Int)), (8, iV 0)], [], 144⟩ ?_
  refine X.block ?_
  refine X.weak (Wk.ownTN 3 14 72 [(6, 1, 9), (8, 1, 9), (9, 1, 3), (10, 5, 35), (12, 2, 165)] (by kernel_rfl) (by kernel_rfl) (by kernel_rfl)) ?_
  -- 3: Lv3 : List S72, v8 : Int
  refine X.loop (σ := { g : (List S72) × Int // (fun (Lv3 : List S72) (v8 : Int) => 0 ≤ v8 ∧ v8 ≤ l.length ∧ Lv3 = l.take v8.toNat) g.1 g.2 }) (fun g => (fun (Lv3 : List S72) (v8 : Int) => ⟨[(3, rV 144), (6, lV (l.map d72)), (7, iV ((l.map d72).length : Int)), (8, iV v8)], [(144, some (.nst 14 72 [(6, 1, 9), (8, 1, 9), (9, 1, 3), (10, 5, 35), (12, 2, 165)] (Lv3.map d72) []))], 160⟩) g.1.1 g.1.2) (fun g => (fun (Lv3 : List S72) (v8 : Int) => (l.length - v8).toNat) g.1.1 g.1.2) ⟨([], 0), by simp⟩ (Wk.less (by kernel_rfl)) (fun g => ?_)
  obtain ⟨⟨Lv3, v8⟩, hg3⟩ := g
  have hg3 : 0 ≤ v8 ∧ v8 ≤ l.length ∧ Lv3 = l.take v8.toNat := hg3
  obtain ⟨_, _, hL⟩ := hg3
  refine sk ⟨[(3, rV 144), (6, lV (l.map d72)), (7, iV ((l.map d72).length : Int)), (8, iV v8), (9, bV (decide ((v8 : Int) < ((l.map d72).length : Int))))], [(144, some (.nst 14 72 [(6, 1, 9), (8, 1, 9), (9, 1, 3), (10, 5, 35), (12, 2, 165)] (Lv3.map d72) []))], 176⟩ ?_
  refine X.seq ?_
  refine if_ (b := decide ((v8 : Int) < ((l.map d72).length : Int))) (fun hb4 => ?_) (fun hb4 => ?_)
  ·replace hb4 := of_decide_eq_true (hb4)
   refine X.skip ?_
   refine X.seq ?_
   refine X.block ?_
   refine X.seq (rs 0 ?_)
   obtain ⟨x5, hx5⟩ : ∃ x, l[Int.toNat v8]? = some x := ⟨_, List.getElem?_eq_getElem (by first | omega | (simp; done) | (simp; omega))⟩
   refine CH.idx hτ (d72 x5) (rows := (l.map d72)) (n := v8) (sz := 14) (by kernel_rfl) (by kernel_rfl) (by first | omega | (simp; done) | (simp; omega)) (by rw [List.getElem?_map, hx5]; rfl) (by kernel_rfl) ?_
   refine go 3 ?_
   refine ek ⟨[(3, rV 144), (5, .pt 208 0 0), (6, lV (l.map d72)), (7, iV ((l.map d72).length : Int)), (8, iV v8)], [(144, some (.nst 14 72 [(6, 1, 9), (8, 1, 9), (9, 1, 3), (10, 5, 35), (12, 2, 165)] (Lv3.map d72) [])), (208, some (.box (cD (d72 x5))))], 240⟩ ?_
   refine rs 2 ?_
   obtain ⟨r6, hr8, hf7⟩ := i_copyBlockR x5 (by exact hl.at ‹_›)
   replace hr8 := hr8.symm; subst hr8
   refine ca hf7 Try.func72 ?_
   refine CH.ltN hτ (L := [(6, 272, (x5.f4.f2.map dS)), (8, 273, (x5.f5.f1.map dS)), (9, 274, (x5.f5.f2.map dI)), (10, 275, (x5.f6.map d35)), (12, 276, (x5.f8.map d165))]) [(6, 1, 9), (8, 1, 9), (9, 1, 3), (10, 5, 35), (12, 2, 165)] (by kernel_rfl) (by kernel_rfl) ⟨flat_d dS (fun x => rfl), ⟨flat_d dS (fun x => rfl), ⟨flat_d dI (fun x => rfl), ⟨flat_d d35 (fun x => rfl), ⟨flat_d d165 (fun x => rfl), trivial⟩⟩⟩⟩⟩ (by kernel_rfl) ?_
   have el10 : (Lv3.map d72).length = Lv3.length := List.length_map ..
   have el11 : (([x5] : List S72).map d72).length = ([x5] : List S72).length := List.length_map ..
   have el12 : ([x5] : List S72).length = 1 := rfl
   refine CH.apN hτ (rows := (Lv3.map d72)) (rows2 := (([x5] : List S72).map d72)) (bys := 208) [(6, 1, 9), (8, 1, 9), (9, 1, 3), (10, 5, 35), (12, 2, 165)] (by kernel_rfl) (by kernel_rfl) (by simp only [List.length_map] <;> (rw [hL]; simp; omega)) (by kernel_rfl) ?_
   refine go 1 ?_
   refine CH.endk ⟨[(3, rV 304), (6, lV (l.map d72)), (7, iV ((l.map d72).length : Int)), (8, iV v8)], [(304, some (.nst 14 72 [(6, 1, 9), (8, 1, 9), (9, 1, 3), (10, 5, 35), (12, 2, 165)] ((Lv3.map d72) ++ (([x5] : List S72).map d72)) []))], 336⟩ (by kernel_rfl) (by kernel_rfl) (s2 := ⟨[(3, rV 304), (6, lV (l.map d72)), (7, iV ((l.map d72).length : Int)), (8, iV v8)], [(304, some (.nst 14 72 [(6, 1, 9), (8, 1, 9), (9, 1, 3), (10, 5, 35), (12, 2, 165)] ((Lv3 ++ ([x5] : List S72)).map d72) []))], 336⟩) (congrArg (fun z : List (List D) => (⟨[(3, rV 304), (6, lV (l.map d72)), (7, iV ((l.map d72).length : Int)), (8, iV v8)], [(304, some (.nst 14 72 [(6, 1, 9), (8, 1, 9), (9, 1, 3), (10, 5, 35), (12, 2, 165)] z []))], 336⟩ : St)) (show (Lv3.map d72) ++ (([x5] : List S72).map d72) = ((Lv3 ++ ([x5] : List S72)).map d72) from List.map_append.symm)) ?_
   refine X.rk ⟨[(3, rV 304), (6, lV (l.map d72)), (7, iV ((l.map d72).length : Int)), (8, iV (wrap64 (v8 + 1)))], [(304, some (.nst 14 72 [(6, 1, 9), (8, 1, 9), (9, 1, 3), (10, 5, 35), (12, 2, 165)] ((Lv3 ++ ([x5] : List S72)).map d72) []))], 368⟩ hτ hmix (by kernel_rfl) (by kernel_rfl) (s2 := ⟨[(3, rV 304), (6, lV (l.map d72)), (7, iV ((l.map d72).length : Int)), (8, iV (v8 + 1))], [(304, some (.nst 14 72 [(6, 1, 9), (8, 1, 9), (9, 1, 3), (10, 5, 35), (12, 2, 165)] ((Lv3 ++ ([x5] : List S72)).map d72) []))], 368⟩) (congrArg (fun z : Int => (⟨[(3, rV 304), (6, lV (l.map d72)), (7, iV ((l.map d72).length : Int)), (8, iV z)], [(304, some (.nst 14 72 [(6, 1, 9), (8, 1, 9), (9, 1, 3), (10, 5, 35), (12, 2, 165)] ((Lv3 ++ ([x5] : List S72)).map d72) []))], 368⟩ : St)) (show wrap64 (v8 + 1) = (v8 + 1) by rw [w64 (n := (v8 + 1)) (by omega) (by omega)])) ?_
   refine ⟨⟨((Lv3 ++ ([x5] : List S72)), (v8 + 1)), ⟨by first | omega | (dsimp only; omega), by first | omega | (dsimp only; omega), by rw [hL]; exact take_succ (by first | omega | (dsimp only; omega)) ‹_›⟩⟩, by first | exact rfl | omega | (dsimp only; omega) | (simp only [List.length_append, List.length_cons, List.length_nil, List.length_set]; omega) | (simp; done) | (simp; omega), Wk.mk' [(144, 304)] (by kernel_rfl) (by kernel_rfl) (by kernel_rfl)⟩
  ·replace hb4 := of_decide_eq_false (hb4)
   refine X.exit ?_
   refine sk ⟨[(2, rV 144)], [(144, some (.nst 14 72 [(6, 1, 9), (8, 1, 9), (9, 1, 3), (10, 5, 35), (12, 2, 165)] (Lv3.map d72) []))], 208⟩ ?_
   refine X.ret ?_
   exact ⟨trivial, _, _, ⟨Lv3, by rw [hL]; exact take_all (by omega), rfl, rfl⟩, .inl (Ret.mk' [(64, 144)] (by kernel_rfl) (by kernel_rfl) (by kernel_rfl))⟩
 obtain ⟨_, _, ⟨r0, h1_, rfl, rfl⟩, hf⟩ := key
 exact ⟨r0, h1_, hf⟩

theorem i_insBlockN (l : List S72) (i : Int) (m : List S72) (h0 : 0 ≤ i) (h1 : i ≤ (l.length : Int)) (hm : m.length = 1) (hs : l.length < 4000000) : ∃ r0 : List S72, r0 = insAt l m i.toNat ∧ Fn Try.prog 70 [.e (.c (.ref 0)), .e (.c (.d (.v (.int .i64 i)))), .e (.c (.ref 1))] (lookH [(0, some (.nst 14 72 [(6, 1, 9), (8, 1, 9), (9, 1, 3), (10, 5, 35), (12, 2, 165)] (l.map d72) [])), (1, some (.nst 14 72 [(6, 1, 9), (8, 1, 9), (9, 1, 3), (10, 5, 35), (12, 2, 165)] (m.map d72) []))]) (.e (.c (.ref 64))) (lookH [(64, some (.nst 14 72 [(6, 1, 9), (8, 1, 9), (9, 1, 3), (10, 5, 35), (12, 2, 165)] (r0.map d72) []))]) := by
  obtain ⟨b, rfl⟩ := List.length_eq_one_iff.1 hm
  refine ⟨_, rfl, ?_⟩
  have h := fn_insN ins70 (by omega) (rows := l.map d72) (r := d72 b) (i := i.toNat) (co :=  [(6, 1, 9), (8, 1, 9), (9, 1, 3), (10, 5, 35), (12, 2, 165)]) (by rw [List.length_map]; omega) rfl (by rw [List.length_map]; omega)
  rw [Int.toNat_of_nonneg h0] at h
  rw [show (insAt l [b] i.toNat).map d72 = (l.map d72).take i.toNat ++ d72 b :: (l.map d72).drop i.toNat by simp [insAt, List.map_take, List.map_drop]]
  exact h

theorem i_AddToN (l : List S72) (b : S72) (hl : SmL l) (hb : Sm72 b) (hs : l.length < 2000000) : ∃ r0 : List S72, ∃ r1 : Bool, (r0 = addR l b ∧ r1 = addOk l b) ∧ Fn Try.prog 29 [lV (l.map d72), .e (.agg (cD (d72 b)))] (lookH []) (.tup [.c (.ref 64), .c (.d (.v (.bool r1)))]) (lookH [(64, some (.nst 14 72 [(6, 1, 9), (8, 1, 9), (9, 1, 3), (10, 5, 35), (12, 2, 165)] (r0.map d72) []))]) := by
 have key : ∃ x' h', ((fun x' h' => ∃ r0 : List S72, ∃ r1 : Bool, (r0 = addR l b ∧ r1 = addOk l b) ∧ x' = .tup [.c (.ref 64), .c (.d (.v (.bool r1)))] ∧ h' = [(64, some (.nst 14 72 [(6, 1, 9), (8, 1, 9), (9, 1, 3), (10, 5, 35), (12, 2, 165)] (r0.map d72) []))])) x' h' ∧ Fn Try.prog 29 [lV (l.map d72), .e (.agg (cD (d72 b)))] (lookH []) x' (lookH h') := by
  refine Fn.bodyX (N := 44) hτ Try.func29 rfl rfl rfl rfl ?_
  refine sk ⟨[(0, lV (l.map d72)), (3, .pt 64 0 0)], [(64, some (.box (cD (d72 b))))], 112⟩ ?_
  refine X.seq ?_
  have hm := hl.1
  refine rk ⟨[(0, lV (l.map d72)), (3, .pt 64 0 0), (6, iV 0)], [(64, some (.box (cD (d72 b))))], 128⟩ ?_
  refine X.seq ?_
  refine X.block ?_
  -- 2: v6 : Int
  refine X.loop (σ := { g : Int // (fun (v6 : Int) => 0 ≤ v6 ∧ v6 ≤ l.length ∧ Upto (fun _ x => x.f0 < b.f0) (fun n => l[n]?) v6) g }) (fun g => (fun (v6 : Int) => ⟨[(0, lV (l.map d72)), (3, .pt 64 0 0), (6, iV v6)], [(64, some (.box (cD (d72 b))))], 128⟩) g.1) (fun g => (fun (v6 : Int) => (l.length - v6).toNat) g.1) ⟨0, ⟨by first | omega | (dsimp only; omega), by first | omega | (dsimp only; omega), upto_zero⟩⟩ (Wk.less (by kernel_rfl)) (fun g => ?_)
  obtain ⟨v6, hg2⟩ := g
  have hg2 : 0 ≤ v6 ∧ v6 ≤ l.length ∧ Upto (fun _ x => x.f0 < b.f0) (fun n => l[n]?) v6 := hg2
  obtain ⟨_, _, hA⟩ := hg2
  refine X.seq ?_
  refine X.seq ?_
  have el3 : (l.map d72).length = l.length := List.length_map ..
  refine rs 5 ?_
  rcases Bool.eq_false_or_eq_true (decide ((v6 : Int) < ((l.map d72).length : Int))) with hb4 | hb4
  ·refine aT 11 hb4 ?_
   refine aT 12 hb4 ?_
   replace hb4 := of_decide_eq_true (hb4)
   refine go 2 ?_
   obtain ⟨x5, hx5⟩ : ∃ x, l[Int.toNat v6]? = some x := ⟨_, List.getElem?_eq_getElem (by first | omega | (simp; done) | (simp; omega))⟩
   refine CH.idx hτ (d72 x5) (rows := (l.map d72)) (n := v6) (sz := 14) (by kernel_rfl) (by kernel_rfl) (by first | omega | (simp; done) | (simp; omega)) (by rw [List.getElem?_map, hx5]; rfl) (by kernel_rfl) ?_
   refine go 6 ?_
   refine ek ⟨[(0, lV (l.map d72)), (3, .pt 64 0 0), (6, iV v6), (21, bV (decide ((x5.f0 : Int) < b.f0)))], [(64, some (.box (cD (d72 b))))], 352⟩ ?_
   refine if_ (b := decide ((x5.f0 : Int) < b.f0)) (fun hb6 => ?_) (fun hb6 => ?_)
   ·replace hb6 := of_decide_eq_true (hb6)
    refine X.skip ?_
    refine X.block ?_
    refine X.rk ⟨[(0, lV (l.map d72)), (3, .pt 64 0 0), (6, iV (wrap64 (v6 + 1)))], [(64, some (.box (cD (d72 b))))], 400⟩ hτ hmix (by kernel_rfl) (by kernel_rfl) (s2 := ⟨[(0, lV (l.map d72)), (3, .pt 64 0 0), (6, iV (v6 + 1))], [(64, some (.box (cD (d72 b))))], 400⟩) (congrArg (fun z : Int => (⟨[(0, lV (l.map d72)), (3, .pt 64 0 0), (6, iV z)], [(64, some (.box (cD (d72 b))))], 400⟩ : St)) (show wrap64 (v6 + 1) = (v6 + 1) by rw [w64 (n := (v6 + 1)) (by omega) (by omega)])) ?_
    refine ⟨⟨(v6 + 1), ⟨by first | omega | (dsimp only; omega), by first | omega | (dsimp only; omega), upto_nx (by first | omega | (dsimp only; omega)) hA ‹_› (‹_›)⟩⟩, by first | exact rfl | omega | (dsimp only; omega) | (simp only [List.length_append, List.length_cons, List.length_nil, List.length_set]; omega) | (simp; done) | (simp; omega), Wk.mk' [(64, 64)] (by kernel_rfl) (by kernel_rfl) (by kernel_rfl)⟩
   ·replace hb6 := of_decide_eq_false (hb6)
    refine X.exit ?_
    refine X.seq ?_
    have hat := at_is (by omega) (by omega) hA (by first | exact .inl (by omega) | exact .inr ⟨_, ‹_›, ‹_›⟩)
    have hil := (congrArg List.length hat).trans (ins_len atOf_le)
    refine rs 1 ?_
    obtain ⟨r7, hr9, hf8⟩ := i_copyBlocksN l (by assumption)
    replace hr9 := hr9.symm; subst hr9
    refine ca hf8 Try.func71 ?_
    refine go 2 ?_
    obtain ⟨r11, hr13, hf12⟩ := i_copyBlockR b (by assumption)
    replace hr13 := hr13.symm; subst hr13
    refine ca hf12 Try.func72 ?_
    refine CH.ltN hτ (L := [(6, 416, (b.f4.f2.map dS)), (8, 417, (b.f5.f1.map dS)), (9, 418, (b.f5.f2.map dI)), (10, 419, (b.f6.map d35)), (12, 420, (b.f8.map d165))]) [(6, 1, 9), (8, 1, 9), (9, 1, 3), (10, 5, 35), (12, 2, 165)] (by kernel_rfl) (by kernel_rfl) ⟨flat_d dS (fun x => rfl), ⟨flat_d dS (fun x => rfl), ⟨flat_d dI (fun x => rfl), ⟨flat_d d35 (fun x => rfl), ⟨flat_d d165 (fun x => rfl), trivial⟩⟩⟩⟩⟩ (by kernel_rfl) ?_
    obtain ⟨r15, hr17, hf16⟩ := i_insBlockN l v6 ([b] : List S72) (by first | omega | (simp; done) | (simp; omega)) (by first | omega | (simp; done) | (simp; omega)) (by rfl) (by first | omega | (simp; done) | (simp; omega))
    replace hr17 := hr17.symm; subst hr17
    have hil : (insAt l ([b] : List S72) (Int.toNat v6)).length = l.length + 1 := by rw [ins_len (by omega)]
    refine CH.call hf16 Try.func70 ⟨rfl, rfl⟩ [(368, 0), (432, 1)] (by kernel_rfl) (by kernel_rfl) (by kernel_rfl) (by kernel_rfl) ?_
    refine go 1 ?_
    refine ek ⟨[(0, lV (l.map d72)), (3, .pt 64 0 0), (7, rV 448)], [(64, some (.box (cD (d72 b)))), (448, some (.nst 14 72 [(6, 1, 9), (8, 1, 9), (9, 1, 3), (10, 5, 35), (12, 2, 165)] ((insAt l ([b] : List S72) (Int.toNat v6)).map d72) []))], 480⟩ ?_
    refine X.seq ?_
    refine X.seq (rs 3 ?_)
    obtain ⟨r19, hr21, hf20⟩ := i_blockAt l b.f0 (by omega)
    replace hr21 := hr21.symm; subst hr21
    have hid := idAt_bd l b.f0
    refine ca hf20 Try.func73 ?_
    refine go 2 ?_
    rcases Bool.eq_false_or_eq_true (decide (((idAt l b.f0) : Int) ≥ 0)) with hb23 | hb23
    ·refine aT 35 hb23 ?_
     refine aT 36 hb23 ?_
     replace hb23 := of_decide_eq_true (hb23)
     refine go 4 ?_
     refine ek ⟨[(0, lV (l.map d72)), (7, rV 448), (40, bV true)], [(448, some (.nst 14 72 [(6, 1, 9), (8, 1, 9), (9, 1, 3), (10, 5, 35), (12, 2, 165)] ((insAt l ([b] : List S72) (Int.toNat v6)).map d72) []))], 640⟩ ?_
     refine X.ifT (by kernel_rfl) ?_
     refine X.seq (rs 1 ?_)
     obtain ⟨r24, hr26, hf25⟩ := i_copyBlocksN l (by assumption)
     replace hr26 := hr26.symm; subst hr26
     refine ca hf25 Try.func71 ?_
     refine go 2 ?_
     refine ek ⟨[(4, rV 656), (5, bV false)], [(656, some (.nst 14 72 [(6, 1, 9), (8, 1, 9), (9, 1, 3), (10, 5, 35), (12, 2, 165)] (l.map d72) []))], 704⟩ ?_
     refine X.ret ?_
     exact ⟨trivial, _, _, ⟨l, false, (by first | exact add_no ‹_› | exact add_bad hat ‹_› | exact add_good hat ‹_› ‹_›), rfl, rfl⟩, .inl (Ret.mk' [(64, 656)] (by kernel_rfl) (by kernel_rfl) (by kernel_rfl))⟩
    ·refine aF 35 hb23 ?_
     refine aF 36 hb23 ?_
     replace hb23 := of_decide_eq_false (hb23)
     refine go 1 ?_
     obtain ⟨r28, hr30, hf29⟩ := i_TreeOk (insAt l ([b] : List S72) (Int.toNat v6)) (by rw [hat]; exact addTo_sm hl hb hs)
     replace hr30 := hr30.symm; subst hr30
     refine ca hf29 Try.func74 ?_
     refine go 2 ?_
     refine ek ⟨[(0, lV (l.map d72)), (7, rV 448), (40, bV (!(treeOk (insAt l ([b] : List S72) (Int.toNat v6)))))], [(448, some (.nst 14 72 [(6, 1, 9), (8, 1, 9), (9, 1, 3), (10, 5, 35), (12, 2, 165)] ((insAt l ([b] : List S72) (Int.toNat v6)).map d72) []))], 640⟩ ?_
     refine if_ (b := !(treeOk (insAt l ([b] : List S72) (Int.toNat v6)))) (fun hb32 => ?_) (fun hb32 => ?_)
     ·replace hb32 := bnot_yes (hb32)
      refine X.seq (rs 1 ?_)
      obtain ⟨r33, hr35, hf34⟩ := i_copyBlocksN l (by assumption)
      replace hr35 := hr35.symm; subst hr35
      refine ca hf34 Try.func71 ?_
      refine go 2 ?_
      refine ek ⟨[(4, rV 656), (5, bV false)], [(656, some (.nst 14 72 [(6, 1, 9), (8, 1, 9), (9, 1, 3), (10, 5, 35), (12, 2, 165)] (l.map d72) []))], 704⟩ ?_
      refine X.ret ?_
      exact ⟨trivial, _, _, ⟨l, false, (by first | exact add_no ‹_› | exact add_bad hat ‹_› | exact add_good hat ‹_› ‹_›), rfl, rfl⟩, .inl (Ret.mk' [(64, 656)] (by kernel_rfl) (by kernel_rfl) (by kernel_rfl))⟩
     ·replace hb32 := bnot_no (hb32)
      refine X.skip ?_
      refine sk ⟨[(4, rV 448), (5, bV true)], [(448, some (.nst 14 72 [(6, 1, 9), (8, 1, 9), (9, 1, 3), (10, 5, 35), (12, 2, 165)] ((insAt l ([b] : List S72) (Int.toNat v6)).map d72) []))], 688⟩ ?_
      refine X.ret ?_
      exact ⟨trivial, _, _, ⟨(insAt l ([b] : List S72) (Int.toNat v6)), true, (by first | exact add_no ‹_› | exact add_bad hat ‹_› | exact add_good hat ‹_› ‹_›), rfl, rfl⟩, .inl (Ret.mk' [(64, 448)] (by kernel_rfl) (by kernel_rfl) (by kernel_rfl))⟩
  ·refine aF 11 hb4 ?_
   refine aF 12 hb4 ?_
   replace hb4 := of_decide_eq_false (hb4)
   refine go 9 ?_
   refine ek ⟨[(0, lV (l.map d72)), (3, .pt 64 0 0), (6, iV v6), (21, bV false)], [(64, some (.box (cD (d72 b))))], 352⟩ ?_
   refine X.ifF (by kernel_rfl) ?_
   refine X.exit ?_
   refine X.seq ?_
   have hat := at_is (by omega) (by omega) hA (by first | exact .inl (by omega) | exact .inr ⟨_, ‹_›, ‹_›⟩)
   have hil := (congrArg List.length hat).trans (ins_len atOf_le)
   refine rs 1 ?_
   obtain ⟨r37, hr39, hf38⟩ := i_copyBlocksN l (by assumption)
   replace hr39 := hr39.symm; subst hr39
   refine ca hf38 Try.func71 ?_
   refine go 2 ?_
   obtain ⟨r41, hr43, hf42⟩ := i_copyBlockR b (by assumption)
   replace hr43 := hr43.symm; subst hr43
   refine ca hf42 Try.func72 ?_
   refine CH.ltN hτ (L := [(6, 416, (b.f4.f2.map dS)), (8, 417, (b.f5.f1.map dS)), (9, 418, (b.f5.f2.map dI)), (10, 419, (b.f6.map d35)), (12, 420, (b.f8.map d165))]) [(6, 1, 9), (8, 1, 9), (9, 1, 3), (10, 5, 35), (12, 2, 165)] (by kernel_rfl) (by kernel_rfl) ⟨flat_d dS (fun x => rfl), ⟨flat_d dS (fun x => rfl), ⟨flat_d dI (fun x => rfl), ⟨flat_d d35 (fun x => rfl), ⟨flat_d d165 (fun x => rfl), trivial⟩⟩⟩⟩⟩ (by kernel_rfl) ?_
   obtain ⟨r45, hr47, hf46⟩ := i_insBlockN l v6 ([b] : List S72) (by first | omega | (simp; done) | (simp; omega)) (by first | omega | (simp; done) | (simp; omega)) (by rfl) (by first | omega | (simp; done) | (simp; omega))
   replace hr47 := hr47.symm; subst hr47
   have hil : (insAt l ([b] : List S72) (Int.toNat v6)).length = l.length + 1 := by rw [ins_len (by omega)]
   refine CH.call hf46 Try.func70 ⟨rfl, rfl⟩ [(368, 0), (432, 1)] (by kernel_rfl) (by kernel_rfl) (by kernel_rfl) (by kernel_rfl) ?_
   refine go 1 ?_
   refine ek ⟨[(0, lV (l.map d72)), (3, .pt 64 0 0), (7, rV 448)], [(64, some (.box (cD (d72 b)))), (448, some (.nst 14 72 [(6, 1, 9), (8, 1, 9), (9, 1, 3), (10, 5, 35), (12, 2, 165)] ((insAt l ([b] : List S72) (Int.toNat v6)).map d72) []))], 480⟩ ?_
   refine X.seq ?_
   refine X.seq (rs 3 ?_)
   obtain ⟨r49, hr51, hf50⟩ := i_blockAt l b.f0 (by omega)
   replace hr51 := hr51.symm; subst hr51
   have hid := idAt_bd l b.f0
   refine ca hf50 Try.func73 ?_
   refine go 2 ?_
   rcases Bool.eq_false_or_eq_true (decide (((idAt l b.f0) : Int) ≥ 0)) with hb53 | hb53
   ·refine aT 35 hb53 ?_
    refine aT 36 hb53 ?_
    replace hb53 := of_decide_eq_true (hb53)
    refine go 4 ?_
    refine ek ⟨[(0, lV (l.map d72)), (7, rV 448), (40, bV true)], [(448, some (.nst 14 72 [(6, 1, 9), (8, 1, 9), (9, 1, 3), (10, 5, 35), (12, 2, 165)] ((insAt l ([b] : List S72) (Int.toNat v6)).map d72) []))], 640⟩ ?_
    refine X.ifT (by kernel_rfl) ?_
    refine X.seq (rs 1 ?_)
    obtain ⟨r54, hr56, hf55⟩ := i_copyBlocksN l (by assumption)
    replace hr56 := hr56.symm; subst hr56
    refine ca hf55 Try.func71 ?_
    refine go 2 ?_
    refine ek ⟨[(4, rV 656), (5, bV false)], [(656, some (.nst 14 72 [(6, 1, 9), (8, 1, 9), (9, 1, 3), (10, 5, 35), (12, 2, 165)] (l.map d72) []))], 704⟩ ?_
    refine X.ret ?_
    exact ⟨trivial, _, _, ⟨l, false, (by first | exact add_no ‹_› | exact add_bad hat ‹_› | exact add_good hat ‹_› ‹_›), rfl, rfl⟩, .inl (Ret.mk' [(64, 656)] (by kernel_rfl) (by kernel_rfl) (by kernel_rfl))⟩
   ·refine aF 35 hb53 ?_
    refine aF 36 hb53 ?_
    replace hb53 := of_decide_eq_false (hb53)
    refine go 1 ?_
    obtain ⟨r58, hr60, hf59⟩ := i_TreeOk (insAt l ([b] : List S72) (Int.toNat v6)) (by rw [hat]; exact addTo_sm hl hb hs)
    replace hr60 := hr60.symm; subst hr60
    refine ca hf59 Try.func74 ?_
    refine go 2 ?_
    refine ek ⟨[(0, lV (l.map d72)), (7, rV 448), (40, bV (!(treeOk (insAt l ([b] : List S72) (Int.toNat v6)))))], [(448, some (.nst 14 72 [(6, 1, 9), (8, 1, 9), (9, 1, 3), (10, 5, 35), (12, 2, 165)] ((insAt l ([b] : List S72) (Int.toNat v6)).map d72) []))], 640⟩ ?_
    refine if_ (b := !(treeOk (insAt l ([b] : List S72) (Int.toNat v6)))) (fun hb62 => ?_) (fun hb62 => ?_)
    ·replace hb62 := bnot_yes (hb62)
     refine X.seq (rs 1 ?_)
     obtain ⟨r63, hr65, hf64⟩ := i_copyBlocksN l (by assumption)
     replace hr65 := hr65.symm; subst hr65
     refine ca hf64 Try.func71 ?_
     refine go 2 ?_
     refine ek ⟨[(4, rV 656), (5, bV false)], [(656, some (.nst 14 72 [(6, 1, 9), (8, 1, 9), (9, 1, 3), (10, 5, 35), (12, 2, 165)] (l.map d72) []))], 704⟩ ?_
     refine X.ret ?_
     exact ⟨trivial, _, _, ⟨l, false, (by first | exact add_no ‹_› | exact add_bad hat ‹_› | exact add_good hat ‹_› ‹_›), rfl, rfl⟩, .inl (Ret.mk' [(64, 656)] (by kernel_rfl) (by kernel_rfl) (by kernel_rfl))⟩
    ·replace hb62 := bnot_no (hb62)
     refine X.skip ?_
     refine sk ⟨[(4, rV 448), (5, bV true)], [(448, some (.nst 14 72 [(6, 1, 9), (8, 1, 9), (9, 1, 3), (10, 5, 35), (12, 2, 165)] ((insAt l ([b] : List S72) (Int.toNat v6)).map d72) []))], 688⟩ ?_
     refine X.ret ?_
     exact ⟨trivial, _, _, ⟨(insAt l ([b] : List S72) (Int.toNat v6)), true, (by first | exact add_no ‹_› | exact add_bad hat ‹_› | exact add_good hat ‹_› ‹_›), rfl, rfl⟩, .inl (Ret.mk' [(64, 448)] (by kernel_rfl) (by kernel_rfl) (by kernel_rfl))⟩
 obtain ⟨_, _, ⟨r0, r1, h1_, rfl, rfl⟩, hf⟩ := key
 exact ⟨r0, r1, h1_, hf⟩
end Go.Proofs.Ytggmeldoecnkaaa.Av
