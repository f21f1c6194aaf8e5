/-
What functions of the program come to, walked one by one.
Conditions: none beside those that each theorem names.
-/
import Derived.Test.YtpegmlbbeookbaaGreatAvNF
set_option linter.unusedVariables false
set_option linter.unusedSimpArgs false
namespace Go.Proofs.YtpegmlbbeookbaaGreat.Av
open Go.RowKit
set_option maxRecDepth 20000
set_option maxHeartbeats 4000000
theorem l_toBlock (x : S103) (hs : Sm73 (toBlock x)) : ∃ r0 : S73, (r0 = toBlock x) ∧ Fn Tryz.prog 74 [.e (.agg (cD (d103 x)))] (lookH []) (.e (.agg [.d (.v (.int .i64 r0.f0)), .d (.v (.int .i64 r0.f1)), .d (.v (.int .i64 r0.f2)), .d (.v (.string r0.f3)), .d (.v (.int .i64 r0.f4.f0)), .d (.v (.int .i64 r0.f4.f1)), .f (.sl (r0.f4.f2.map dS)), .d (.v (.int .i64 r0.f5.f0)), .f (.sl (r0.f5.f1.map dS)), .f (.sl (r0.f5.f2.map dI)), .f (.sl (r0.f6.map d119)), .d (.v (.bool r0.f7)), .f (.sl (r0.f8.map d121)), .d (.v (.string r0.f9))])) (lookH []) := by
 have key : ∃ x' h', ((fun x' h' => ∃ r0 : S73, (r0 = toBlock x) ∧ x' = .e (.agg [.d (.v (.int .i64 r0.f0)), .d (.v (.int .i64 r0.f1)), .d (.v (.int .i64 r0.f2)), .d (.v (.string r0.f3)), .d (.v (.int .i64 r0.f4.f0)), .d (.v (.int .i64 r0.f4.f1)), .f (.sl (r0.f4.f2.map dS)), .d (.v (.int .i64 r0.f5.f0)), .f (.sl (r0.f5.f1.map dS)), .f (.sl (r0.f5.f2.map dI)), .f (.sl (r0.f6.map d119)), .d (.v (.bool r0.f7)), .f (.sl (r0.f8.map d121)), .d (.v (.string r0.f9))]) ∧ h' = [])) x' h' ∧ Fn Tryz.prog 74 [.e (.agg (cD (d103 x)))] (lookH []) x' (lookH h') := by
  refine Fn.bodyX (N := 39) hτ Tryz.func74 rfl rfl rfl rfl ?_
  refine sk ⟨[(1, .pt 64 0 0), (2, .pt 80 0 0)], [(64, some (.box (cD (d103 x)))), (80, some (.box [.d (.v (.int .i64 0)), .d (.v (.int .i64 0)), .d (.v (.int .i64 0)), .d (.v (.string (⟨#[]⟩ : ByteArray))), .d (.v (.int .i64 0)), .d (.v (.int .i64 0)), .nil, .d (.v (.int .i64 0)), .nil, .nil, .nil, .d (.v (.bool false)), .nil, .d (.v (.string (⟨#[]⟩ : ByteArray)))]))], 96⟩ ?_
  refine X.seq ?_
  have hq3 : SmS x.f3 := hs.1
  have hq4 : Sm46 (toQc x.f4) := hs.2.1
  have hq5 : Sm47 (toTc x.f5) := hs.2.2.1
  have hq6 : SmT (x.f6.map toTx) := hs.2.2.2.1
  have hq8 : SmV (x.f8.map toVal) := hs.2.2.2.2.1
  have hq9 : SmS x.f9 := hs.2.2.2.2.2
  refine rk ⟨[(1, .pt 64 0 0), (2, .pt 80 0 0), (3, .pt 96 0 0)], [(64, some (.box (cD (d103 x)))), (80, some (.box [.d (.v (.int .i64 0)), .d (.v (.int .i64 0)), .d (.v (.int .i64 0)), .d (.v (.string (⟨#[]⟩ : ByteArray))), .d (.v (.int .i64 0)), .d (.v (.int .i64 0)), .nil, .d (.v (.int .i64 0)), .nil, .nil, .nil, .d (.v (.bool false)), .nil, .d (.v (.string (⟨#[]⟩ : ByteArray)))])), (96, some (.box [.d (.v (.int .i64 0)), .d (.v (.int .i64 0)), .d (.v (.int .i64 0)), .d (.v (.string (⟨#[]⟩ : ByteArray))), .d (.v (.int .i64 0)), .d (.v (.int .i64 0)), .nil, .d (.v (.int .i64 0)), .nil, .nil, .nil, .d (.v (.bool false)), .nil, .d (.v (.string (⟨#[]⟩ : ByteArray)))]))], 112⟩ ?_
  refine sk ⟨[(1, .pt 64 0 0), (2, .pt 80 0 0), (3, .pt 96 0 0)], [(64, some (.box (cD (d103 x)))), (80, some (.box [.d (.v (.int .i64 0)), .d (.v (.int .i64 0)), .d (.v (.int .i64 0)), .d (.v (.string (⟨#[]⟩ : ByteArray))), .d (.v (.int .i64 0)), .d (.v (.int .i64 0)), .nil, .d (.v (.int .i64 0)), .nil, .nil, .nil, .d (.v (.bool false)), .nil, .d (.v (.string (⟨#[]⟩ : ByteArray)))])), (96, some (.box [.d (.v (.int .i64 x.f0)), .d (.v (.int .i64 0)), .d (.v (.int .i64 0)), .d (.v (.string (⟨#[]⟩ : ByteArray))), .d (.v (.int .i64 0)), .d (.v (.int .i64 0)), .nil, .d (.v (.int .i64 0)), .nil, .nil, .nil, .d (.v (.bool false)), .nil, .d (.v (.string (⟨#[]⟩ : ByteArray)))]))], 176⟩ ?_
  refine sk ⟨[(1, .pt 64 0 0), (2, .pt 80 0 0), (3, .pt 96 0 0)], [(64, some (.box (cD (d103 x)))), (80, some (.box [.d (.v (.int .i64 0)), .d (.v (.int .i64 0)), .d (.v (.int .i64 0)), .d (.v (.string (⟨#[]⟩ : ByteArray))), .d (.v (.int .i64 0)), .d (.v (.int .i64 0)), .nil, .d (.v (.int .i64 0)), .nil, .nil, .nil, .d (.v (.bool false)), .nil, .d (.v (.string (⟨#[]⟩ : ByteArray)))])), (96, some (.box [.d (.v (.int .i64 x.f0)), .d (.v (.int .i64 x.f1)), .d (.v (.int .i64 0)), .d (.v (.string (⟨#[]⟩ : ByteArray))), .d (.v (.int .i64 0)), .d (.v (.int .i64 0)), .nil, .d (.v (.int .i64 0)), .nil, .nil, .nil, .d (.v (.bool false)), .nil, .d (.v (.string (⟨#[]⟩ : ByteArray)))]))], 240⟩ ?_
  refine sk ⟨[(1, .pt 64 0 0), (2, .pt 80 0 0), (3, .pt 96 0 0)], [(64, some (.box (cD (d103 x)))), (80, some (.box [.d (.v (.int .i64 0)), .d (.v (.int .i64 0)), .d (.v (.int .i64 0)), .d (.v (.string (⟨#[]⟩ : ByteArray))), .d (.v (.int .i64 0)), .d (.v (.int .i64 0)), .nil, .d (.v (.int .i64 0)), .nil, .nil, .nil, .d (.v (.bool false)), .nil, .d (.v (.string (⟨#[]⟩ : ByteArray)))])), (96, some (.box [.d (.v (.int .i64 x.f0)), .d (.v (.int .i64 x.f1)), .d (.v (.int .i64 x.f2)), .d (.v (.string (⟨#[]⟩ : ByteArray))), .d (.v (.int .i64 0)), .d (.v (.int .i64 0)), .nil, .d (.v (.int .i64 0)), .nil, .nil, .nil, .d (.v (.bool false)), .nil, .d (.v (.string (⟨#[]⟩ : ByteArray)))]))], 304⟩ ?_
  refine sk ⟨[(1, .pt 64 0 0), (2, .pt 80 0 0), (3, .pt 96 0 0)], [(64, some (.box (cD (d103 x)))), (80, some (.box [.d (.v (.int .i64 0)), .d (.v (.int .i64 0)), .d (.v (.int .i64 0)), .d (.v (.string (⟨#[]⟩ : ByteArray))), .d (.v (.int .i64 0)), .d (.v (.int .i64 0)), .nil, .d (.v (.int .i64 0)), .nil, .nil, .nil, .d (.v (.bool false)), .nil, .d (.v (.string (⟨#[]⟩ : ByteArray)))])), (96, some (.box [.d (.v (.int .i64 x.f0)), .d (.v (.int .i64 x.f1)), .d (.v (.int .i64 x.f2)), .d (.v (.string x.f3)), .d (.v (.int .i64 0)), .d (.v (.int .i64 0)), .nil, .d (.v (.int .i64 0)), .nil, .nil, .nil, .d (.v (.bool false)), .nil, .d (.v (.string (⟨#[]⟩ : ByteArray)))]))], 368⟩ ?_
  refine X.seq (rs 2 ?_)
  obtain ⟨r1, hr3, hf2⟩ := l_toQc x.f4 (by assumption)
  replace hr3 := hr3.symm; subst hr3
  refine ca hf2 Tryz.func30 ?_
  refine go 2 ?_
  refine ek ⟨[(1, .pt 64 0 0), (2, .pt 80 0 0), (3, .pt 96 0 0)], [(64, some (.box (cD (d103 x)))), (80, some (.box [.d (.v (.int .i64 0)), .d (.v (.int .i64 0)), .d (.v (.int .i64 0)), .d (.v (.string (⟨#[]⟩ : ByteArray))), .d (.v (.int .i64 0)), .d (.v (.int .i64 0)), .nil, .d (.v (.int .i64 0)), .nil, .nil, .nil, .d (.v (.bool false)), .nil, .d (.v (.string (⟨#[]⟩ : ByteArray)))])), (96, some (.box [.d (.v (.int .i64 x.f0)), .d (.v (.int .i64 x.f1)), .d (.v (.int .i64 x.f2)), .d (.v (.string x.f3)), .d (.v (.int .i64 (((toQc x.f4)).f0))), .d (.v (.int .i64 (((toQc x.f4)).f1))), .f (.sl ((((toQc x.f4)).f2).map dS)), .d (.v (.int .i64 0)), .nil, .nil, .nil, .d (.v (.bool false)), .nil, .d (.v (.string (⟨#[]⟩ : ByteArray)))]))], 448⟩ ?_
  refine X.seq (rs 2 ?_)
  obtain ⟨r5, hr7, hf6⟩ := l_toTc x.f5 (by assumption)
  replace hr7 := hr7.symm; subst hr7
  refine ca hf6 Tryz.func31 ?_
  refine go 2 ?_
  refine ek ⟨[(1, .pt 64 0 0), (2, .pt 80 0 0), (3, .pt 96 0 0)], [(64, some (.box (cD (d103 x)))), (80, some (.box [.d (.v (.int .i64 0)), .d (.v (.int .i64 0)), .d (.v (.int .i64 0)), .d (.v (.string (⟨#[]⟩ : ByteArray))), .d (.v (.int .i64 0)), .d (.v (.int .i64 0)), .nil, .d (.v (.int .i64 0)), .nil, .nil, .nil, .d (.v (.bool false)), .nil, .d (.v (.string (⟨#[]⟩ : ByteArray)))])), (96, some (.box [.d (.v (.int .i64 x.f0)), .d (.v (.int .i64 x.f1)), .d (.v (.int .i64 x.f2)), .d (.v (.string x.f3)), .d (.v (.int .i64 (((toQc x.f4)).f0))), .d (.v (.int .i64 (((toQc x.f4)).f1))), .f (.sl ((((toQc x.f4)).f2).map dS)), .d (.v (.int .i64 (((toTc x.f5)).f0))), .f (.sl ((((toTc x.f5)).f1).map dS)), .f (.sl ((((toTc x.f5)).f2).map dI)), .nil, .d (.v (.bool false)), .nil, .d (.v (.string (⟨#[]⟩ : ByteArray)))]))], 528⟩ ?_
  refine X.seq (rs 2 ?_)
  obtain ⟨r9, hr11, hf10⟩ := l_toTxS x.f6 (by assumption)
  replace hr11 := hr11.symm; subst hr11
  have hlm : (x.f6.map toTx).length = x.f6.length := List.length_map ..
  refine ca hf10 Tryz.func35 ?_
  refine go 2 ?_
  refine ek ⟨[(1, .pt 64 0 0), (2, .pt 80 0 0), (3, .pt 96 0 0)], [(64, some (.box (cD (d103 x)))), (80, some (.box [.d (.v (.int .i64 0)), .d (.v (.int .i64 0)), .d (.v (.int .i64 0)), .d (.v (.string (⟨#[]⟩ : ByteArray))), .d (.v (.int .i64 0)), .d (.v (.int .i64 0)), .nil, .d (.v (.int .i64 0)), .nil, .nil, .nil, .d (.v (.bool false)), .nil, .d (.v (.string (⟨#[]⟩ : ByteArray)))])), (96, some (.box [.d (.v (.int .i64 x.f0)), .d (.v (.int .i64 x.f1)), .d (.v (.int .i64 x.f2)), .d (.v (.string x.f3)), .d (.v (.int .i64 (((toQc x.f4)).f0))), .d (.v (.int .i64 (((toQc x.f4)).f1))), .f (.sl ((((toQc x.f4)).f2).map dS)), .d (.v (.int .i64 (((toTc x.f5)).f0))), .f (.sl ((((toTc x.f5)).f1).map dS)), .f (.sl ((((toTc x.f5)).f2).map dI)), .f (.sl ((x.f6.map toTx).map d119)), .d (.v (.bool false)), .nil, .d (.v (.string (⟨#[]⟩ : ByteArray)))]))], 608⟩ ?_
  refine sk ⟨[(1, .pt 64 0 0), (2, .pt 80 0 0), (3, .pt 96 0 0)], [(64, some (.box (cD (d103 x)))), (80, some (.box [.d (.v (.int .i64 0)), .d (.v (.int .i64 0)), .d (.v (.int .i64 0)), .d (.v (.string (⟨#[]⟩ : ByteArray))), .d (.v (.int .i64 0)), .d (.v (.int .i64 0)), .nil, .d (.v (.int .i64 0)), .nil, .nil, .nil, .d (.v (.bool false)), .nil, .d (.v (.string (⟨#[]⟩ : ByteArray)))])), (96, some (.box [.d (.v (.int .i64 x.f0)), .d (.v (.int .i64 x.f1)), .d (.v (.int .i64 x.f2)), .d (.v (.string x.f3)), .d (.v (.int .i64 (((toQc x.f4)).f0))), .d (.v (.int .i64 (((toQc x.f4)).f1))), .f (.sl ((((toQc x.f4)).f2).map dS)), .d (.v (.int .i64 (((toTc x.f5)).f0))), .f (.sl ((((toTc x.f5)).f1).map dS)), .f (.sl ((((toTc x.f5)).f2).map dI)), .f (.sl ((x.f6.map toTx).map d119)), .d (.v (.bool x.f7)), .nil, .d (.v (.string (⟨#[]⟩ : ByteArray)))]))], 672⟩ ?_
  refine X.seq (rs 2 ?_)
  obtain ⟨r13, hr15, hf14⟩ := l_toValS x.f8 (by assumption)
  replace hr15 := hr15.symm; subst hr15
  have hlm : (x.f8.map toVal).length = x.f8.length := List.length_map ..
  refine ca hf14 Tryz.func28 ?_
  refine go 2 ?_
  refine ek ⟨[(1, .pt 64 0 0), (2, .pt 80 0 0), (3, .pt 96 0 0)], [(64, some (.box (cD (d103 x)))), (80, some (.box [.d (.v (.int .i64 0)), .d (.v (.int .i64 0)), .d (.v (.int .i64 0)), .d (.v (.string (⟨#[]⟩ : ByteArray))), .d (.v (.int .i64 0)), .d (.v (.int .i64 0)), .nil, .d (.v (.int .i64 0)), .nil, .nil, .nil, .d (.v (.bool false)), .nil, .d (.v (.string (⟨#[]⟩ : ByteArray)))])), (96, some (.box [.d (.v (.int .i64 x.f0)), .d (.v (.int .i64 x.f1)), .d (.v (.int .i64 x.f2)), .d (.v (.string x.f3)), .d (.v (.int .i64 (((toQc x.f4)).f0))), .d (.v (.int .i64 (((toQc x.f4)).f1))), .f (.sl ((((toQc x.f4)).f2).map dS)), .d (.v (.int .i64 (((toTc x.f5)).f0))), .f (.sl ((((toTc x.f5)).f1).map dS)), .f (.sl ((((toTc x.f5)).f2).map dI)), .f (.sl ((x.f6.map toTx).map d119)), .d (.v (.bool x.f7)), .f (.sl ((x.f8.map toVal).map d121)), .d (.v (.string (⟨#[]⟩ : ByteArray)))]))], 752⟩ ?_
  refine sk ⟨[(2, .pt 80 0 0), (3, .pt 96 0 0)], [(80, some (.box [.d (.v (.int .i64 0)), .d (.v (.int .i64 0)), .d (.v (.int .i64 0)), .d (.v (.string (⟨#[]⟩ : ByteArray))), .d (.v (.int .i64 0)), .d (.v (.int .i64 0)), .nil, .d (.v (.int .i64 0)), .nil, .nil, .nil, .d (.v (.bool false)), .nil, .d (.v (.string (⟨#[]⟩ : ByteArray)))])), (96, some (.box [.d (.v (.int .i64 x.f0)), .d (.v (.int .i64 x.f1)), .d (.v (.int .i64 x.f2)), .d (.v (.string x.f3)), .d (.v (.int .i64 (((toQc x.f4)).f0))), .d (.v (.int .i64 (((toQc x.f4)).f1))), .f (.sl ((((toQc x.f4)).f2).map dS)), .d (.v (.int .i64 (((toTc x.f5)).f0))), .f (.sl ((((toTc x.f5)).f1).map dS)), .f (.sl ((((toTc x.f5)).f2).map dI)), .f (.sl ((x.f6.map toTx).map d119)), .d (.v (.bool x.f7)), .f (.sl ((x.f8.map toVal).map d121)), .d (.v (.string x.f9))]))], 816⟩ ?_
  refine sk ⟨[(2, .pt 80 0 0)], [(80, some (.box [.d (.v (.int .i64 x.f0)), .d (.v (.int .i64 x.f1)), .d (.v (.int .i64 x.f2)), .d (.v (.string x.f3)), .d (.v (.int .i64 (((toQc x.f4)).f0))), .d (.v (.int .i64 (((toQc x.f4)).f1))), .f (.sl ((((toQc x.f4)).f2).map dS)), .d (.v (.int .i64 (((toTc x.f5)).f0))), .f (.sl ((((toTc x.f5)).f1).map dS)), .f (.sl ((((toTc x.f5)).f2).map dI)), .f (.sl ((x.f6.map toTx).map d119)), .d (.v (.bool x.f7)), .f (.sl ((x.f8.map toVal).map d121)), .d (.v (.string x.f9))]))], 848⟩ ?_
  refine X.ret ?_
  exact ⟨trivial, _, _, ⟨(⟨x.f0, x.f1, x.f2, x.f3, ((toQc x.f4)), ((toTc x.f5)), (x.f6.map toTx), x.f7, (x.f8.map toVal), x.f9⟩ : S73), rfl, rfl, rfl⟩, mkr⟩
 obtain ⟨_, _, ⟨r0, h1_, rfl, rfl⟩, hf⟩ := key
 exact ⟨r0, h1_, hf⟩

theorem l_eqBlock (a : S73) (b : S73) (ha : Sm73 a) (hb : Sm73 b) : ∃ r0 : Bool, (r0 = eqV a b) ∧ Fn Tryz.prog 93 [.e (.agg (cD (d73 a))), .e (.agg (cD (d73 b)))] (lookH []) (bV r0) (lookH []) := by
 have key : ∃ x' h', ((fun x' h' => ∃ r0 : Bool, (r0 = eqV a b) ∧ x' = bV r0 ∧ h' = [])) x' h' ∧ Fn Tryz.prog 93 [.e (.agg (cD (d73 a))), .e (.agg (cD (d73 b)))] (lookH []) x' (lookH h') := by
  refine Fn.bodyX (N := 59) hτ Tryz.func93 rfl rfl rfl rfl ?_
  refine sk ⟨[(2, .pt 64 0 0), (3, .pt 80 0 0)], [(64, some (.box (cD (d73 a)))), (80, some (.box (cD (d73 b))))], 112⟩ ?_
  refine X.seq ?_
  refine X.seq ?_
  have a3 : SmS a.f3 := ha.1
  have b3 : SmS b.f3 := hb.1
  have a4 : Sm46 a.f4 := ha.2.1
  have b4 : Sm46 b.f4 := hb.2.1
  have a5 : Sm47 a.f5 := ha.2.2.1
  have b5 : Sm47 b.f5 := hb.2.2.1
  have a6 : SmT a.f6 := ha.2.2.2.1
  have b6 : SmT b.f6 := hb.2.2.2.1
  have a8 : SmV a.f8 := ha.2.2.2.2.1
  have b8 : SmV b.f8 := hb.2.2.2.2.1
  have a9 : SmS a.f9 := ha.2.2.2.2.2
  have b9 : SmS b.f9 := hb.2.2.2.2.2
  refine rk ⟨[(2, .pt 64 0 0), (3, .pt 80 0 0), (9, bV (a.f0 != b.f0))], [(64, some (.box (cD (d73 a)))), (80, some (.box (cD (d73 b))))], 192⟩ ?_
  refine if_ (b := (a.f0 != b.f0)) (fun hb1 => ?_) (fun hb1 => ?_)
  ·replace hb1 := bne_iff_ne.1 (hb1)
   refine sk ⟨[(4, bV false)], [], 208⟩ ?_
   refine X.ret ?_
   exact ⟨trivial, _, _, ⟨false, (by first | exact fls (fun h => by subst h; first | exact absurd rfl ‹_› | exact tf (eqV_self _) ‹_› | exact tf (allEq_self _) ‹_›) | exact tru (by cases a; cases b; simp_all [eqV_iff, allEq_iff, tl_inj])), rfl, rfl⟩, mkr⟩
  ·replace hb1 := bne_eq_false_iff_eq.1 (hb1)
   refine X.skip ?_
   refine X.seq ?_
   refine sk ⟨[(2, .pt 64 0 0), (3, .pt 80 0 0), (14, bV (a.f1 != b.f1))], [(64, some (.box (cD (d73 a)))), (80, some (.box (cD (d73 b))))], 272⟩ ?_
   refine if_ (b := (a.f1 != b.f1)) (fun hb2 => ?_) (fun hb2 => ?_)
   ·replace hb2 := bne_iff_ne.1 (hb2)
    refine sk ⟨[(4, bV false)], [], 288⟩ ?_
    refine X.ret ?_
    exact ⟨trivial, _, _, ⟨false, (by first | exact fls (fun h => by subst h; first | exact absurd rfl ‹_› | exact tf (eqV_self _) ‹_› | exact tf (allEq_self _) ‹_›) | exact tru (by cases a; cases b; simp_all [eqV_iff, allEq_iff, tl_inj])), rfl, rfl⟩, mkr⟩
   ·replace hb2 := bne_eq_false_iff_eq.1 (hb2)
    refine X.skip ?_
    refine X.seq ?_
    refine sk ⟨[(2, .pt 64 0 0), (3, .pt 80 0 0), (19, bV (a.f2 != b.f2))], [(64, some (.box (cD (d73 a)))), (80, some (.box (cD (d73 b))))], 352⟩ ?_
    refine if_ (b := (a.f2 != b.f2)) (fun hb3 => ?_) (fun hb3 => ?_)
    ·replace hb3 := bne_iff_ne.1 (hb3)
     refine sk ⟨[(4, bV false)], [], 368⟩ ?_
     refine X.ret ?_
     exact ⟨trivial, _, _, ⟨false, (by first | exact fls (fun h => by subst h; first | exact absurd rfl ‹_› | exact tf (eqV_self _) ‹_› | exact tf (allEq_self _) ‹_›) | exact tru (by cases a; cases b; simp_all [eqV_iff, allEq_iff, tl_inj])), rfl, rfl⟩, mkr⟩
    ·replace hb3 := bne_eq_false_iff_eq.1 (hb3)
     refine X.skip ?_
     refine X.seq ?_
     refine sk ⟨[(2, .pt 64 0 0), (3, .pt 80 0 0), (24, bV (!(a.f3.toList == b.f3.toList)))], [(64, some (.box (cD (d73 a)))), (80, some (.box (cD (d73 b))))], 432⟩ ?_
     refine if_ (b := !(a.f3.toList == b.f3.toList)) (fun hb4 => ?_) (fun hb4 => ?_)
     ·replace hb4 := beq_no (bnot_yes (hb4))
      refine sk ⟨[(4, bV false)], [], 448⟩ ?_
      refine X.ret ?_
      exact ⟨trivial, _, _, ⟨false, (by first | exact fls (fun h => by subst h; first | exact absurd rfl ‹_› | exact tf (eqV_self _) ‹_› | exact tf (allEq_self _) ‹_›) | exact tru (by cases a; cases b; simp_all [eqV_iff, allEq_iff, tl_inj])), rfl, rfl⟩, mkr⟩
     ·replace hb4 := beq_yes (bnot_no (hb4))
      refine X.skip ?_
      refine X.seq ?_
      refine X.seq (rs 4 ?_)
      obtain ⟨r5, hr7, hf6⟩ := l_eqQc a.f4 b.f4 (by assumption) (by assumption)
      replace hr7 := hr7.symm; subst hr7
      refine ca hf6 Tryz.func48 ?_
      refine go 1 ?_
      refine ek ⟨[(2, .pt 64 0 0), (3, .pt 80 0 0), (30, bV (!(eqV a.f4 b.f4)))], [(64, some (.box (cD (d73 a)))), (80, some (.box (cD (d73 b))))], 528⟩ ?_
      refine if_ (b := !(eqV a.f4 b.f4)) (fun hb9 => ?_) (fun hb9 => ?_)
      ·replace hb9 := bnot_yes (hb9)
       refine sk ⟨[(4, bV false)], [], 544⟩ ?_
       refine X.ret ?_
       exact ⟨trivial, _, _, ⟨false, (by first | exact fls (fun h => by subst h; first | exact absurd rfl ‹_› | exact tf (eqV_self _) ‹_› | exact tf (allEq_self _) ‹_›) | exact tru (by cases a; cases b; simp_all [eqV_iff, allEq_iff, tl_inj])), rfl, rfl⟩, mkr⟩
      ·replace hb9 := bnot_no (hb9)
       refine X.skip ?_
       refine X.seq ?_
       refine X.seq (rs 4 ?_)
       obtain ⟨r10, hr12, hf11⟩ := l_eqTc a.f5 b.f5 (by assumption) (by assumption)
       replace hr12 := hr12.symm; subst hr12
       refine ca hf11 Tryz.func49 ?_
       refine go 1 ?_
       refine ek ⟨[(2, .pt 64 0 0), (3, .pt 80 0 0), (36, bV (!(eqV a.f5 b.f5)))], [(64, some (.box (cD (d73 a)))), (80, some (.box (cD (d73 b))))], 624⟩ ?_
       refine if_ (b := !(eqV a.f5 b.f5)) (fun hb14 => ?_) (fun hb14 => ?_)
       ·replace hb14 := bnot_yes (hb14)
        refine sk ⟨[(4, bV false)], [], 640⟩ ?_
        refine X.ret ?_
        exact ⟨trivial, _, _, ⟨false, (by first | exact fls (fun h => by subst h; first | exact absurd rfl ‹_› | exact tf (eqV_self _) ‹_› | exact tf (allEq_self _) ‹_›) | exact tru (by cases a; cases b; simp_all [eqV_iff, allEq_iff, tl_inj])), rfl, rfl⟩, mkr⟩
       ·replace hb14 := bnot_no (hb14)
        refine X.skip ?_
        refine X.seq ?_
        refine X.seq (rs 4 ?_)
        obtain ⟨r15, hr17, hf16⟩ := l_eqTxS a.f6 b.f6 (by assumption) (by assumption)
        replace hr17 := hr17.symm; subst hr17
        refine ca hf16 Tryz.func53 ?_
        refine go 1 ?_
        refine ek ⟨[(2, .pt 64 0 0), (3, .pt 80 0 0), (42, bV (!(allEq a.f6 b.f6)))], [(64, some (.box (cD (d73 a)))), (80, some (.box (cD (d73 b))))], 720⟩ ?_
        refine if_ (b := !(allEq a.f6 b.f6)) (fun hb19 => ?_) (fun hb19 => ?_)
        ·replace hb19 := bnot_yes (hb19)
         refine sk ⟨[(4, bV false)], [], 736⟩ ?_
         refine X.ret ?_
         exact ⟨trivial, _, _, ⟨false, (by first | exact fls (fun h => by subst h; first | exact absurd rfl ‹_› | exact tf (eqV_self _) ‹_› | exact tf (allEq_self _) ‹_›) | exact tru (by cases a; cases b; simp_all [eqV_iff, allEq_iff, tl_inj])), rfl, rfl⟩, mkr⟩
        ·replace hb19 := bnot_no (hb19)
         refine X.skip ?_
         refine X.seq ?_
         refine X.seq (rs 4 ?_)
         refine CH.eqB (t := 4) (ng := true) (a := a.f7) (b := b.f7) (by kernel_rfl) (by kernel_rfl) Tryz.underlying4 ?_
         refine ek ⟨[(2, .pt 64 0 0), (3, .pt 80 0 0), (47, bV (!(a.f7 == b.f7)))], [(64, some (.box (cD (d73 a)))), (80, some (.box (cD (d73 b))))], 800⟩ ?_
         refine if_ (b := !(a.f7 == b.f7)) (fun hb20 => ?_) (fun hb20 => ?_)
         ·replace hb20 := beq_eq_false_iff_ne.1 (bnot_yes (hb20))
          refine sk ⟨[(4, bV false)], [], 816⟩ ?_
          refine X.ret ?_
          exact ⟨trivial, _, _, ⟨false, (by first | exact fls (fun h => by subst h; first | exact absurd rfl ‹_› | exact tf (eqV_self _) ‹_› | exact tf (allEq_self _) ‹_›) | exact tru (by cases a; cases b; simp_all [eqV_iff, allEq_iff, tl_inj])), rfl, rfl⟩, mkr⟩
         ·replace hb20 := eq_of_beq (bnot_no (hb20))
          refine X.skip ?_
          refine X.seq ?_
          refine X.seq (rs 4 ?_)
          obtain ⟨r21, hr23, hf22⟩ := l_eqValS a.f8 b.f8 (by assumption) (by assumption)
          replace hr23 := hr23.symm; subst hr23
          refine ca hf22 Tryz.func46 ?_
          refine go 1 ?_
          refine ek ⟨[(2, .pt 64 0 0), (3, .pt 80 0 0), (53, bV (!(allEq a.f8 b.f8)))], [(64, some (.box (cD (d73 a)))), (80, some (.box (cD (d73 b))))], 896⟩ ?_
          refine if_ (b := !(allEq a.f8 b.f8)) (fun hb25 => ?_) (fun hb25 => ?_)
          ·replace hb25 := bnot_yes (hb25)
           refine sk ⟨[(4, bV false)], [], 912⟩ ?_
           refine X.ret ?_
           exact ⟨trivial, _, _, ⟨false, (by first | exact fls (fun h => by subst h; first | exact absurd rfl ‹_› | exact tf (eqV_self _) ‹_› | exact tf (allEq_self _) ‹_›) | exact tru (by cases a; cases b; simp_all [eqV_iff, allEq_iff, tl_inj])), rfl, rfl⟩, mkr⟩
          ·replace hb25 := bnot_no (hb25)
           refine X.skip ?_
           refine X.seq ?_
           refine sk ⟨[(58, bV (!(a.f9.toList == b.f9.toList)))], [], 976⟩ ?_
           refine if_ (b := !(a.f9.toList == b.f9.toList)) (fun hb26 => ?_) (fun hb26 => ?_)
           ·replace hb26 := beq_no (bnot_yes (hb26))
            refine sk ⟨[(4, bV false)], [], 992⟩ ?_
            refine X.ret ?_
            exact ⟨trivial, _, _, ⟨false, (by first | exact fls (fun h => by subst h; first | exact absurd rfl ‹_› | exact tf (eqV_self _) ‹_› | exact tf (allEq_self _) ‹_›) | exact tru (by cases a; cases b; simp_all [eqV_iff, allEq_iff, tl_inj])), rfl, rfl⟩, mkr⟩
           ·replace hb26 := beq_yes (bnot_no (hb26))
            refine X.skip ?_
            refine sk ⟨[(4, bV true)], [], 992⟩ ?_
            refine X.ret ?_
            exact ⟨trivial, _, _, ⟨true, (by first | exact fls (fun h => by subst h; first | exact absurd rfl ‹_› | exact tf (eqV_self _) ‹_› | exact tf (allEq_self _) ‹_›) | exact tru (by cases a; cases b; simp_all [eqV_iff, allEq_iff, tl_inj])), rfl, rfl⟩, mkr⟩
 obtain ⟨_, _, ⟨r0, h1_, rfl, rfl⟩, hf⟩ := key
 exact ⟨r0, h1_, hf⟩

theorem l_toBlockS (l : List S103) (hl : SmL (l.map toBlock)) : ∃ r0 : List S73, (r0 = l.map toBlock) ∧ Fn Tryz.prog 29 [lV (l.map d103)] (lookH []) (.e (.c (.f (.sl (r0.map d73))))) (lookH []) := by
 have key : ∃ x' h', ((fun x' h' => ∃ r0 : List S73, (r0 = l.map toBlock) ∧ x' = .e (.c (.f (.sl (r0.map d73)))) ∧ h' = [])) x' h' ∧ Fn Tryz.prog 29 [lV (l.map d103)] (lookH []) x' (lookH h') := by
  refine Fn.bodyX (N := 23) hτ Tryz.func29 rfl rfl rfl rfl ?_
  refine sk ⟨[(0, lV (l.map d103))], [], 80⟩ ?_
  refine X.seq ?_
  have hll : l.length ≤ 2000000 := by have := hl.1; simpa only [List.length_map] using this
  have el1 : (l.map d103).length = l.length := List.length_map ..
  refine rs 2 ?_
  refine CH.mks hτ (n := (l.map d103).length) (bys := 208) (by kernel_rfl) (by kernel_rfl) (by first | omega | (simp only [List.length_map]; omega) | (simp; omega)) (by first | omega | (simp only [List.length_map]; omega) | (simp; omega)) (by kernel_rfl) ?_
  refine go 1 ?_
  refine CH.endk ⟨[(0, lV (l.map d103)), (3, rV 112)], [(112, some (.row 14 73 (List.replicate ((l.map d103).length) (d73 z73)) false true))], 144⟩ (by kernel_rfl) (by kernel_rfl) (s2 := ⟨[(0, lV (l.map d103)), (3, rV 112)], [(112, some (.row 14 73 ((List.replicate ((l.map d103).length) z73).map d73) false true))], 144⟩) (congrArg (fun z : List (List D) => (⟨[(0, lV (l.map d103)), (3, rV 112)], [(112, some (.row 14 73 z false true))], 144⟩ : St)) (show List.replicate ((l.map d103).length) (d73 z73) = ((List.replicate ((l.map d103).length) z73).map d73) from List.map_replicate.symm)) ?_
  refine X.seq ?_
  refine sk ⟨[(0, lV (l.map d103)), (3, rV 112), (4, iV 0)], [(112, some (.row 14 73 ((List.replicate ((l.map d103).length) z73).map d73) false true))], 160⟩ ?_
  refine X.block ?_
  -- 3: Lv3 : List S73, v4 : Int
  refine X.loop (σ := { g : (List S73) × Int // (fun (Lv3 : List S73) (v4 : Int) => 0 ≤ v4 ∧ v4 ≤ l.length ∧ Lv3.length = l.length ∧ ∀ (j : Nat) (x : S103), (j : Int) < v4 → l[j]? = some x → Lv3[j]? = some (toBlock x)) g.1 g.2 }) (fun g => (fun (Lv3 : List S73) (v4 : Int) => ⟨[(0, lV (l.map d103)), (3, rV 112), (4, iV v4)], [(112, some (.row 14 73 (Lv3.map d73) false true))], 160⟩) g.1.1 g.1.2) (fun g => (fun (Lv3 : List S73) (v4 : Int) => (l.length - v4).toNat) g.1.1 g.1.2) ⟨((List.replicate ((l.map d103).length) z73), 0), ⟨by first | omega | (dsimp only; omega), by first | omega | (dsimp only; omega), by simp, fun j x h => by first | omega | (dsimp only; omega)⟩⟩ (Wk.less (by kernel_rfl)) (fun g => ?_)
  obtain ⟨⟨Lv3, v4⟩, hg3⟩ := g
  have hg3 : 0 ≤ v4 ∧ v4 ≤ l.length ∧ Lv3.length = l.length ∧ ∀ (j : Nat) (x : S103), (j : Int) < v4 → l[j]? = some x → Lv3[j]? = some (toBlock x) := hg3
  obtain ⟨_, _, hL, hA⟩ := hg3
  refine X.seq ?_
  refine sk ⟨[(0, lV (l.map d103)), (3, rV 112), (4, iV v4), (11, bV (decide ((v4 : Int) < ((l.map d103).length : Int))))], [(112, some (.row 14 73 (Lv3.map d73) false true))], 224⟩ ?_
  refine if_ (b := decide ((v4 : Int) < ((l.map d103).length : Int))) (fun hb4 => ?_) (fun hb4 => ?_)
  ·replace hb4 := of_decide_eq_true (hb4)
   refine X.skip ?_
   refine X.seq ?_
   refine X.block ?_
   refine rs 4 ?_
   obtain ⟨x5, hx5⟩ : ∃ x, l[Int.toNat v4]? = some x := ⟨_, List.getElem?_eq_getElem (by first | omega | (simp; done) | (simp; omega))⟩
   refine CH.idx hτ (d103 x5) (rows := (l.map d103)) (n := v4) (sz := 14) (by kernel_rfl) (by kernel_rfl) (by first | omega | (simp; done) | (simp; omega)) (by rw [List.getElem?_map, hx5]; rfl) (by kernel_rfl) ?_
   refine go 1 ?_
   obtain ⟨r6, hr8, hf7⟩ := l_toBlock x5 (by exact hl.2 _ (List.mem_map.2 ⟨_, List.mem_of_getElem? ‹_›, rfl⟩))
   replace hr8 := hr8.symm; subst hr8
   refine ca hf7 Tryz.func74 ?_
   refine CH.idxR hτ (rows := (Lv3.map d73)) (n := v4) (b := 112) (by kernel_rfl) (by kernel_rfl) (by first | omega | (simp; done) | (simp; omega)) (by simp only [List.length_map, List.length_set]; first | omega | (simp; done) | (simp; omega)) (by kernel_rfl) ?_
   obtain ⟨x10, hx10⟩ : ∃ x, Lv3[Int.toNat v4]? = some x := ⟨_, List.getElem?_eq_getElem (by first | omega | (simp; done) | (simp; omega))⟩
   refine CH.row hτ (d73 x10) (by kernel_rfl) (by kernel_rfl) (by rw [List.getElem?_map, hx10]; rfl) (by kernel_rfl) ?_
   refine CH.endk ⟨[(0, lV (l.map d103)), (3, rV 112), (4, iV v4)], [(112, some (.row 14 73 ((Lv3.map d73).set (Int.toNat v4) (d73 ((toBlock x5)))) false true))], 368⟩ (by kernel_rfl) (by kernel_rfl) (s2 := ⟨[(0, lV (l.map d103)), (3, rV 112), (4, iV v4)], [(112, some (.row 14 73 ((Lv3.set (Int.toNat v4) ((toBlock x5))).map d73) false true))], 368⟩) (congrArg (fun z : List (List D) => (⟨[(0, lV (l.map d103)), (3, rV 112), (4, iV v4)], [(112, some (.row 14 73 z false true))], 368⟩ : St)) (show ((Lv3.map d73).set (Int.toNat v4) (d73 ((toBlock x5)))) = ((Lv3.set (Int.toNat v4) ((toBlock x5))).map d73) from List.map_set.symm)) ?_
   refine X.rk ⟨[(0, lV (l.map d103)), (3, rV 112), (4, iV (wrap64 (v4 + 1)))], [(112, some (.row 14 73 ((Lv3.set (Int.toNat v4) ((toBlock x5))).map d73) false true))], 416⟩ hτ hmix (by kernel_rfl) (by kernel_rfl) (s2 := ⟨[(0, lV (l.map d103)), (3, rV 112), (4, iV (v4 + 1))], [(112, some (.row 14 73 ((Lv3.set (Int.toNat v4) ((toBlock x5))).map d73) false true))], 416⟩) (congrArg (fun z : Int => (⟨[(0, lV (l.map d103)), (3, rV 112), (4, iV z)], [(112, some (.row 14 73 ((Lv3.set (Int.toNat v4) ((toBlock x5))).map d73) false true))], 416⟩ : St)) (show wrap64 (v4 + 1) = (v4 + 1) by rw [w64 (n := (v4 + 1)) (by omega) (by omega)])) ?_
   refine ⟨⟨((Lv3.set (Int.toNat v4) ((toBlock x5))), (v4 + 1)), ⟨by first | omega | (dsimp only; omega), by first | omega | (dsimp only; omega), by simp; omega, ts_next (f := toBlock) hA (by first | omega | (dsimp only; omega)) (by first | omega | (dsimp only; omega)) ‹_›⟩⟩, by first | exact rfl | omega | (dsimp only; omega) | (simp only [List.length_append, List.length_cons, List.length_nil, List.length_set]; omega) | (simp; done) | (simp; omega), Wk.mk' [(112, 112)] (by kernel_rfl) (by kernel_rfl) (by kernel_rfl)⟩
  ·replace hb4 := of_decide_eq_false (hb4)
   refine X.exit ?_
   refine sk ⟨[(2, rV 112)], [(112, some (.row 14 73 (Lv3.map d73) false true))], 256⟩ ?_
   refine X.ret ?_
   exact ⟨trivial, _, _, ⟨Lv3, ts_end hA hL (by omega), rfl, rfl⟩, .inr ⟨⟨[(2, .e (.c (.f (.sl (Lv3.map d73)))))], [(112, some (.row 14 73 (Lv3.map d73) true true))], 256⟩, Wk.less (by kernel_rfl), Ret.mk' [] (by kernel_rfl) (by kernel_rfl) (by kernel_rfl)⟩⟩
 obtain ⟨_, _, ⟨r0, h1_, rfl, rfl⟩, hf⟩ := key
 exact ⟨r0, h1_, hf⟩

theorem l_eqBlockS (l : List S73) (m : List S73) (hl : SmL l) (hm : SmL m) : ∃ r0 : Bool, (r0 = allEq l m) ∧ Fn Tryz.prog 47 [lV (l.map d73), lV (m.map d73)] (lookH []) (bV r0) (lookH []) := by
 have key : ∃ x' h', ((fun x' h' => ∃ r0 : Bool, (r0 = allEq l m) ∧ x' = bV r0 ∧ h' = [])) x' h' ∧ Fn Tryz.prog 47 [lV (l.map d73), lV (m.map d73)] (lookH []) x' (lookH h') := by
  refine Fn.bodyX (N := 27) hτ Tryz.func47 rfl rfl rfl rfl ?_
  refine sk ⟨[(0, lV (l.map d73)), (1, lV (m.map d73))], [], 80⟩ ?_
  refine X.seq ?_
  refine X.seq ?_
  have hll : l.length ≤ 2000000 := hl.1
  have hml : m.length ≤ 2000000 := hm.1
  have el1 : (l.map d73).length = l.length := List.length_map ..
  have el2 : (m.map d73).length = m.length := List.length_map ..
  refine rk ⟨[(0, lV (l.map d73)), (1, lV (m.map d73)), (10, bV (((l.map d73).length : Int) != ((m.map d73).length : Int)))], [], 160⟩ ?_
  refine if_ (b := (((l.map d73).length : Int) != ((m.map d73).length : Int))) (fun hb3 => ?_) (fun hb3 => ?_)
  ·replace hb3 := bne_iff_ne.1 (hb3)
   refine sk ⟨[(4, bV false)], [], 176⟩ ?_
   refine X.ret ?_
   exact ⟨trivial, _, _, ⟨false, (by first | exact fls (fun h => by have := congrArg List.length h; omega) | exact fls (eq_no ‹_› ‹_› (eqV_no ‹_›)) | exact tru (eq_all hA (by omega) (by omega))), rfl, rfl⟩, mkr⟩
  ·replace hb3 := bne_eq_false_iff_eq.1 (hb3)
   refine X.skip ?_
   refine X.seq ?_
   refine sk ⟨[(0, lV (l.map d73)), (1, lV (m.map d73)), (5, iV 0)], [], 176⟩ ?_
   refine X.block ?_
   -- 4: v5 : Int
   refine X.loop (σ := { g : Int // (fun (v5 : Int) => 0 ≤ v5 ∧ v5 ≤ l.length ∧ Upto (fun j x => m[j.toNat]? = some x) (fun n => l[n]?) v5) g }) (fun g => (fun (v5 : Int) => ⟨[(0, lV (l.map d73)), (1, lV (m.map d73)), (5, iV v5)], [], 176⟩) g.1) (fun g => (fun (v5 : Int) => (l.length - v5).toNat) g.1) ⟨0, ⟨by first | omega | (dsimp only; omega), by first | omega | (dsimp only; omega), upto_zero⟩⟩ (Wk.less (by kernel_rfl)) (fun g => ?_)
   obtain ⟨v5, hg5⟩ := g
   have hg5 : 0 ≤ v5 ∧ v5 ≤ l.length ∧ Upto (fun j x => m[j.toNat]? = some x) (fun n => l[n]?) v5 := hg5
   obtain ⟨_, _, hA⟩ := hg5
   refine X.seq ?_
   refine sk ⟨[(0, lV (l.map d73)), (1, lV (m.map d73)), (5, iV v5), (14, bV (decide ((v5 : Int) < ((l.map d73).length : Int))))], [], 240⟩ ?_
   refine if_ (b := decide ((v5 : Int) < ((l.map d73).length : Int))) (fun hb6 => ?_) (fun hb6 => ?_)
   ·replace hb6 := of_decide_eq_true (hb6)
    refine X.skip ?_
    refine X.seq ?_
    refine X.block ?_
    refine X.seq (rs 2 ?_)
    obtain ⟨x7, hx7⟩ : ∃ x, l[Int.toNat v5]? = some x := ⟨_, List.getElem?_eq_getElem (by first | omega | (simp; done) | (simp; omega))⟩
    refine CH.idx hτ (d73 x7) (rows := (l.map d73)) (n := v5) (sz := 14) (by kernel_rfl) (by kernel_rfl) (by first | omega | (simp; done) | (simp; omega)) (by rw [List.getElem?_map, hx7]; rfl) (by kernel_rfl) ?_
    refine go 3 ?_
    obtain ⟨x8, hx8⟩ : ∃ x, m[Int.toNat v5]? = some x := ⟨_, List.getElem?_eq_getElem (by first | omega | (simp; done) | (simp; omega))⟩
    refine CH.idx hτ (d73 x8) (rows := (m.map d73)) (n := v5) (sz := 14) (by kernel_rfl) (by kernel_rfl) (by first | omega | (simp; done) | (simp; omega)) (by rw [List.getElem?_map, hx8]; rfl) (by kernel_rfl) ?_
    refine go 1 ?_
    obtain ⟨r9, hr11, hf10⟩ := l_eqBlock x7 x8 (by exact all_at hl.2 ‹_›) (by exact all_at hm.2 ‹_›)
    replace hr11 := hr11.symm; subst hr11
    refine ca hf10 Tryz.func93 ?_
    refine go 1 ?_
    refine ek ⟨[(0, lV (l.map d73)), (1, lV (m.map d73)), (5, iV v5), (26, bV (!(eqV x7 x8)))], [], 400⟩ ?_
    refine if_ (b := !(eqV x7 x8)) (fun hb13 => ?_) (fun hb13 => ?_)
    ·replace hb13 := bnot_yes (hb13)
     refine sk ⟨[(4, bV false)], [], 416⟩ ?_
     refine X.ret ?_
     exact ⟨trivial, _, _, ⟨false, (by first | exact fls (fun h => by have := congrArg List.length h; omega) | exact fls (eq_no ‹_› ‹_› (eqV_no ‹_›)) | exact tru (eq_all hA (by omega) (by omega))), rfl, rfl⟩, mkr⟩
    ·replace hb13 := bnot_no (hb13)
     refine X.skip ?_
     refine X.rk ⟨[(0, lV (l.map d73)), (1, lV (m.map d73)), (5, iV (wrap64 (v5 + 1)))], [], 448⟩ hτ hmix (by kernel_rfl) (by kernel_rfl) (s2 := ⟨[(0, lV (l.map d73)), (1, lV (m.map d73)), (5, iV (v5 + 1))], [], 448⟩) (congrArg (fun z : Int => (⟨[(0, lV (l.map d73)), (1, lV (m.map d73)), (5, iV z)], [], 448⟩ : St)) (show wrap64 (v5 + 1) = (v5 + 1) by rw [w64 (n := (v5 + 1)) (by omega) (by omega)])) ?_
     refine ⟨⟨(v5 + 1), ⟨by first | omega | (dsimp only; omega), by first | omega | (dsimp only; omega), upto_nx (by first | omega | (dsimp only; omega)) hA ‹_› (eq_stp ‹_› (eqV_iff.1 ‹_›))⟩⟩, by first | exact rfl | omega | (dsimp only; omega) | (simp only [List.length_append, List.length_cons, List.length_nil, List.length_set]; omega) | (simp; done) | (simp; omega), Wk.mk' [] (by kernel_rfl) (by kernel_rfl) (by kernel_rfl)⟩
   ·replace hb6 := of_decide_eq_false (hb6)
    refine X.exit ?_
    refine sk ⟨[(4, bV true)], [], 256⟩ ?_
    refine X.ret ?_
    exact ⟨trivial, _, _, ⟨true, (by first | exact fls (fun h => by have := congrArg List.length h; omega) | exact fls (eq_no ‹_› ‹_› (eqV_no ‹_›)) | exact tru (eq_all hA (by omega) (by omega))), rfl, rfl⟩, mkr⟩
 obtain ⟨_, _, ⟨r0, h1_, rfl, rfl⟩, hf⟩ := key
 exact ⟨r0, h1_, hf⟩

theorem l_toVote (x : S107) (hs : Sm131 (toVote x)) : ∃ r0 : S131, (r0 = toVote x) ∧ Fn Tryz.prog 76 [.e (.agg (cD (d107 x)))] (lookH []) (.e (.agg [.d (.v (.int .i64 r0.f0)), .d (.v (.int .i64 r0.f1)), .d (.v (.string r0.f2))])) (lookH []) := by
 have key : ∃ x' h', ((fun x' h' => ∃ r0 : S131, (r0 = toVote x) ∧ x' = .e (.agg [.d (.v (.int .i64 r0.f0)), .d (.v (.int .i64 r0.f1)), .d (.v (.string r0.f2))]) ∧ h' = [])) x' h' ∧ Fn Tryz.prog 76 [.e (.agg (cD (d107 x)))] (lookH []) x' (lookH h') := by
  refine Fn.bodyX (N := 14) hτ Tryz.func76 rfl rfl rfl rfl ?_
  refine sk ⟨[(1, .pt 64 0 0), (2, .pt 80 0 0)], [(64, some (.box (cD (d107 x)))), (80, some (.box [.d (.v (.int .i64 0)), .d (.v (.int .i64 0)), .d (.v (.string (⟨#[]⟩ : ByteArray)))]))], 96⟩ ?_
  refine sk ⟨[(1, .pt 64 0 0), (2, .pt 80 0 0), (3, .pt 96 0 0)], [(64, some (.box (cD (d107 x)))), (80, some (.box [.d (.v (.int .i64 0)), .d (.v (.int .i64 0)), .d (.v (.string (⟨#[]⟩ : ByteArray)))])), (96, some (.box [.d (.v (.int .i64 0)), .d (.v (.int .i64 0)), .d (.v (.string (⟨#[]⟩ : ByteArray)))]))], 112⟩ ?_
  refine sk ⟨[(1, .pt 64 0 0), (2, .pt 80 0 0), (3, .pt 96 0 0)], [(64, some (.box (cD (d107 x)))), (80, some (.box [.d (.v (.int .i64 0)), .d (.v (.int .i64 0)), .d (.v (.string (⟨#[]⟩ : ByteArray)))])), (96, some (.box [.d (.v (.int .i64 x.f0)), .d (.v (.int .i64 0)), .d (.v (.string (⟨#[]⟩ : ByteArray)))]))], 176⟩ ?_
  refine sk ⟨[(1, .pt 64 0 0), (2, .pt 80 0 0), (3, .pt 96 0 0)], [(64, some (.box (cD (d107 x)))), (80, some (.box [.d (.v (.int .i64 0)), .d (.v (.int .i64 0)), .d (.v (.string (⟨#[]⟩ : ByteArray)))])), (96, some (.box [.d (.v (.int .i64 x.f0)), .d (.v (.int .i64 x.f1)), .d (.v (.string (⟨#[]⟩ : ByteArray)))]))], 240⟩ ?_
  refine sk ⟨[(2, .pt 80 0 0), (3, .pt 96 0 0)], [(80, some (.box [.d (.v (.int .i64 0)), .d (.v (.int .i64 0)), .d (.v (.string (⟨#[]⟩ : ByteArray)))])), (96, some (.box (cD (d107 x))))], 304⟩ ?_
  refine sk ⟨[(2, .pt 80 0 0)], [(80, some (.box (cD (d107 x))))], 336⟩ ?_
  refine X.ret ?_
  exact ⟨trivial, _, _, ⟨(⟨x.f0, x.f1, x.f2⟩ : S131), rfl, rfl, rfl⟩, mkr⟩
 obtain ⟨_, _, ⟨r0, h1_, rfl, rfl⟩, hf⟩ := key
 exact ⟨r0, h1_, hf⟩

theorem l_eqVote (a : S131) (b : S131) (ha : Sm131 a) (hb : Sm131 b) : ∃ r0 : Bool, (r0 = eqV a b) ∧ Fn Tryz.prog 95 [.e (.agg (cD (d131 a))), .e (.agg (cD (d131 b)))] (lookH []) (bV r0) (lookH []) := by
 have key : ∃ x' h', ((fun x' h' => ∃ r0 : Bool, (r0 = eqV a b) ∧ x' = bV r0 ∧ h' = [])) x' h' ∧ Fn Tryz.prog 95 [.e (.agg (cD (d131 a))), .e (.agg (cD (d131 b)))] (lookH []) x' (lookH h') := by
  refine Fn.bodyX (N := 20) hτ Tryz.func95 rfl rfl rfl rfl ?_
  refine sk ⟨[(2, .pt 64 0 0), (3, .pt 80 0 0)], [(64, some (.box (cD (d131 a)))), (80, some (.box (cD (d131 b))))], 112⟩ ?_
  refine X.seq ?_
  refine X.seq ?_
  have a2 : SmS a.f2 := ha
  have b2 : SmS b.f2 := hb
  refine rk ⟨[(2, .pt 64 0 0), (3, .pt 80 0 0), (9, bV (a.f0 != b.f0))], [(64, some (.box (cD (d131 a)))), (80, some (.box (cD (d131 b))))], 192⟩ ?_
  refine if_ (b := (a.f0 != b.f0)) (fun hb1 => ?_) (fun hb1 => ?_)
  ·replace hb1 := bne_iff_ne.1 (hb1)
   refine sk ⟨[(4, bV false)], [], 208⟩ ?_
   refine X.ret ?_
   exact ⟨trivial, _, _, ⟨false, (by first | exact fls (fun h => by subst h; first | exact absurd rfl ‹_› | exact tf (eqV_self _) ‹_› | exact tf (allEq_self _) ‹_›) | exact tru (by cases a; cases b; simp_all [eqV_iff, allEq_iff, tl_inj])), rfl, rfl⟩, mkr⟩
  ·replace hb1 := bne_eq_false_iff_eq.1 (hb1)
   refine X.skip ?_
   refine X.seq ?_
   refine sk ⟨[(2, .pt 64 0 0), (3, .pt 80 0 0), (14, bV (a.f1 != b.f1))], [(64, some (.box (cD (d131 a)))), (80, some (.box (cD (d131 b))))], 272⟩ ?_
   refine if_ (b := (a.f1 != b.f1)) (fun hb2 => ?_) (fun hb2 => ?_)
   ·replace hb2 := bne_iff_ne.1 (hb2)
    refine sk ⟨[(4, bV false)], [], 288⟩ ?_
    refine X.ret ?_
    exact ⟨trivial, _, _, ⟨false, (by first | exact fls (fun h => by subst h; first | exact absurd rfl ‹_› | exact tf (eqV_self _) ‹_› | exact tf (allEq_self _) ‹_›) | exact tru (by cases a; cases b; simp_all [eqV_iff, allEq_iff, tl_inj])), rfl, rfl⟩, mkr⟩
   ·replace hb2 := bne_eq_false_iff_eq.1 (hb2)
    refine X.skip ?_
    refine X.seq ?_
    refine sk ⟨[(19, bV (!(a.f2.toList == b.f2.toList)))], [], 352⟩ ?_
    refine if_ (b := !(a.f2.toList == b.f2.toList)) (fun hb3 => ?_) (fun hb3 => ?_)
    ·replace hb3 := beq_no (bnot_yes (hb3))
     refine sk ⟨[(4, bV false)], [], 368⟩ ?_
     refine X.ret ?_
     exact ⟨trivial, _, _, ⟨false, (by first | exact fls (fun h => by subst h; first | exact absurd rfl ‹_› | exact tf (eqV_self _) ‹_› | exact tf (allEq_self _) ‹_›) | exact tru (by cases a; cases b; simp_all [eqV_iff, allEq_iff, tl_inj])), rfl, rfl⟩, mkr⟩
    ·replace hb3 := beq_yes (bnot_no (hb3))
     refine X.skip ?_
     refine sk ⟨[(4, bV true)], [], 368⟩ ?_
     refine X.ret ?_
     exact ⟨trivial, _, _, ⟨true, (by first | exact fls (fun h => by subst h; first | exact absurd rfl ‹_› | exact tf (eqV_self _) ‹_› | exact tf (allEq_self _) ‹_›) | exact tru (by cases a; cases b; simp_all [eqV_iff, allEq_iff, tl_inj])), rfl, rfl⟩, mkr⟩
 obtain ⟨_, _, ⟨r0, h1_, rfl, rfl⟩, hf⟩ := key
 exact ⟨r0, h1_, hf⟩

theorem l_toVoteS (l : List S107) (hl : (l.map toVote).length ≤ 2000000 ∧ ∀ x, x ∈ (l.map toVote) → Sm131 x) : ∃ r0 : List S131, (r0 = l.map toVote) ∧ Fn Tryz.prog 32 [lV (l.map d107)] (lookH []) (.e (.c (.f (.sl (r0.map d131))))) (lookH []) := by
 have key : ∃ x' h', ((fun x' h' => ∃ r0 : List S131, (r0 = l.map toVote) ∧ x' = .e (.c (.f (.sl (r0.map d131)))) ∧ h' = [])) x' h' ∧ Fn Tryz.prog 32 [lV (l.map d107)] (lookH []) x' (lookH h') := by
  refine Fn.bodyX (N := 23) hτ Tryz.func32 rfl rfl rfl rfl ?_
  refine sk ⟨[(0, lV (l.map d107))], [], 80⟩ ?_
  refine X.seq ?_
  have hll : l.length ≤ 2000000 := by have := hl.1; simpa only [List.length_map] using this
  have el1 : (l.map d107).length = l.length := List.length_map ..
  refine rs 2 ?_
  refine CH.mks hτ (n := (l.map d107).length) (bys := 32) (by kernel_rfl) (by kernel_rfl) (by first | omega | (simp only [List.length_map]; omega) | (simp; omega)) (by first | omega | (simp only [List.length_map]; omega) | (simp; omega)) (by kernel_rfl) ?_
  refine go 1 ?_
  refine CH.endk ⟨[(0, lV (l.map d107)), (3, rV 112)], [(112, some (.row 3 131 (List.replicate ((l.map d107).length) (d131 z131)) false true))], 144⟩ (by kernel_rfl) (by kernel_rfl) (s2 := ⟨[(0, lV (l.map d107)), (3, rV 112)], [(112, some (.row 3 131 ((List.replicate ((l.map d107).length) z131).map d131) false true))], 144⟩) (congrArg (fun z : List (List D) => (⟨[(0, lV (l.map d107)), (3, rV 112)], [(112, some (.row 3 131 z false true))], 144⟩ : St)) (show List.replicate ((l.map d107).length) (d131 z131) = ((List.replicate ((l.map d107).length) z131).map d131) from List.map_replicate.symm)) ?_
  refine X.seq ?_
  refine sk ⟨[(0, lV (l.map d107)), (3, rV 112), (4, iV 0)], [(112, some (.row 3 131 ((List.replicate ((l.map d107).length) z131).map d131) false true))], 160⟩ ?_
  refine X.block ?_
  -- 3: Lv3 : List S131, v4 : Int
  refine X.loop (σ := { g : (List S131) × Int // (fun (Lv3 : List S131) (v4 : Int) => 0 ≤ v4 ∧ v4 ≤ l.length ∧ Lv3.length = l.length ∧ ∀ (j : Nat) (x : S107), (j : Int) < v4 → l[j]? = some x → Lv3[j]? = some (toVote x)) g.1 g.2 }) (fun g => (fun (Lv3 : List S131) (v4 : Int) => ⟨[(0, lV (l.map d107)), (3, rV 112), (4, iV v4)], [(112, some (.row 3 131 (Lv3.map d131) false true))], 160⟩) g.1.1 g.1.2) (fun g => (fun (Lv3 : List S131) (v4 : Int) => (l.length - v4).toNat) g.1.1 g.1.2) ⟨((List.replicate ((l.map d107).length) z131), 0), ⟨by first | omega | (dsimp only; omega), by first | omega | (dsimp only; omega), by simp, fun j x h => by first | omega | (dsimp only; omega)⟩⟩ (Wk.less (by kernel_rfl)) (fun g => ?_)
  obtain ⟨⟨Lv3, v4⟩, hg3⟩ := g
  have hg3 : 0 ≤ v4 ∧ v4 ≤ l.length ∧ Lv3.length = l.length ∧ ∀ (j : Nat) (x : S107), (j : Int) < v4 → l[j]? = some x → Lv3[j]? = some (toVote x) := hg3
  obtain ⟨_, _, hL, hA⟩ := hg3
  refine X.seq ?_
  refine sk ⟨[(0, lV (l.map d107)), (3, rV 112), (4, iV v4), (11, bV (decide ((v4 : Int) < ((l.map d107).length : Int))))], [(112, some (.row 3 131 (Lv3.map d131) false true))], 224⟩ ?_
  refine if_ (b := decide ((v4 : Int) < ((l.map d107).length : Int))) (fun hb4 => ?_) (fun hb4 => ?_)
  ·replace hb4 := of_decide_eq_true (hb4)
   refine X.skip ?_
   refine X.seq ?_
   refine X.block ?_
   refine rs 4 ?_
   obtain ⟨x5, hx5⟩ : ∃ x, l[Int.toNat v4]? = some x := ⟨_, List.getElem?_eq_getElem (by first | omega | (simp; done) | (simp; omega))⟩
   refine CH.idx hτ (d107 x5) (rows := (l.map d107)) (n := v4) (sz := 3) (by kernel_rfl) (by kernel_rfl) (by first | omega | (simp; done) | (simp; omega)) (by rw [List.getElem?_map, hx5]; rfl) (by kernel_rfl) ?_
   refine go 1 ?_
   obtain ⟨r6, hr8, hf7⟩ := l_toVote x5 (by exact hl.2 _ (List.mem_map.2 ⟨_, List.mem_of_getElem? ‹_›, rfl⟩))
   replace hr8 := hr8.symm; subst hr8
   refine ca hf7 Tryz.func76 ?_
   refine CH.idxR hτ (rows := (Lv3.map d131)) (n := v4) (b := 112) (by kernel_rfl) (by kernel_rfl) (by first | omega | (simp; done) | (simp; omega)) (by simp only [List.length_map, List.length_set]; first | omega | (simp; done) | (simp; omega)) (by kernel_rfl) ?_
   obtain ⟨x10, hx10⟩ : ∃ x, Lv3[Int.toNat v4]? = some x := ⟨_, List.getElem?_eq_getElem (by first | omega | (simp; done) | (simp; omega))⟩
   refine CH.row hτ (d131 x10) (by kernel_rfl) (by kernel_rfl) (by rw [List.getElem?_map, hx10]; rfl) (by kernel_rfl) ?_
   refine CH.endk ⟨[(0, lV (l.map d107)), (3, rV 112), (4, iV v4)], [(112, some (.row 3 131 ((Lv3.map d131).set (Int.toNat v4) (d131 ((toVote x5)))) false true))], 368⟩ (by kernel_rfl) (by kernel_rfl) (s2 := ⟨[(0, lV (l.map d107)), (3, rV 112), (4, iV v4)], [(112, some (.row 3 131 ((Lv3.set (Int.toNat v4) ((toVote x5))).map d131) false true))], 368⟩) (congrArg (fun z : List (List D) => (⟨[(0, lV (l.map d107)), (3, rV 112), (4, iV v4)], [(112, some (.row 3 131 z false true))], 368⟩ : St)) (show ((Lv3.map d131).set (Int.toNat v4) (d131 ((toVote x5)))) = ((Lv3.set (Int.toNat v4) ((toVote x5))).map d131) from List.map_set.symm)) ?_
   refine X.rk ⟨[(0, lV (l.map d107)), (3, rV 112), (4, iV (wrap64 (v4 + 1)))], [(112, some (.row 3 131 ((Lv3.set (Int.toNat v4) ((toVote x5))).map d131) false true))], 416⟩ hτ hmix (by kernel_rfl) (by kernel_rfl) (s2 := ⟨[(0, lV (l.map d107)), (3, rV 112), (4, iV (v4 + 1))], [(112, some (.row 3 131 ((Lv3.set (Int.toNat v4) ((toVote x5))).map d131) false true))], 416⟩) (congrArg (fun z : Int => (⟨[(0, lV (l.map d107)), (3, rV 112), (4, iV z)], [(112, some (.row 3 131 ((Lv3.set (Int.toNat v4) ((toVote x5))).map d131) false true))], 416⟩ : St)) (show wrap64 (v4 + 1) = (v4 + 1) by rw [w64 (n := (v4 + 1)) (by omega) (by omega)])) ?_
   refine ⟨⟨((Lv3.set (Int.toNat v4) ((toVote x5))), (v4 + 1)), ⟨by first | omega | (dsimp only; omega), by first | omega | (dsimp only; omega), by simp; omega, ts_next (f := toVote) hA (by first | omega | (dsimp only; omega)) (by first | omega | (dsimp only; omega)) ‹_›⟩⟩, by first | exact rfl | omega | (dsimp only; omega) | (simp only [List.length_append, List.length_cons, List.length_nil, List.length_set]; omega) | (simp; done) | (simp; omega), Wk.mk' [(112, 112)] (by kernel_rfl) (by kernel_rfl) (by kernel_rfl)⟩
  ·replace hb4 := of_decide_eq_false (hb4)
   refine X.exit ?_
   refine sk ⟨[(2, rV 112)], [(112, some (.row 3 131 (Lv3.map d131) false true))], 256⟩ ?_
   refine X.ret ?_
   exact ⟨trivial, _, _, ⟨Lv3, ts_end hA hL (by omega), rfl, rfl⟩, .inr ⟨⟨[(2, .e (.c (.f (.sl (Lv3.map d131)))))], [(112, some (.row 3 131 (Lv3.map d131) true true))], 256⟩, Wk.less (by kernel_rfl), Ret.mk' [] (by kernel_rfl) (by kernel_rfl) (by kernel_rfl)⟩⟩
 obtain ⟨_, _, ⟨r0, h1_, rfl, rfl⟩, hf⟩ := key
 exact ⟨r0, h1_, hf⟩

theorem l_eqVoteS (l : List S131) (m : List S131) (hl : (l.length ≤ 2000000 ∧ ∀ z, z ∈ l → Sm131 z)) (hm : (m.length ≤ 2000000 ∧ ∀ z, z ∈ m → Sm131 z)) : ∃ r0 : Bool, (r0 = allEq l m) ∧ Fn Tryz.prog 50 [lV (l.map d131), lV (m.map d131)] (lookH []) (bV r0) (lookH []) := by
 have key : ∃ x' h', ((fun x' h' => ∃ r0 : Bool, (r0 = allEq l m) ∧ x' = bV r0 ∧ h' = [])) x' h' ∧ Fn Tryz.prog 50 [lV (l.map d131), lV (m.map d131)] (lookH []) x' (lookH h') := by
  refine Fn.bodyX (N := 27) hτ Tryz.func50 rfl rfl rfl rfl ?_
  refine sk ⟨[(0, lV (l.map d131)), (1, lV (m.map d131))], [], 80⟩ ?_
  refine X.seq ?_
  refine X.seq ?_
  have hll : l.length ≤ 2000000 := hl.1
  have hml : m.length ≤ 2000000 := hm.1
  have el1 : (l.map d131).length = l.length := List.length_map ..
  have el2 : (m.map d131).length = m.length := List.length_map ..
  refine rk ⟨[(0, lV (l.map d131)), (1, lV (m.map d131)), (10, bV (((l.map d131).length : Int) != ((m.map d131).length : Int)))], [], 160⟩ ?_
  refine if_ (b := (((l.map d131).length : Int) != ((m.map d131).length : Int))) (fun hb3 => ?_) (fun hb3 => ?_)
  ·replace hb3 := bne_iff_ne.1 (hb3)
   refine sk ⟨[(4, bV false)], [], 176⟩ ?_
   refine X.ret ?_
   exact ⟨trivial, _, _, ⟨false, (by first | exact fls (fun h => by have := congrArg List.length h; omega) | exact fls (eq_no ‹_› ‹_› (eqV_no ‹_›)) | exact tru (eq_all hA (by omega) (by omega))), rfl, rfl⟩, mkr⟩
  ·replace hb3 := bne_eq_false_iff_eq.1 (hb3)
   refine X.skip ?_
   refine X.seq ?_
   refine sk ⟨[(0, lV (l.map d131)), (1, lV (m.map d131)), (5, iV 0)], [], 176⟩ ?_
   refine X.block ?_
   -- 4: v5 : Int
   refine X.loop (σ := { g : Int // (fun (v5 : Int) => 0 ≤ v5 ∧ v5 ≤ l.length ∧ Upto (fun j x => m[j.toNat]? = some x) (fun n => l[n]?) v5) g }) (fun g => (fun (v5 : Int) => ⟨[(0, lV (l.map d131)), (1, lV (m.map d131)), (5, iV v5)], [], 176⟩) g.1) (fun g => (fun (v5 : Int) => (l.length - v5).toNat) g.1) ⟨0, ⟨by first | omega | (dsimp only; omega), by first | omega | (dsimp only; omega), upto_zero⟩⟩ (Wk.less (by kernel_rfl)) (fun g => ?_)
   obtain ⟨v5, hg5⟩ := g
   have hg5 : 0 ≤ v5 ∧ v5 ≤ l.length ∧ Upto (fun j x => m[j.toNat]? = some x) (fun n => l[n]?) v5 := hg5
   obtain ⟨_, _, hA⟩ := hg5
   refine X.seq ?_
   refine sk ⟨[(0, lV (l.map d131)), (1, lV (m.map d131)), (5, iV v5), (14, bV (decide ((v5 : Int) < ((l.map d131).length : Int))))], [], 240⟩ ?_
   refine if_ (b := decide ((v5 : Int) < ((l.map d131).length : Int))) (fun hb6 => ?_) (fun hb6 => ?_)
   ·replace hb6 := of_decide_eq_true (hb6)
    refine X.skip ?_
    refine X.seq ?_
    refine X.block ?_
    refine X.seq (rs 2 ?_)
    obtain ⟨x7, hx7⟩ : ∃ x, l[Int.toNat v5]? = some x := ⟨_, List.getElem?_eq_getElem (by first | omega | (simp; done) | (simp; omega))⟩
    refine CH.idx hτ (d131 x7) (rows := (l.map d131)) (n := v5) (sz := 3) (by kernel_rfl) (by kernel_rfl) (by first | omega | (simp; done) | (simp; omega)) (by rw [List.getElem?_map, hx7]; rfl) (by kernel_rfl) ?_
    refine go 3 ?_
    obtain ⟨x8, hx8⟩ : ∃ x, m[Int.toNat v5]? = some x := ⟨_, List.getElem?_eq_getElem (by first | omega | (simp; done) | (simp; omega))⟩
    refine CH.idx hτ (d131 x8) (rows := (m.map d131)) (n := v5) (sz := 3) (by kernel_rfl) (by kernel_rfl) (by first | omega | (simp; done) | (simp; omega)) (by rw [List.getElem?_map, hx8]; rfl) (by kernel_rfl) ?_
    refine go 1 ?_
    obtain ⟨r9, hr11, hf10⟩ := l_eqVote x7 x8 (by exact all_at hl.2 ‹_›) (by exact all_at hm.2 ‹_›)
    replace hr11 := hr11.symm; subst hr11
    refine ca hf10 Tryz.func95 ?_
    refine go 1 ?_
    refine ek ⟨[(0, lV (l.map d131)), (1, lV (m.map d131)), (5, iV v5), (26, bV (!(eqV x7 x8)))], [], 400⟩ ?_
    refine if_ (b := !(eqV x7 x8)) (fun hb13 => ?_) (fun hb13 => ?_)
    ·replace hb13 := bnot_yes (hb13)
     refine sk ⟨[(4, bV false)], [], 416⟩ ?_
     refine X.ret ?_
     exact ⟨trivial, _, _, ⟨false, (by first | exact fls (fun h => by have := congrArg List.length h; omega) | exact fls (eq_no ‹_› ‹_› (eqV_no ‹_›)) | exact tru (eq_all hA (by omega) (by omega))), rfl, rfl⟩, mkr⟩
    ·replace hb13 := bnot_no (hb13)
     refine X.skip ?_
     refine X.rk ⟨[(0, lV (l.map d131)), (1, lV (m.map d131)), (5, iV (wrap64 (v5 + 1)))], [], 448⟩ hτ hmix (by kernel_rfl) (by kernel_rfl) (s2 := ⟨[(0, lV (l.map d131)), (1, lV (m.map d131)), (5, iV (v5 + 1))], [], 448⟩) (congrArg (fun z : Int => (⟨[(0, lV (l.map d131)), (1, lV (m.map d131)), (5, iV z)], [], 448⟩ : St)) (show wrap64 (v5 + 1) = (v5 + 1) by rw [w64 (n := (v5 + 1)) (by omega) (by omega)])) ?_
     refine ⟨⟨(v5 + 1), ⟨by first | omega | (dsimp only; omega), by first | omega | (dsimp only; omega), upto_nx (by first | omega | (dsimp only; omega)) hA ‹_› (eq_stp ‹_› (eqV_iff.1 ‹_›))⟩⟩, by first | exact rfl | omega | (dsimp only; omega) | (simp only [List.length_append, List.length_cons, List.length_nil, List.length_set]; omega) | (simp; done) | (simp; omega), Wk.mk' [] (by kernel_rfl) (by kernel_rfl) (by kernel_rfl)⟩
   ·replace hb6 := of_decide_eq_false (hb6)
    refine X.exit ?_
    refine sk ⟨[(4, bV true)], [], 256⟩ ?_
    refine X.ret ?_
    exact ⟨trivial, _, _, ⟨true, (by first | exact fls (fun h => by have := congrArg List.length h; omega) | exact fls (eq_no ‹_› ‹_› (eqV_no ‹_›)) | exact tru (eq_all hA (by omega) (by omega))), rfl, rfl⟩, mkr⟩
 obtain ⟨_, _, ⟨r0, h1_, rfl, rfl⟩, hf⟩ := key
 exact ⟨r0, h1_, hf⟩

theorem l_toGone (x : S110) (hs : Sm133 (toGone x)) : ∃ r0 : S133, (r0 = toGone x) ∧ Fn Tryz.prog 77 [.e (.agg (cD (d110 x)))] (lookH []) (.e (.agg [.d (.v (.int .i64 r0.f0)), .d (.v (.int .i64 r0.f1)), .d (.v (.string r0.f2))])) (lookH []) := by
 have key : ∃ x' h', ((fun x' h' => ∃ r0 : S133, (r0 = toGone x) ∧ x' = .e (.agg [.d (.v (.int .i64 r0.f0)), .d (.v (.int .i64 r0.f1)), .d (.v (.string r0.f2))]) ∧ h' = [])) x' h' ∧ Fn Tryz.prog 77 [.e (.agg (cD (d110 x)))] (lookH []) x' (lookH h') := by
  refine Fn.bodyX (N := 14) hτ Tryz.func77 rfl rfl rfl rfl ?_
  refine sk ⟨[(1, .pt 64 0 0), (2, .pt 80 0 0)], [(64, some (.box (cD (d110 x)))), (80, some (.box [.d (.v (.int .i64 0)), .d (.v (.int .i64 0)), .d (.v (.string (⟨#[]⟩ : ByteArray)))]))], 96⟩ ?_
  refine sk ⟨[(1, .pt 64 0 0), (2, .pt 80 0 0), (3, .pt 96 0 0)], [(64, some (.box (cD (d110 x)))), (80, some (.box [.d (.v (.int .i64 0)), .d (.v (.int .i64 0)), .d (.v (.string (⟨#[]⟩ : ByteArray)))])), (96, some (.box [.d (.v (.int .i64 0)), .d (.v (.int .i64 0)), .d (.v (.string (⟨#[]⟩ : ByteArray)))]))], 112⟩ ?_
  refine sk ⟨[(1, .pt 64 0 0), (2, .pt 80 0 0), (3, .pt 96 0 0)], [(64, some (.box (cD (d110 x)))), (80, some (.box [.d (.v (.int .i64 0)), .d (.v (.int .i64 0)), .d (.v (.string (⟨#[]⟩ : ByteArray)))])), (96, some (.box [.d (.v (.int .i64 x.f0)), .d (.v (.int .i64 0)), .d (.v (.string (⟨#[]⟩ : ByteArray)))]))], 176⟩ ?_
  refine sk ⟨[(1, .pt 64 0 0), (2, .pt 80 0 0), (3, .pt 96 0 0)], [(64, some (.box (cD (d110 x)))), (80, some (.box [.d (.v (.int .i64 0)), .d (.v (.int .i64 0)), .d (.v (.string (⟨#[]⟩ : ByteArray)))])), (96, some (.box [.d (.v (.int .i64 x.f0)), .d (.v (.int .i64 x.f1)), .d (.v (.string (⟨#[]⟩ : ByteArray)))]))], 240⟩ ?_
  refine sk ⟨[(2, .pt 80 0 0), (3, .pt 96 0 0)], [(80, some (.box [.d (.v (.int .i64 0)), .d (.v (.int .i64 0)), .d (.v (.string (⟨#[]⟩ : ByteArray)))])), (96, some (.box (cD (d110 x))))], 304⟩ ?_
  refine sk ⟨[(2, .pt 80 0 0)], [(80, some (.box (cD (d110 x))))], 336⟩ ?_
  refine X.ret ?_
  exact ⟨trivial, _, _, ⟨(⟨x.f0, x.f1, x.f2⟩ : S133), rfl, rfl, rfl⟩, mkr⟩
 obtain ⟨_, _, ⟨r0, h1_, rfl, rfl⟩, hf⟩ := key
 exact ⟨r0, h1_, hf⟩

theorem l_eqGone (a : S133) (b : S133) (ha : Sm133 a) (hb : Sm133 b) : ∃ r0 : Bool, (r0 = eqV a b) ∧ Fn Tryz.prog 96 [.e (.agg (cD (d133 a))), .e (.agg (cD (d133 b)))] (lookH []) (bV r0) (lookH []) := by
 have key : ∃ x' h', ((fun x' h' => ∃ r0 : Bool, (r0 = eqV a b) ∧ x' = bV r0 ∧ h' = [])) x' h' ∧ Fn Tryz.prog 96 [.e (.agg (cD (d133 a))), .e (.agg (cD (d133 b)))] (lookH []) x' (lookH h') := by
  refine Fn.bodyX (N := 20) hτ Tryz.func96 rfl rfl rfl rfl ?_
  refine sk ⟨[(2, .pt 64 0 0), (3, .pt 80 0 0)], [(64, some (.box (cD (d133 a)))), (80, some (.box (cD (d133 b))))], 112⟩ ?_
  refine X.seq ?_
  refine X.seq ?_
  have a2 : SmS a.f2 := ha
  have b2 : SmS b.f2 := hb
  refine rk ⟨[(2, .pt 64 0 0), (3, .pt 80 0 0), (9, bV (a.f0 != b.f0))], [(64, some (.box (cD (d133 a)))), (80, some (.box (cD (d133 b))))], 192⟩ ?_
  refine if_ (b := (a.f0 != b.f0)) (fun hb1 => ?_) (fun hb1 => ?_)
  ·replace hb1 := bne_iff_ne.1 (hb1)
   refine sk ⟨[(4, bV false)], [], 208⟩ ?_
   refine X.ret ?_
   exact ⟨trivial, _, _, ⟨false, (by first | exact fls (fun h => by subst h; first | exact absurd rfl ‹_› | exact tf (eqV_self _) ‹_› | exact tf (allEq_self _) ‹_›) | exact tru (by cases a; cases b; simp_all [eqV_iff, allEq_iff, tl_inj])), rfl, rfl⟩, mkr⟩
  ·replace hb1 := bne_eq_false_iff_eq.1 (hb1)
   refine X.skip ?_
   refine X.seq ?_
   refine sk ⟨[(2, .pt 64 0 0), (3, .pt 80 0 0), (14, bV (a.f1 != b.f1))], [(64, some (.box (cD (d133 a)))), (80, some (.box (cD (d133 b))))], 272⟩ ?_
   refine if_ (b := (a.f1 != b.f1)) (fun hb2 => ?_) (fun hb2 => ?_)
   ·replace hb2 := bne_iff_ne.1 (hb2)
    refine sk ⟨[(4, bV false)], [], 288⟩ ?_
    refine X.ret ?_
    exact ⟨trivial, _, _, ⟨false, (by first | exact fls (fun h => by subst h; first | exact absurd rfl ‹_› | exact tf (eqV_self _) ‹_› | exact tf (allEq_self _) ‹_›) | exact tru (by cases a; cases b; simp_all [eqV_iff, allEq_iff, tl_inj])), rfl, rfl⟩, mkr⟩
   ·replace hb2 := bne_eq_false_iff_eq.1 (hb2)
    refine X.skip ?_
    refine X.seq ?_
    refine sk ⟨[(19, bV (!(a.f2.toList == b.f2.toList)))], [], 352⟩ ?_
    refine if_ (b := !(a.f2.toList == b.f2.toList)) (fun hb3 => ?_) (fun hb3 => ?_)
    ·replace hb3 := beq_no (bnot_yes (hb3))
     refine sk ⟨[(4, bV false)], [], 368⟩ ?_
     refine X.ret ?_
     exact ⟨trivial, _, _, ⟨false, (by first | exact fls (fun h => by subst h; first | exact absurd rfl ‹_› | exact tf (eqV_self _) ‹_› | exact tf (allEq_self _) ‹_›) | exact tru (by cases a; cases b; simp_all [eqV_iff, allEq_iff, tl_inj])), rfl, rfl⟩, mkr⟩
    ·replace hb3 := beq_yes (bnot_no (hb3))
     refine X.skip ?_
     refine sk ⟨[(4, bV true)], [], 368⟩ ?_
     refine X.ret ?_
     exact ⟨trivial, _, _, ⟨true, (by first | exact fls (fun h => by subst h; first | exact absurd rfl ‹_› | exact tf (eqV_self _) ‹_› | exact tf (allEq_self _) ‹_›) | exact tru (by cases a; cases b; simp_all [eqV_iff, allEq_iff, tl_inj])), rfl, rfl⟩, mkr⟩
 obtain ⟨_, _, ⟨r0, h1_, rfl, rfl⟩, hf⟩ := key
 exact ⟨r0, h1_, hf⟩

theorem l_toGoneS (l : List S110) (hl : (l.map toGone).length ≤ 2000000 ∧ ∀ x, x ∈ (l.map toGone) → Sm133 x) : ∃ r0 : List S133, (r0 = l.map toGone) ∧ Fn Tryz.prog 33 [lV (l.map d110)] (lookH []) (.e (.c (.f (.sl (r0.map d133))))) (lookH []) := by
 have key : ∃ x' h', ((fun x' h' => ∃ r0 : List S133, (r0 = l.map toGone) ∧ x' = .e (.c (.f (.sl (r0.map d133)))) ∧ h' = [])) x' h' ∧ Fn Tryz.prog 33 [lV (l.map d110)] (lookH []) x' (lookH h') := by
  refine Fn.bodyX (N := 23) hτ Tryz.func33 rfl rfl rfl rfl ?_
  refine sk ⟨[(0, lV (l.map d110))], [], 80⟩ ?_
  refine X.seq ?_
  have hll : l.length ≤ 2000000 := by have := hl.1; simpa only [List.length_map] using this
  have el1 : (l.map d110).length = l.length := List.length_map ..
  refine rs 2 ?_
  refine CH.mks hτ (n := (l.map d110).length) (bys := 32) (by kernel_rfl) (by kernel_rfl) (by first | omega | (simp only [List.length_map]; omega) | (simp; omega)) (by first | omega | (simp only [List.length_map]; omega) | (simp; omega)) (by kernel_rfl) ?_
  refine go 1 ?_
  refine CH.endk ⟨[(0, lV (l.map d110)), (3, rV 112)], [(112, some (.row 3 133 (List.replicate ((l.map d110).length) (d133 z133)) false true))], 144⟩ (by kernel_rfl) (by kernel_rfl) (s2 := ⟨[(0, lV (l.map d110)), (3, rV 112)], [(112, some (.row 3 133 ((List.replicate ((l.map d110).length) z133).map d133) false true))], 144⟩) (congrArg (fun z : List (List D) => (⟨[(0, lV (l.map d110)), (3, rV 112)], [(112, some (.row 3 133 z false true))], 144⟩ : St)) (show List.replicate ((l.map d110).length) (d133 z133) = ((List.replicate ((l.map d110).length) z133).map d133) from List.map_replicate.symm)) ?_
  refine X.seq ?_
  refine sk ⟨[(0, lV (l.map d110)), (3, rV 112), (4, iV 0)], [(112, some (.row 3 133 ((List.replicate ((l.map d110).length) z133).map d133) false true))], 160⟩ ?_
  refine X.block ?_
  -- 3: Lv3 : List S133, v4 : Int
  refine X.loop (σ := { g : (List S133) × Int // (fun (Lv3 : List S133) (v4 : Int) => 0 ≤ v4 ∧ v4 ≤ l.length ∧ Lv3.length = l.length ∧ ∀ (j : Nat) (x : S110), (j : Int) < v4 → l[j]? = some x → Lv3[j]? = some (toGone x)) g.1 g.2 }) (fun g => (fun (Lv3 : List S133) (v4 : Int) => ⟨[(0, lV (l.map d110)), (3, rV 112), (4, iV v4)], [(112, some (.row 3 133 (Lv3.map d133) false true))], 160⟩) g.1.1 g.1.2) (fun g => (fun (Lv3 : List S133) (v4 : Int) => (l.length - v4).toNat) g.1.1 g.1.2) ⟨((List.replicate ((l.map d110).length) z133), 0), ⟨by first | omega | (dsimp only; omega), by first | omega | (dsimp only; omega), by simp, fun j x h => by first | omega | (dsimp only; omega)⟩⟩ (Wk.less (by kernel_rfl)) (fun g => ?_)
  obtain ⟨⟨Lv3, v4⟩, hg3⟩ := g
  have hg3 : 0 ≤ v4 ∧ v4 ≤ l.length ∧ Lv3.length = l.length ∧ ∀ (j : Nat) (x : S110), (j : Int) < v4 → l[j]? = some x → Lv3[j]? = some (toGone x) := hg3
  obtain ⟨_, _, hL, hA⟩ := hg3
  refine X.seq ?_
  refine sk ⟨[(0, lV (l.map d110)), (3, rV 112), (4, iV v4), (11, bV (decide ((v4 : Int) < ((l.map d110).length : Int))))], [(112, some (.row 3 133 (Lv3.map d133) false true))], 224⟩ ?_
  refine if_ (b := decide ((v4 : Int) < ((l.map d110).length : Int))) (fun hb4 => ?_) (fun hb4 => ?_)
  ·replace hb4 := of_decide_eq_true (hb4)
   refine X.skip ?_
   refine X.seq ?_
   refine X.block ?_
   refine rs 4 ?_
   obtain ⟨x5, hx5⟩ : ∃ x, l[Int.toNat v4]? = some x := ⟨_, List.getElem?_eq_getElem (by first | omega | (simp; done) | (simp; omega))⟩
   refine CH.idx hτ (d110 x5) (rows := (l.map d110)) (n := v4) (sz := 3) (by kernel_rfl) (by kernel_rfl) (by first | omega | (simp; done) | (simp; omega)) (by rw [List.getElem?_map, hx5]; rfl) (by kernel_rfl) ?_
   refine go 1 ?_
   obtain ⟨r6, hr8, hf7⟩ := l_toGone x5 (by exact hl.2 _ (List.mem_map.2 ⟨_, List.mem_of_getElem? ‹_›, rfl⟩))
   replace hr8 := hr8.symm; subst hr8
   refine ca hf7 Tryz.func77 ?_
   refine CH.idxR hτ (rows := (Lv3.map d133)) (n := v4) (b := 112) (by kernel_rfl) (by kernel_rfl) (by first | omega | (simp; done) | (simp; omega)) (by simp only [List.length_map, List.length_set]; first | omega | (simp; done) | (simp; omega)) (by kernel_rfl) ?_
   obtain ⟨x10, hx10⟩ : ∃ x, Lv3[Int.toNat v4]? = some x := ⟨_, List.getElem?_eq_getElem (by first | omega | (simp; done) | (simp; omega))⟩
   refine CH.row hτ (d133 x10) (by kernel_rfl) (by kernel_rfl) (by rw [List.getElem?_map, hx10]; rfl) (by kernel_rfl) ?_
   refine CH.endk ⟨[(0, lV (l.map d110)), (3, rV 112), (4, iV v4)], [(112, some (.row 3 133 ((Lv3.map d133).set (Int.toNat v4) (d133 ((toGone x5)))) false true))], 368⟩ (by kernel_rfl) (by kernel_rfl) (s2 := ⟨[(0, lV (l.map d110)), (3, rV 112), (4, iV v4)], [(112, some (.row 3 133 ((Lv3.set (Int.toNat v4) ((toGone x5))).map d133) false true))], 368⟩) (congrArg (fun z : List (List D) => (⟨[(0, lV (l.map d110)), (3, rV 112), (4, iV v4)], [(112, some (.row 3 133 z false true))], 368⟩ : St)) (show ((Lv3.map d133).set (Int.toNat v4) (d133 ((toGone x5)))) = ((Lv3.set (Int.toNat v4) ((toGone x5))).map d133) from List.map_set.symm)) ?_
   refine X.rk ⟨[(0, lV (l.map d110)), (3, rV 112), (4, iV (wrap64 (v4 + 1)))], [(112, some (.row 3 133 ((Lv3.set (Int.toNat v4) ((toGone x5))).map d133) false true))], 416⟩ hτ hmix (by kernel_rfl) (by kernel_rfl) (s2 := ⟨[(0, lV (l.map d110)), (3, rV 112), (4, iV (v4 + 1))], [(112, some (.row 3 133 ((Lv3.set (Int.toNat v4) ((toGone x5))).map d133) false true))], 416⟩) (congrArg (fun z : Int => (⟨[(0, lV (l.map d110)), (3, rV 112), (4, iV z)], [(112, some (.row 3 133 ((Lv3.set (Int.toNat v4) ((toGone x5))).map d133) false true))], 416⟩ : St)) (show wrap64 (v4 + 1) = (v4 + 1) by rw [w64 (n := (v4 + 1)) (by omega) (by omega)])) ?_
   refine ⟨⟨((Lv3.set (Int.toNat v4) ((toGone x5))), (v4 + 1)), ⟨by first | omega | (dsimp only; omega), by first | omega | (dsimp only; omega), by simp; omega, ts_next (f := toGone) hA (by first | omega | (dsimp only; omega)) (by first | omega | (dsimp only; omega)) ‹_›⟩⟩, by first | exact rfl | omega | (dsimp only; omega) | (simp only [List.length_append, List.length_cons, List.length_nil, List.length_set]; omega) | (simp; done) | (simp; omega), Wk.mk' [(112, 112)] (by kernel_rfl) (by kernel_rfl) (by kernel_rfl)⟩
  ·replace hb4 := of_decide_eq_false (hb4)
   refine X.exit ?_
   refine sk ⟨[(2, rV 112)], [(112, some (.row 3 133 (Lv3.map d133) false true))], 256⟩ ?_
   refine X.ret ?_
   exact ⟨trivial, _, _, ⟨Lv3, ts_end hA hL (by omega), rfl, rfl⟩, .inr ⟨⟨[(2, .e (.c (.f (.sl (Lv3.map d133)))))], [(112, some (.row 3 133 (Lv3.map d133) true true))], 256⟩, Wk.less (by kernel_rfl), Ret.mk' [] (by kernel_rfl) (by kernel_rfl) (by kernel_rfl)⟩⟩
 obtain ⟨_, _, ⟨r0, h1_, rfl, rfl⟩, hf⟩ := key
 exact ⟨r0, h1_, hf⟩

theorem l_eqGoneS (l : List S133) (m : List S133) (hl : (l.length ≤ 2000000 ∧ ∀ z, z ∈ l → Sm133 z)) (hm : (m.length ≤ 2000000 ∧ ∀ z, z ∈ m → Sm133 z)) : ∃ r0 : Bool, (r0 = allEq l m) ∧ Fn Tryz.prog 51 [lV (l.map d133), lV (m.map d133)] (lookH []) (bV r0) (lookH []) := by
 have key : ∃ x' h', ((fun x' h' => ∃ r0 : Bool, (r0 = allEq l m) ∧ x' = bV r0 ∧ h' = [])) x' h' ∧ Fn Tryz.prog 51 [lV (l.map d133), lV (m.map d133)] (lookH []) x' (lookH h') := by
  refine Fn.bodyX (N := 27) hτ Tryz.func51 rfl rfl rfl rfl ?_
  refine sk ⟨[(0, lV (l.map d133)), (1, lV (m.map d133))], [], 80⟩ ?_
  refine X.seq ?_
  refine X.seq ?_
  have hll : l.length ≤ 2000000 := hl.1
  have hml : m.length ≤ 2000000 := hm.1
  have el1 : (l.map d133).length = l.length := List.length_map ..
  have el2 : (m.map d133).length = m.length := List.length_map ..
  refine rk ⟨[(0, lV (l.map d133)), (1, lV (m.map d133)), (10, bV (((l.map d133).length : Int) != ((m.map d133).length : Int)))], [], 160⟩ ?_
  refine if_ (b := (((l.map d133).length : Int) != ((m.map d133).length : Int))) (fun hb3 => ?_) (fun hb3 => ?_)
  ·replace hb3 := bne_iff_ne.1 (hb3)
   refine sk ⟨[(4, bV false)], [], 176⟩ ?_
   refine X.ret ?_
   exact ⟨trivial, _, _, ⟨false, (by first | exact fls (fun h => by have := congrArg List.length h; omega) | exact fls (eq_no ‹_› ‹_› (eqV_no ‹_›)) | exact tru (eq_all hA (by omega) (by omega))), rfl, rfl⟩, mkr⟩
  ·replace hb3 := bne_eq_false_iff_eq.1 (hb3)
   refine X.skip ?_
   refine X.seq ?_
   refine sk ⟨[(0, lV (l.map d133)), (1, lV (m.map d133)), (5, iV 0)], [], 176⟩ ?_
   refine X.block ?_
   -- 4: v5 : Int
   refine X.loop (σ := { g : Int // (fun (v5 : Int) => 0 ≤ v5 ∧ v5 ≤ l.length ∧ Upto (fun j x => m[j.toNat]? = some x) (fun n => l[n]?) v5) g }) (fun g => (fun (v5 : Int) => ⟨[(0, lV (l.map d133)), (1, lV (m.map d133)), (5, iV v5)], [], 176⟩) g.1) (fun g => (fun (v5 : Int) => (l.length - v5).toNat) g.1) ⟨0, ⟨by first | omega | (dsimp only; omega), by first | omega | (dsimp only; omega), upto_zero⟩⟩ (Wk.less (by kernel_rfl)) (fun g => ?_)
   obtain ⟨v5, hg5⟩ := g
   have hg5 : 0 ≤ v5 ∧ v5 ≤ l.length ∧ Upto (fun j x => m[j.toNat]? = some x) (fun n => l[n]?) v5 := hg5
   obtain ⟨_, _, hA⟩ := hg5
   refine X.seq ?_
   refine sk ⟨[(0, lV (l.map d133)), (1, lV (m.map d133)), (5, iV v5), (14, bV (decide ((v5 : Int) < ((l.map d133).length : Int))))], [], 240⟩ ?_
   refine if_ (b := decide ((v5 : Int) < ((l.map d133).length : Int))) (fun hb6 => ?_) (fun hb6 => ?_)
   ·replace hb6 := of_decide_eq_true (hb6)
    refine X.skip ?_
    refine X.seq ?_
    refine X.block ?_
    refine X.seq (rs 2 ?_)
    obtain ⟨x7, hx7⟩ : ∃ x, l[Int.toNat v5]? = some x := ⟨_, List.getElem?_eq_getElem (by first | omega | (simp; done) | (simp; omega))⟩
    refine CH.idx hτ (d133 x7) (rows := (l.map d133)) (n := v5) (sz := 3) (by kernel_rfl) (by kernel_rfl) (by first | omega | (simp; done) | (simp; omega)) (by rw [List.getElem?_map, hx7]; rfl) (by kernel_rfl) ?_
    refine go 3 ?_
    obtain ⟨x8, hx8⟩ : ∃ x, m[Int.toNat v5]? = some x := ⟨_, List.getElem?_eq_getElem (by first | omega | (simp; done) | (simp; omega))⟩
    refine CH.idx hτ (d133 x8) (rows := (m.map d133)) (n := v5) (sz := 3) (by kernel_rfl) (by kernel_rfl) (by first | omega | (simp; done) | (simp; omega)) (by rw [List.getElem?_map, hx8]; rfl) (by kernel_rfl) ?_
    refine go 1 ?_
    obtain ⟨r9, hr11, hf10⟩ := l_eqGone x7 x8 (by exact all_at hl.2 ‹_›) (by exact all_at hm.2 ‹_›)
    replace hr11 := hr11.symm; subst hr11
    refine ca hf10 Tryz.func96 ?_
    refine go 1 ?_
    refine ek ⟨[(0, lV (l.map d133)), (1, lV (m.map d133)), (5, iV v5), (26, bV (!(eqV x7 x8)))], [], 400⟩ ?_
    refine if_ (b := !(eqV x7 x8)) (fun hb13 => ?_) (fun hb13 => ?_)
    ·replace hb13 := bnot_yes (hb13)
     refine sk ⟨[(4, bV false)], [], 416⟩ ?_
     refine X.ret ?_
     exact ⟨trivial, _, _, ⟨false, (by first | exact fls (fun h => by have := congrArg List.length h; omega) | exact fls (eq_no ‹_› ‹_› (eqV_no ‹_›)) | exact tru (eq_all hA (by omega) (by omega))), rfl, rfl⟩, mkr⟩
    ·replace hb13 := bnot_no (hb13)
     refine X.skip ?_
     refine X.rk ⟨[(0, lV (l.map d133)), (1, lV (m.map d133)), (5, iV (wrap64 (v5 + 1)))], [], 448⟩ hτ hmix (by kernel_rfl) (by kernel_rfl) (s2 := ⟨[(0, lV (l.map d133)), (1, lV (m.map d133)), (5, iV (v5 + 1))], [], 448⟩) (congrArg (fun z : Int => (⟨[(0, lV (l.map d133)), (1, lV (m.map d133)), (5, iV z)], [], 448⟩ : St)) (show wrap64 (v5 + 1) = (v5 + 1) by rw [w64 (n := (v5 + 1)) (by omega) (by omega)])) ?_
     refine ⟨⟨(v5 + 1), ⟨by first | omega | (dsimp only; omega), by first | omega | (dsimp only; omega), upto_nx (by first | omega | (dsimp only; omega)) hA ‹_› (eq_stp ‹_› (eqV_iff.1 ‹_›))⟩⟩, by first | exact rfl | omega | (dsimp only; omega) | (simp only [List.length_append, List.length_cons, List.length_nil, List.length_set]; omega) | (simp; done) | (simp; omega), Wk.mk' [] (by kernel_rfl) (by kernel_rfl) (by kernel_rfl)⟩
   ·replace hb6 := of_decide_eq_false (hb6)
    refine X.exit ?_
    refine sk ⟨[(4, bV true)], [], 256⟩ ?_
    refine X.ret ?_
    exact ⟨trivial, _, _, ⟨true, (by first | exact fls (fun h => by have := congrArg List.length h; omega) | exact fls (eq_no ‹_› ‹_› (eqV_no ‹_›)) | exact tru (eq_all hA (by omega) (by omega))), rfl, rfl⟩, mkr⟩
 obtain ⟨_, _, ⟨r0, h1_, rfl, rfl⟩, hf⟩ := key
 exact ⟨r0, h1_, hf⟩

theorem l_toProof (x : S116) (hs : Sm137 (toProof x)) : ∃ r0 : S137, (r0 = toProof x) ∧ Fn Tryz.prog 79 [.e (.agg (cD (d116 x)))] (lookH []) (.e (.agg [.d (.v (.int .i64 r0.f0)), .f (.sl (r0.f1.map d73)), .d (.v (.int .i64 r0.f2.f0)), .d (.v (.int .i64 r0.f2.f1)), .f (.sl (r0.f2.f2.map dS))])) (lookH []) := by
 have key : ∃ x' h', ((fun x' h' => ∃ r0 : S137, (r0 = toProof x) ∧ x' = .e (.agg [.d (.v (.int .i64 r0.f0)), .f (.sl (r0.f1.map d73)), .d (.v (.int .i64 r0.f2.f0)), .d (.v (.int .i64 r0.f2.f1)), .f (.sl (r0.f2.f2.map dS))]) ∧ h' = [])) x' h' ∧ Fn Tryz.prog 79 [.e (.agg (cD (d116 x)))] (lookH []) x' (lookH h') := by
  refine Fn.bodyX (N := 16) hτ Tryz.func79 rfl rfl rfl rfl ?_
  refine sk ⟨[(1, .pt 64 0 0), (2, .pt 80 0 0)], [(64, some (.box (cD (d116 x)))), (80, some (.box [.d (.v (.int .i64 0)), .nil, .d (.v (.int .i64 0)), .d (.v (.int .i64 0)), .nil]))], 96⟩ ?_
  refine X.seq ?_
  have hq1 : SmL (x.f1.map toBlock) := hs.1
  have hq2 : Sm46 (toQc x.f2) := hs.2
  refine rk ⟨[(1, .pt 64 0 0), (2, .pt 80 0 0), (3, .pt 96 0 0)], [(64, some (.box (cD (d116 x)))), (80, some (.box [.d (.v (.int .i64 0)), .nil, .d (.v (.int .i64 0)), .d (.v (.int .i64 0)), .nil])), (96, some (.box [.d (.v (.int .i64 0)), .nil, .d (.v (.int .i64 0)), .d (.v (.int .i64 0)), .nil]))], 112⟩ ?_
  refine sk ⟨[(1, .pt 64 0 0), (2, .pt 80 0 0), (3, .pt 96 0 0)], [(64, some (.box (cD (d116 x)))), (80, some (.box [.d (.v (.int .i64 0)), .nil, .d (.v (.int .i64 0)), .d (.v (.int .i64 0)), .nil])), (96, some (.box [.d (.v (.int .i64 x.f0)), .nil, .d (.v (.int .i64 0)), .d (.v (.int .i64 0)), .nil]))], 176⟩ ?_
  refine X.seq (rs 2 ?_)
  obtain ⟨r1, hr3, hf2⟩ := l_toBlockS x.f1 (by assumption)
  replace hr3 := hr3.symm; subst hr3
  have hlm : (x.f1.map toBlock).length = x.f1.length := List.length_map ..
  refine ca hf2 Tryz.func29 ?_
  refine go 2 ?_
  refine ek ⟨[(1, .pt 64 0 0), (2, .pt 80 0 0), (3, .pt 96 0 0)], [(64, some (.box (cD (d116 x)))), (80, some (.box [.d (.v (.int .i64 0)), .nil, .d (.v (.int .i64 0)), .d (.v (.int .i64 0)), .nil])), (96, some (.box [.d (.v (.int .i64 x.f0)), .f (.sl ((x.f1.map toBlock).map d73)), .d (.v (.int .i64 0)), .d (.v (.int .i64 0)), .nil]))], 256⟩ ?_
  refine X.seq (rs 2 ?_)
  obtain ⟨r5, hr7, hf6⟩ := l_toQc x.f2 (by assumption)
  replace hr7 := hr7.symm; subst hr7
  refine ca hf6 Tryz.func30 ?_
  refine go 2 ?_
  refine ek ⟨[(2, .pt 80 0 0), (3, .pt 96 0 0)], [(80, some (.box [.d (.v (.int .i64 0)), .nil, .d (.v (.int .i64 0)), .d (.v (.int .i64 0)), .nil])), (96, some (.box [.d (.v (.int .i64 x.f0)), .f (.sl ((x.f1.map toBlock).map d73)), .d (.v (.int .i64 (((toQc x.f2)).f0))), .d (.v (.int .i64 (((toQc x.f2)).f1))), .f (.sl ((((toQc x.f2)).f2).map dS))]))], 336⟩ ?_
  refine sk ⟨[(2, .pt 80 0 0)], [(80, some (.box [.d (.v (.int .i64 x.f0)), .f (.sl ((x.f1.map toBlock).map d73)), .d (.v (.int .i64 (((toQc x.f2)).f0))), .d (.v (.int .i64 (((toQc x.f2)).f1))), .f (.sl ((((toQc x.f2)).f2).map dS))]))], 368⟩ ?_
  refine X.ret ?_
  exact ⟨trivial, _, _, ⟨(⟨x.f0, (x.f1.map toBlock), ((toQc x.f2))⟩ : S137), rfl, rfl, rfl⟩, mkr⟩
 obtain ⟨_, _, ⟨r0, h1_, rfl, rfl⟩, hf⟩ := key
 exact ⟨r0, h1_, hf⟩

theorem l_eqProof (a : S137) (b : S137) (ha : Sm137 a) (hb : Sm137 b) : ∃ r0 : Bool, (r0 = eqV a b) ∧ Fn Tryz.prog 98 [.e (.agg (cD (d137 a))), .e (.agg (cD (d137 b)))] (lookH []) (bV r0) (lookH []) := by
 have key : ∃ x' h', ((fun x' h' => ∃ r0 : Bool, (r0 = eqV a b) ∧ x' = bV r0 ∧ h' = [])) x' h' ∧ Fn Tryz.prog 98 [.e (.agg (cD (d137 a))), .e (.agg (cD (d137 b)))] (lookH []) x' (lookH h') := by
  refine Fn.bodyX (N := 22) hτ Tryz.func98 rfl rfl rfl rfl ?_
  refine sk ⟨[(2, .pt 64 0 0), (3, .pt 80 0 0)], [(64, some (.box (cD (d137 a)))), (80, some (.box (cD (d137 b))))], 112⟩ ?_
  refine X.seq ?_
  refine X.seq ?_
  have a1 : SmL a.f1 := ha.1
  have b1 : SmL b.f1 := hb.1
  have a2 : Sm46 a.f2 := ha.2
  have b2 : Sm46 b.f2 := hb.2
  refine rk ⟨[(2, .pt 64 0 0), (3, .pt 80 0 0), (9, bV (a.f0 != b.f0))], [(64, some (.box (cD (d137 a)))), (80, some (.box (cD (d137 b))))], 192⟩ ?_
  refine if_ (b := (a.f0 != b.f0)) (fun hb1 => ?_) (fun hb1 => ?_)
  ·replace hb1 := bne_iff_ne.1 (hb1)
   refine sk ⟨[(4, bV false)], [], 208⟩ ?_
   refine X.ret ?_
   exact ⟨trivial, _, _, ⟨false, (by first | exact fls (fun h => by subst h; first | exact absurd rfl ‹_› | exact tf (eqV_self _) ‹_› | exact tf (allEq_self _) ‹_›) | exact tru (by cases a; cases b; simp_all [eqV_iff, allEq_iff, tl_inj])), rfl, rfl⟩, mkr⟩
  ·replace hb1 := bne_eq_false_iff_eq.1 (hb1)
   refine X.skip ?_
   refine X.seq ?_
   refine X.seq (rs 4 ?_)
   obtain ⟨r2, hr4, hf3⟩ := l_eqBlockS a.f1 b.f1 (by assumption) (by assumption)
   replace hr4 := hr4.symm; subst hr4
   refine ca hf3 Tryz.func47 ?_
   refine go 1 ?_
   refine ek ⟨[(2, .pt 64 0 0), (3, .pt 80 0 0), (15, bV (!(allEq a.f1 b.f1)))], [(64, some (.box (cD (d137 a)))), (80, some (.box (cD (d137 b))))], 288⟩ ?_
   refine if_ (b := !(allEq a.f1 b.f1)) (fun hb6 => ?_) (fun hb6 => ?_)
   ·replace hb6 := bnot_yes (hb6)
    refine sk ⟨[(4, bV false)], [], 304⟩ ?_
    refine X.ret ?_
    exact ⟨trivial, _, _, ⟨false, (by first | exact fls (fun h => by subst h; first | exact absurd rfl ‹_› | exact tf (eqV_self _) ‹_› | exact tf (allEq_self _) ‹_›) | exact tru (by cases a; cases b; simp_all [eqV_iff, allEq_iff, tl_inj])), rfl, rfl⟩, mkr⟩
   ·replace hb6 := bnot_no (hb6)
    refine X.skip ?_
    refine X.seq ?_
    refine X.seq (rs 4 ?_)
    obtain ⟨r7, hr9, hf8⟩ := l_eqQc a.f2 b.f2 (by assumption) (by assumption)
    replace hr9 := hr9.symm; subst hr9
    refine ca hf8 Tryz.func48 ?_
    refine go 1 ?_
    refine ek ⟨[(21, bV (!(eqV a.f2 b.f2)))], [], 384⟩ ?_
    refine if_ (b := !(eqV a.f2 b.f2)) (fun hb11 => ?_) (fun hb11 => ?_)
    ·replace hb11 := bnot_yes (hb11)
     refine sk ⟨[(4, bV false)], [], 400⟩ ?_
     refine X.ret ?_
     exact ⟨trivial, _, _, ⟨false, (by first | exact fls (fun h => by subst h; first | exact absurd rfl ‹_› | exact tf (eqV_self _) ‹_› | exact tf (allEq_self _) ‹_›) | exact tru (by cases a; cases b; simp_all [eqV_iff, allEq_iff, tl_inj])), rfl, rfl⟩, mkr⟩
    ·replace hb11 := bnot_no (hb11)
     refine X.skip ?_
     refine sk ⟨[(4, bV true)], [], 400⟩ ?_
     refine X.ret ?_
     exact ⟨trivial, _, _, ⟨true, (by first | exact fls (fun h => by subst h; first | exact absurd rfl ‹_› | exact tf (eqV_self _) ‹_› | exact tf (allEq_self _) ‹_›) | exact tru (by cases a; cases b; simp_all [eqV_iff, allEq_iff, tl_inj])), rfl, rfl⟩, mkr⟩
 obtain ⟨_, _, ⟨r0, h1_, rfl, rfl⟩, hf⟩ := key
 exact ⟨r0, h1_, hf⟩

theorem l_toProofS (l : List S116) (hl : (l.map toProof).length ≤ 2000000 ∧ ∀ x, x ∈ (l.map toProof) → Sm137 x) : ∃ r0 : List S137, (r0 = l.map toProof) ∧ Fn Tryz.prog 36 [lV (l.map d116)] (lookH []) (.e (.c (.f (.sl (r0.map d137))))) (lookH []) := by
 have key : ∃ x' h', ((fun x' h' => ∃ r0 : List S137, (r0 = l.map toProof) ∧ x' = .e (.c (.f (.sl (r0.map d137)))) ∧ h' = [])) x' h' ∧ Fn Tryz.prog 36 [lV (l.map d116)] (lookH []) x' (lookH h') := by
  refine Fn.bodyX (N := 23) hτ Tryz.func36 rfl rfl rfl rfl ?_
  refine sk ⟨[(0, lV (l.map d116))], [], 80⟩ ?_
  refine X.seq ?_
  have hll : l.length ≤ 2000000 := by have := hl.1; simpa only [List.length_map] using this
  have el1 : (l.map d116).length = l.length := List.length_map ..
  refine rs 2 ?_
  refine CH.mks hτ (n := (l.map d116).length) (bys := 72) (by kernel_rfl) (by kernel_rfl) (by first | omega | (simp only [List.length_map]; omega) | (simp; omega)) (by first | omega | (simp only [List.length_map]; omega) | (simp; omega)) (by kernel_rfl) ?_
  refine go 1 ?_
  refine CH.endk ⟨[(0, lV (l.map d116)), (3, rV 112)], [(112, some (.row 5 137 (List.replicate ((l.map d116).length) (d137 z137)) false true))], 144⟩ (by kernel_rfl) (by kernel_rfl) (s2 := ⟨[(0, lV (l.map d116)), (3, rV 112)], [(112, some (.row 5 137 ((List.replicate ((l.map d116).length) z137).map d137) false true))], 144⟩) (congrArg (fun z : List (List D) => (⟨[(0, lV (l.map d116)), (3, rV 112)], [(112, some (.row 5 137 z false true))], 144⟩ : St)) (show List.replicate ((l.map d116).length) (d137 z137) = ((List.replicate ((l.map d116).length) z137).map d137) from List.map_replicate.symm)) ?_
  refine X.seq ?_
  refine sk ⟨[(0, lV (l.map d116)), (3, rV 112), (4, iV 0)], [(112, some (.row 5 137 ((List.replicate ((l.map d116).length) z137).map d137) false true))], 160⟩ ?_
  refine X.block ?_
  -- 3: Lv3 : List S137, v4 : Int
  refine X.loop (σ := { g : (List S137) × Int // (fun (Lv3 : List S137) (v4 : Int) => 0 ≤ v4 ∧ v4 ≤ l.length ∧ Lv3.length = l.length ∧ ∀ (j : Nat) (x : S116), (j : Int) < v4 → l[j]? = some x → Lv3[j]? = some (toProof x)) g.1 g.2 }) (fun g => (fun (Lv3 : List S137) (v4 : Int) => ⟨[(0, lV (l.map d116)), (3, rV 112), (4, iV v4)], [(112, some (.row 5 137 (Lv3.map d137) false true))], 160⟩) g.1.1 g.1.2) (fun g => (fun (Lv3 : List S137) (v4 : Int) => (l.length - v4).toNat) g.1.1 g.1.2) ⟨((List.replicate ((l.map d116).length) z137), 0), ⟨by first | omega | (dsimp only; omega), by first | omega | (dsimp only; omega), by simp, fun j x h => by first | omega | (dsimp only; omega)⟩⟩ (Wk.less (by kernel_rfl)) (fun g => ?_)
  obtain ⟨⟨Lv3, v4⟩, hg3⟩ := g
  have hg3 : 0 ≤ v4 ∧ v4 ≤ l.length ∧ Lv3.length = l.length ∧ ∀ (j : Nat) (x : S116), (j : Int) < v4 → l[j]? = some x → Lv3[j]? = some (toProof x) := hg3
  obtain ⟨_, _, hL, hA⟩ := hg3
  refine X.seq ?_
  refine sk ⟨[(0, lV (l.map d116)), (3, rV 112), (4, iV v4), (11, bV (decide ((v4 : Int) < ((l.map d116).length : Int))))], [(112, some (.row 5 137 (Lv3.map d137) false true))], 224⟩ ?_
  refine if_ (b := decide ((v4 : Int) < ((l.map d116).length : Int))) (fun hb4 => ?_) (fun hb4 => ?_)
  ·replace hb4 := of_decide_eq_true (hb4)
   refine X.skip ?_
   refine X.seq ?_
   refine X.block ?_
   refine rs 4 ?_
   obtain ⟨x5, hx5⟩ : ∃ x, l[Int.toNat v4]? = some x := ⟨_, List.getElem?_eq_getElem (by first | omega | (simp; done) | (simp; omega))⟩
   refine CH.idx hτ (d116 x5) (rows := (l.map d116)) (n := v4) (sz := 5) (by kernel_rfl) (by kernel_rfl) (by first | omega | (simp; done) | (simp; omega)) (by rw [List.getElem?_map, hx5]; rfl) (by kernel_rfl) ?_
   refine go 1 ?_
   obtain ⟨r6, hr8, hf7⟩ := l_toProof x5 (by exact hl.2 _ (List.mem_map.2 ⟨_, List.mem_of_getElem? ‹_›, rfl⟩))
   replace hr8 := hr8.symm; subst hr8
   refine ca hf7 Tryz.func79 ?_
   refine CH.idxR hτ (rows := (Lv3.map d137)) (n := v4) (b := 112) (by kernel_rfl) (by kernel_rfl) (by first | omega | (simp; done) | (simp; omega)) (by simp only [List.length_map, List.length_set]; first | omega | (simp; done) | (simp; omega)) (by kernel_rfl) ?_
   obtain ⟨x10, hx10⟩ : ∃ x, Lv3[Int.toNat v4]? = some x := ⟨_, List.getElem?_eq_getElem (by first | omega | (simp; done) | (simp; omega))⟩
   refine CH.row hτ (d137 x10) (by kernel_rfl) (by kernel_rfl) (by rw [List.getElem?_map, hx10]; rfl) (by kernel_rfl) ?_
   refine CH.endk ⟨[(0, lV (l.map d116)), (3, rV 112), (4, iV v4)], [(112, some (.row 5 137 ((Lv3.map d137).set (Int.toNat v4) (d137 ((toProof x5)))) false true))], 368⟩ (by kernel_rfl) (by kernel_rfl) (s2 := ⟨[(0, lV (l.map d116)), (3, rV 112), (4, iV v4)], [(112, some (.row 5 137 ((Lv3.set (Int.toNat v4) ((toProof x5))).map d137) false true))], 368⟩) (congrArg (fun z : List (List D) => (⟨[(0, lV (l.map d116)), (3, rV 112), (4, iV v4)], [(112, some (.row 5 137 z false true))], 368⟩ : St)) (show ((Lv3.map d137).set (Int.toNat v4) (d137 ((toProof x5)))) = ((Lv3.set (Int.toNat v4) ((toProof x5))).map d137) from List.map_set.symm)) ?_
   refine X.rk ⟨[(0, lV (l.map d116)), (3, rV 112), (4, iV (wrap64 (v4 + 1)))], [(112, some (.row 5 137 ((Lv3.set (Int.toNat v4) ((toProof x5))).map d137) false true))], 416⟩ hτ hmix (by kernel_rfl) (by kernel_rfl) (s2 := ⟨[(0, lV (l.map d116)), (3, rV 112), (4, iV (v4 + 1))], [(112, some (.row 5 137 ((Lv3.set (Int.toNat v4) ((toProof x5))).map d137) false true))], 416⟩) (congrArg (fun z : Int => (⟨[(0, lV (l.map d116)), (3, rV 112), (4, iV z)], [(112, some (.row 5 137 ((Lv3.set (Int.toNat v4) ((toProof x5))).map d137) false true))], 416⟩ : St)) (show wrap64 (v4 + 1) = (v4 + 1) by rw [w64 (n := (v4 + 1)) (by omega) (by omega)])) ?_
   refine ⟨⟨((Lv3.set (Int.toNat v4) ((toProof x5))), (v4 + 1)), ⟨by first | omega | (dsimp only; omega), by first | omega | (dsimp only; omega), by simp; omega, ts_next (f := toProof) hA (by first | omega | (dsimp only; omega)) (by first | omega | (dsimp only; omega)) ‹_›⟩⟩, by first | exact rfl | omega | (dsimp only; omega) | (simp only [List.length_append, List.length_cons, List.length_nil, List.length_set]; omega) | (simp; done) | (simp; omega), Wk.mk' [(112, 112)] (by kernel_rfl) (by kernel_rfl) (by kernel_rfl)⟩
  ·replace hb4 := of_decide_eq_false (hb4)
   refine X.exit ?_
   refine sk ⟨[(2, rV 112)], [(112, some (.row 5 137 (Lv3.map d137) false true))], 256⟩ ?_
   refine X.ret ?_
   exact ⟨trivial, _, _, ⟨Lv3, ts_end hA hL (by omega), rfl, rfl⟩, .inr ⟨⟨[(2, .e (.c (.f (.sl (Lv3.map d137)))))], [(112, some (.row 5 137 (Lv3.map d137) true true))], 256⟩, Wk.less (by kernel_rfl), Ret.mk' [] (by kernel_rfl) (by kernel_rfl) (by kernel_rfl)⟩⟩
 obtain ⟨_, _, ⟨r0, h1_, rfl, rfl⟩, hf⟩ := key
 exact ⟨r0, h1_, hf⟩

theorem l_eqProofS (l : List S137) (m : List S137) (hl : (l.length ≤ 2000000 ∧ ∀ z, z ∈ l → Sm137 z)) (hm : (m.length ≤ 2000000 ∧ ∀ z, z ∈ m → Sm137 z)) : ∃ r0 : Bool, (r0 = allEq l m) ∧ Fn Tryz.prog 54 [lV (l.map d137), lV (m.map d137)] (lookH []) (bV r0) (lookH []) := by
 have key : ∃ x' h', ((fun x' h' => ∃ r0 : Bool, (r0 = allEq l m) ∧ x' = bV r0 ∧ h' = [])) x' h' ∧ Fn Tryz.prog 54 [lV (l.map d137), lV (m.map d137)] (lookH []) x' (lookH h') := by
  refine Fn.bodyX (N := 27) hτ Tryz.func54 rfl rfl rfl rfl ?_
  refine sk ⟨[(0, lV (l.map d137)), (1, lV (m.map d137))], [], 80⟩ ?_
  refine X.seq ?_
  refine X.seq ?_
  have hll : l.length ≤ 2000000 := hl.1
  have hml : m.length ≤ 2000000 := hm.1
  have el1 : (l.map d137).length = l.length := List.length_map ..
  have el2 : (m.map d137).length = m.length := List.length_map ..
  refine rk ⟨[(0, lV (l.map d137)), (1, lV (m.map d137)), (10, bV (((l.map d137).length : Int) != ((m.map d137).length : Int)))], [], 160⟩ ?_
  refine if_ (b := (((l.map d137).length : Int) != ((m.map d137).length : Int))) (fun hb3 => ?_) (fun hb3 => ?_)
  ·replace hb3 := bne_iff_ne.1 (hb3)
   refine sk ⟨[(4, bV false)], [], 176⟩ ?_
   refine X.ret ?_
   exact ⟨trivial, _, _, ⟨false, (by first | exact fls (fun h => by have := congrArg List.length h; omega) | exact fls (eq_no ‹_› ‹_› (eqV_no ‹_›)) | exact tru (eq_all hA (by omega) (by omega))), rfl, rfl⟩, mkr⟩
  ·replace hb3 := bne_eq_false_iff_eq.1 (hb3)
   refine X.skip ?_
   refine X.seq ?_
   refine sk ⟨[(0, lV (l.map d137)), (1, lV (m.map d137)), (5, iV 0)], [], 176⟩ ?_
   refine X.block ?_
   -- 4: v5 : Int
   refine X.loop (σ := { g : Int // (fun (v5 : Int) => 0 ≤ v5 ∧ v5 ≤ l.length ∧ Upto (fun j x => m[j.toNat]? = some x) (fun n => l[n]?) v5) g }) (fun g => (fun (v5 : Int) => ⟨[(0, lV (l.map d137)), (1, lV (m.map d137)), (5, iV v5)], [], 176⟩) g.1) (fun g => (fun (v5 : Int) => (l.length - v5).toNat) g.1) ⟨0, ⟨by first | omega | (dsimp only; omega), by first | omega | (dsimp only; omega), upto_zero⟩⟩ (Wk.less (by kernel_rfl)) (fun g => ?_)
   obtain ⟨v5, hg5⟩ := g
   have hg5 : 0 ≤ v5 ∧ v5 ≤ l.length ∧ Upto (fun j x => m[j.toNat]? = some x) (fun n => l[n]?) v5 := hg5
   obtain ⟨_, _, hA⟩ := hg5
   refine X.seq ?_
   refine sk ⟨[(0, lV (l.map d137)), (1, lV (m.map d137)), (5, iV v5), (14, bV (decide ((v5 : Int) < ((l.map d137).length : Int))))], [], 240⟩ ?_
   refine if_ (b := decide ((v5 : Int) < ((l.map d137).length : Int))) (fun hb6 => ?_) (fun hb6 => ?_)
   ·replace hb6 := of_decide_eq_true (hb6)
    refine X.skip ?_
    refine X.seq ?_
    refine X.block ?_
    refine X.seq (rs 2 ?_)
    obtain ⟨x7, hx7⟩ : ∃ x, l[Int.toNat v5]? = some x := ⟨_, List.getElem?_eq_getElem (by first | omega | (simp; done) | (simp; omega))⟩
    refine CH.idx hτ (d137 x7) (rows := (l.map d137)) (n := v5) (sz := 5) (by kernel_rfl) (by kernel_rfl) (by first | omega | (simp; done) | (simp; omega)) (by rw [List.getElem?_map, hx7]; rfl) (by kernel_rfl) ?_
    refine go 3 ?_
    obtain ⟨x8, hx8⟩ : ∃ x, m[Int.toNat v5]? = some x := ⟨_, List.getElem?_eq_getElem (by first | omega | (simp; done) | (simp; omega))⟩
    refine CH.idx hτ (d137 x8) (rows := (m.map d137)) (n := v5) (sz := 5) (by kernel_rfl) (by kernel_rfl) (by first | omega | (simp; done) | (simp; omega)) (by rw [List.getElem?_map, hx8]; rfl) (by kernel_rfl) ?_
    refine go 1 ?_
    obtain ⟨r9, hr11, hf10⟩ := l_eqProof x7 x8 (by exact all_at hl.2 ‹_›) (by exact all_at hm.2 ‹_›)
    replace hr11 := hr11.symm; subst hr11
    refine ca hf10 Tryz.func98 ?_
    refine go 1 ?_
    refine ek ⟨[(0, lV (l.map d137)), (1, lV (m.map d137)), (5, iV v5), (26, bV (!(eqV x7 x8)))], [], 400⟩ ?_
    refine if_ (b := !(eqV x7 x8)) (fun hb13 => ?_) (fun hb13 => ?_)
    ·replace hb13 := bnot_yes (hb13)
     refine sk ⟨[(4, bV false)], [], 416⟩ ?_
     refine X.ret ?_
     exact ⟨trivial, _, _, ⟨false, (by first | exact fls (fun h => by have := congrArg List.length h; omega) | exact fls (eq_no ‹_› ‹_› (eqV_no ‹_›)) | exact tru (eq_all hA (by omega) (by omega))), rfl, rfl⟩, mkr⟩
    ·replace hb13 := bnot_no (hb13)
     refine X.skip ?_
     refine X.rk ⟨[(0, lV (l.map d137)), (1, lV (m.map d137)), (5, iV (wrap64 (v5 + 1)))], [], 448⟩ hτ hmix (by kernel_rfl) (by kernel_rfl) (s2 := ⟨[(0, lV (l.map d137)), (1, lV (m.map d137)), (5, iV (v5 + 1))], [], 448⟩) (congrArg (fun z : Int => (⟨[(0, lV (l.map d137)), (1, lV (m.map d137)), (5, iV z)], [], 448⟩ : St)) (show wrap64 (v5 + 1) = (v5 + 1) by rw [w64 (n := (v5 + 1)) (by omega) (by omega)])) ?_
     refine ⟨⟨(v5 + 1), ⟨by first | omega | (dsimp only; omega), by first | omega | (dsimp only; omega), upto_nx (by first | omega | (dsimp only; omega)) hA ‹_› (eq_stp ‹_› (eqV_iff.1 ‹_›))⟩⟩, by first | exact rfl | omega | (dsimp only; omega) | (simp only [List.length_append, List.length_cons, List.length_nil, List.length_set]; omega) | (simp; done) | (simp; omega), Wk.mk' [] (by kernel_rfl) (by kernel_rfl) (by kernel_rfl)⟩
   ·replace hb6 := of_decide_eq_false (hb6)
    refine X.exit ?_
    refine sk ⟨[(4, bV true)], [], 256⟩ ?_
    refine X.ret ?_
    exact ⟨trivial, _, _, ⟨true, (by first | exact fls (fun h => by have := congrArg List.length h; omega) | exact fls (eq_no ‹_› ‹_› (eqV_no ‹_›)) | exact tru (eq_all hA (by omega) (by omega))), rfl, rfl⟩, mkr⟩
 obtain ⟨_, _, ⟨r0, h1_, rfl, rfl⟩, hf⟩ := key
 exact ⟨r0, h1_, hf⟩

theorem l_toNode (x : S38) (hs : Sm53 (toNode x)) : ∃ r0 : S53, (r0 = toNode x) ∧ Fn Tryz.prog 6 [.e (.agg (cD (d38 x)))] (lookH []) (.e (.agg [.d (.v (.string r0.f0)), .d (.v (.int .i64 r0.f1)), .d (.v (.int .i64 r0.f2.f0)), .f (.sl (r0.f2.f1.map d155)), .f (.sl (r0.f3.map d121)), .f (.sl (r0.f4.map d73)), .d (.v (.int .i64 r0.f5)), .d (.v (.int .i64 r0.f6)), .d (.v (.int .i64 r0.f7.f0)), .d (.v (.int .i64 r0.f7.f1)), .f (.sl (r0.f7.f2.map dS)), .d (.v (.int .i64 r0.f8.f0)), .f (.sl (r0.f8.f1.map dS)), .f (.sl (r0.f8.f2.map dI)), .d (.v (.int .i64 r0.f9)), .f (.sl (r0.f10.map d131)), .f (.sl (r0.f11.map d133)), .f (.sl (r0.f12.map dI)), .f (.sl (r0.f13.map d119)), .f (.sl (r0.f14.map d137))])) (lookH []) := by
 have key : ∃ x' h', ((fun x' h' => ∃ r0 : S53, (r0 = toNode x) ∧ x' = .e (.agg [.d (.v (.string r0.f0)), .d (.v (.int .i64 r0.f1)), .d (.v (.int .i64 r0.f2.f0)), .f (.sl (r0.f2.f1.map d155)), .f (.sl (r0.f3.map d121)), .f (.sl (r0.f4.map d73)), .d (.v (.int .i64 r0.f5)), .d (.v (.int .i64 r0.f6)), .d (.v (.int .i64 r0.f7.f0)), .d (.v (.int .i64 r0.f7.f1)), .f (.sl (r0.f7.f2.map dS)), .d (.v (.int .i64 r0.f8.f0)), .f (.sl (r0.f8.f1.map dS)), .f (.sl (r0.f8.f2.map dI)), .d (.v (.int .i64 r0.f9)), .f (.sl (r0.f10.map d131)), .f (.sl (r0.f11.map d133)), .f (.sl (r0.f12.map dI)), .f (.sl (r0.f13.map d119)), .f (.sl (r0.f14.map d137))]) ∧ h' = [])) x' h' ∧ Fn Tryz.prog 6 [.e (.agg (cD (d38 x)))] (lookH []) x' (lookH h') := by
  refine Fn.bodyX (N := 60) hτ Tryz.func6 rfl rfl rfl rfl ?_
  refine sk ⟨[(1, .pt 64 0 0), (2, .pt 80 0 0)], [(64, some (.box (cD (d38 x)))), (80, some (.box [.d (.v (.string (⟨#[]⟩ : ByteArray))), .d (.v (.int .i64 0)), .d (.v (.int .i64 0)), .nil, .nil, .nil, .d (.v (.int .i64 0)), .d (.v (.int .i64 0)), .d (.v (.int .i64 0)), .d (.v (.int .i64 0)), .nil, .d (.v (.int .i64 0)), .nil, .nil, .d (.v (.int .i64 0)), .nil, .nil, .nil, .nil, .nil]))], 96⟩ ?_
  refine X.seq ?_
  have hq0 : SmS x.f0 := hs.1
  have hq2 : Sm43 (toLedger x.f2) := hs.2.1
  have hq3 : SmV (x.f3.map toVal) := hs.2.2.1
  have hq4 : SmL (x.f4.map toBlock) := hs.2.2.2.1
  have hq7 : Sm46 (toQc x.f7) := hs.2.2.2.2.1
  have hq8 : Sm47 (toTc x.f8) := hs.2.2.2.2.2.1
  have hq10 : ((x.f10.map toVote).length ≤ 2000000 ∧ ∀ z, z ∈ (x.f10.map toVote) → Sm131 z) := hs.2.2.2.2.2.2.1
  have hq11 : ((x.f11.map toGone).length ≤ 2000000 ∧ ∀ z, z ∈ (x.f11.map toGone) → Sm133 z) := hs.2.2.2.2.2.2.2.1
  have hq12 : x.f12.length ≤ 2000000 := hs.2.2.2.2.2.2.2.2.1
  have hq13 : SmT (x.f13.map toTx) := hs.2.2.2.2.2.2.2.2.2.1
  have hq14 : ((x.f14.map toProof).length ≤ 2000000 ∧ ∀ z, z ∈ (x.f14.map toProof) → Sm137 z) := hs.2.2.2.2.2.2.2.2.2.2
  refine rk ⟨[(1, .pt 64 0 0), (2, .pt 80 0 0), (3, .pt 96 0 0)], [(64, some (.box (cD (d38 x)))), (80, some (.box [.d (.v (.string (⟨#[]⟩ : ByteArray))), .d (.v (.int .i64 0)), .d (.v (.int .i64 0)), .nil, .nil, .nil, .d (.v (.int .i64 0)), .d (.v (.int .i64 0)), .d (.v (.int .i64 0)), .d (.v (.int .i64 0)), .nil, .d (.v (.int .i64 0)), .nil, .nil, .d (.v (.int .i64 0)), .nil, .nil, .nil, .nil, .nil])), (96, some (.box [.d (.v (.string (⟨#[]⟩ : ByteArray))), .d (.v (.int .i64 0)), .d (.v (.int .i64 0)), .nil, .nil, .nil, .d (.v (.int .i64 0)), .d (.v (.int .i64 0)), .d (.v (.int .i64 0)), .d (.v (.int .i64 0)), .nil, .d (.v (.int .i64 0)), .nil, .nil, .d (.v (.int .i64 0)), .nil, .nil, .nil, .nil, .nil]))], 112⟩ ?_
  refine sk ⟨[(1, .pt 64 0 0), (2, .pt 80 0 0), (3, .pt 96 0 0)], [(64, some (.box (cD (d38 x)))), (80, some (.box [.d (.v (.string (⟨#[]⟩ : ByteArray))), .d (.v (.int .i64 0)), .d (.v (.int .i64 0)), .nil, .nil, .nil, .d (.v (.int .i64 0)), .d (.v (.int .i64 0)), .d (.v (.int .i64 0)), .d (.v (.int .i64 0)), .nil, .d (.v (.int .i64 0)), .nil, .nil, .d (.v (.int .i64 0)), .nil, .nil, .nil, .nil, .nil])), (96, some (.box [.d (.v (.string x.f0)), .d (.v (.int .i64 0)), .d (.v (.int .i64 0)), .nil, .nil, .nil, .d (.v (.int .i64 0)), .d (.v (.int .i64 0)), .d (.v (.int .i64 0)), .d (.v (.int .i64 0)), .nil, .d (.v (.int .i64 0)), .nil, .nil, .d (.v (.int .i64 0)), .nil, .nil, .nil, .nil, .nil]))], 176⟩ ?_
  refine sk ⟨[(1, .pt 64 0 0), (2, .pt 80 0 0), (3, .pt 96 0 0)], [(64, some (.box (cD (d38 x)))), (80, some (.box [.d (.v (.string (⟨#[]⟩ : ByteArray))), .d (.v (.int .i64 0)), .d (.v (.int .i64 0)), .nil, .nil, .nil, .d (.v (.int .i64 0)), .d (.v (.int .i64 0)), .d (.v (.int .i64 0)), .d (.v (.int .i64 0)), .nil, .d (.v (.int .i64 0)), .nil, .nil, .d (.v (.int .i64 0)), .nil, .nil, .nil, .nil, .nil])), (96, some (.box [.d (.v (.string x.f0)), .d (.v (.int .i64 x.f1)), .d (.v (.int .i64 0)), .nil, .nil, .nil, .d (.v (.int .i64 0)), .d (.v (.int .i64 0)), .d (.v (.int .i64 0)), .d (.v (.int .i64 0)), .nil, .d (.v (.int .i64 0)), .nil, .nil, .d (.v (.int .i64 0)), .nil, .nil, .nil, .nil, .nil]))], 240⟩ ?_
  refine X.seq (rs 2 ?_)
  obtain ⟨r1, hr3, hf2⟩ := l_toLedger x.f2 (by assumption)
  replace hr3 := hr3.symm; subst hr3
  refine ca hf2 Tryz.func27 ?_
  refine go 2 ?_
  refine ek ⟨[(1, .pt 64 0 0), (2, .pt 80 0 0), (3, .pt 96 0 0)], [(64, some (.box (cD (d38 x)))), (80, some (.box [.d (.v (.string (⟨#[]⟩ : ByteArray))), .d (.v (.int .i64 0)), .d (.v (.int .i64 0)), .nil, .nil, .nil, .d (.v (.int .i64 0)), .d (.v (.int .i64 0)), .d (.v (.int .i64 0)), .d (.v (.int .i64 0)), .nil, .d (.v (.int .i64 0)), .nil, .nil, .d (.v (.int .i64 0)), .nil, .nil, .nil, .nil, .nil])), (96, some (.box [.d (.v (.string x.f0)), .d (.v (.int .i64 x.f1)), .d (.v (.int .i64 (((toLedger x.f2)).f0))), .f (.sl ((((toLedger x.f2)).f1).map d155)), .nil, .nil, .d (.v (.int .i64 0)), .d (.v (.int .i64 0)), .d (.v (.int .i64 0)), .d (.v (.int .i64 0)), .nil, .d (.v (.int .i64 0)), .nil, .nil, .d (.v (.int .i64 0)), .nil, .nil, .nil, .nil, .nil]))], 320⟩ ?_
  refine X.seq (rs 2 ?_)
  obtain ⟨r5, hr7, hf6⟩ := l_toValS x.f3 (by assumption)
  replace hr7 := hr7.symm; subst hr7
  have hlm : (x.f3.map toVal).length = x.f3.length := List.length_map ..
  refine ca hf6 Tryz.func28 ?_
  refine go 2 ?_
  refine ek ⟨[(1, .pt 64 0 0), (2, .pt 80 0 0), (3, .pt 96 0 0)], [(64, some (.box (cD (d38 x)))), (80, some (.box [.d (.v (.string (⟨#[]⟩ : ByteArray))), .d (.v (.int .i64 0)), .d (.v (.int .i64 0)), .nil, .nil, .nil, .d (.v (.int .i64 0)), .d (.v (.int .i64 0)), .d (.v (.int .i64 0)), .d (.v (.int .i64 0)), .nil, .d (.v (.int .i64 0)), .nil, .nil, .d (.v (.int .i64 0)), .nil, .nil, .nil, .nil, .nil])), (96, some (.box [.d (.v (.string x.f0)), .d (.v (.int .i64 x.f1)), .d (.v (.int .i64 (((toLedger x.f2)).f0))), .f (.sl ((((toLedger x.f2)).f1).map d155)), .f (.sl ((x.f3.map toVal).map d121)), .nil, .d (.v (.int .i64 0)), .d (.v (.int .i64 0)), .d (.v (.int .i64 0)), .d (.v (.int .i64 0)), .nil, .d (.v (.int .i64 0)), .nil, .nil, .d (.v (.int .i64 0)), .nil, .nil, .nil, .nil, .nil]))], 400⟩ ?_
  refine X.seq (rs 2 ?_)
  obtain ⟨r9, hr11, hf10⟩ := l_toBlockS x.f4 (by assumption)
  replace hr11 := hr11.symm; subst hr11
  have hlm : (x.f4.map toBlock).length = x.f4.length := List.length_map ..
  refine ca hf10 Tryz.func29 ?_
  refine go 2 ?_
  refine ek ⟨[(1, .pt 64 0 0), (2, .pt 80 0 0), (3, .pt 96 0 0)], [(64, some (.box (cD (d38 x)))), (80, some (.box [.d (.v (.string (⟨#[]⟩ : ByteArray))), .d (.v (.int .i64 0)), .d (.v (.int .i64 0)), .nil, .nil, .nil, .d (.v (.int .i64 0)), .d (.v (.int .i64 0)), .d (.v (.int .i64 0)), .d (.v (.int .i64 0)), .nil, .d (.v (.int .i64 0)), .nil, .nil, .d (.v (.int .i64 0)), .nil, .nil, .nil, .nil, .nil])), (96, some (.box [.d (.v (.string x.f0)), .d (.v (.int .i64 x.f1)), .d (.v (.int .i64 (((toLedger x.f2)).f0))), .f (.sl ((((toLedger x.f2)).f1).map d155)), .f (.sl ((x.f3.map toVal).map d121)), .f (.sl ((x.f4.map toBlock).map d73)), .d (.v (.int .i64 0)), .d (.v (.int .i64 0)), .d (.v (.int .i64 0)), .d (.v (.int .i64 0)), .nil, .d (.v (.int .i64 0)), .nil, .nil, .d (.v (.int .i64 0)), .nil, .nil, .nil, .nil, .nil]))], 480⟩ ?_
  refine sk ⟨[(1, .pt 64 0 0), (2, .pt 80 0 0), (3, .pt 96 0 0)], [(64, some (.box (cD (d38 x)))), (80, some (.box [.d (.v (.string (⟨#[]⟩ : ByteArray))), .d (.v (.int .i64 0)), .d (.v (.int .i64 0)), .nil, .nil, .nil, .d (.v (.int .i64 0)), .d (.v (.int .i64 0)), .d (.v (.int .i64 0)), .d (.v (.int .i64 0)), .nil, .d (.v (.int .i64 0)), .nil, .nil, .d (.v (.int .i64 0)), .nil, .nil, .nil, .nil, .nil])), (96, some (.box [.d (.v (.string x.f0)), .d (.v (.int .i64 x.f1)), .d (.v (.int .i64 (((toLedger x.f2)).f0))), .f (.sl ((((toLedger x.f2)).f1).map d155)), .f (.sl ((x.f3.map toVal).map d121)), .f (.sl ((x.f4.map toBlock).map d73)), .d (.v (.int .i64 x.f5)), .d (.v (.int .i64 0)), .d (.v (.int .i64 0)), .d (.v (.int .i64 0)), .nil, .d (.v (.int .i64 0)), .nil, .nil, .d (.v (.int .i64 0)), .nil, .nil, .nil, .nil, .nil]))], 544⟩ ?_
  refine sk ⟨[(1, .pt 64 0 0), (2, .pt 80 0 0), (3, .pt 96 0 0)], [(64, some (.box (cD (d38 x)))), (80, some (.box [.d (.v (.string (⟨#[]⟩ : ByteArray))), .d (.v (.int .i64 0)), .d (.v (.int .i64 0)), .nil, .nil, .nil, .d (.v (.int .i64 0)), .d (.v (.int .i64 0)), .d (.v (.int .i64 0)), .d (.v (.int .i64 0)), .nil, .d (.v (.int .i64 0)), .nil, .nil, .d (.v (.int .i64 0)), .nil, .nil, .nil, .nil, .nil])), (96, some (.box [.d (.v (.string x.f0)), .d (.v (.int .i64 x.f1)), .d (.v (.int .i64 (((toLedger x.f2)).f0))), .f (.sl ((((toLedger x.f2)).f1).map d155)), .f (.sl ((x.f3.map toVal).map d121)), .f (.sl ((x.f4.map toBlock).map d73)), .d (.v (.int .i64 x.f5)), .d (.v (.int .i64 x.f6)), .d (.v (.int .i64 0)), .d (.v (.int .i64 0)), .nil, .d (.v (.int .i64 0)), .nil, .nil, .d (.v (.int .i64 0)), .nil, .nil, .nil, .nil, .nil]))], 608⟩ ?_
  refine X.seq (rs 2 ?_)
  obtain ⟨r13, hr15, hf14⟩ := l_toQc x.f7 (by assumption)
  replace hr15 := hr15.symm; subst hr15
  refine ca hf14 Tryz.func30 ?_
  refine go 2 ?_
  refine ek ⟨[(1, .pt 64 0 0), (2, .pt 80 0 0), (3, .pt 96 0 0)], [(64, some (.box (cD (d38 x)))), (80, some (.box [.d (.v (.string (⟨#[]⟩ : ByteArray))), .d (.v (.int .i64 0)), .d (.v (.int .i64 0)), .nil, .nil, .nil, .d (.v (.int .i64 0)), .d (.v (.int .i64 0)), .d (.v (.int .i64 0)), .d (.v (.int .i64 0)), .nil, .d (.v (.int .i64 0)), .nil, .nil, .d (.v (.int .i64 0)), .nil, .nil, .nil, .nil, .nil])), (96, some (.box [.d (.v (.string x.f0)), .d (.v (.int .i64 x.f1)), .d (.v (.int .i64 (((toLedger x.f2)).f0))), .f (.sl ((((toLedger x.f2)).f1).map d155)), .f (.sl ((x.f3.map toVal).map d121)), .f (.sl ((x.f4.map toBlock).map d73)), .d (.v (.int .i64 x.f5)), .d (.v (.int .i64 x.f6)), .d (.v (.int .i64 (((toQc x.f7)).f0))), .d (.v (.int .i64 (((toQc x.f7)).f1))), .f (.sl ((((toQc x.f7)).f2).map dS)), .d (.v (.int .i64 0)), .nil, .nil, .d (.v (.int .i64 0)), .nil, .nil, .nil, .nil, .nil]))], 688⟩ ?_
  refine X.seq (rs 2 ?_)
  obtain ⟨r17, hr19, hf18⟩ := l_toTc x.f8 (by assumption)
  replace hr19 := hr19.symm; subst hr19
  refine ca hf18 Tryz.func31 ?_
  refine go 2 ?_
  refine ek ⟨[(1, .pt 64 0 0), (2, .pt 80 0 0), (3, .pt 96 0 0)], [(64, some (.box (cD (d38 x)))), (80, some (.box [.d (.v (.string (⟨#[]⟩ : ByteArray))), .d (.v (.int .i64 0)), .d (.v (.int .i64 0)), .nil, .nil, .nil, .d (.v (.int .i64 0)), .d (.v (.int .i64 0)), .d (.v (.int .i64 0)), .d (.v (.int .i64 0)), .nil, .d (.v (.int .i64 0)), .nil, .nil, .d (.v (.int .i64 0)), .nil, .nil, .nil, .nil, .nil])), (96, some (.box [.d (.v (.string x.f0)), .d (.v (.int .i64 x.f1)), .d (.v (.int .i64 (((toLedger x.f2)).f0))), .f (.sl ((((toLedger x.f2)).f1).map d155)), .f (.sl ((x.f3.map toVal).map d121)), .f (.sl ((x.f4.map toBlock).map d73)), .d (.v (.int .i64 x.f5)), .d (.v (.int .i64 x.f6)), .d (.v (.int .i64 (((toQc x.f7)).f0))), .d (.v (.int .i64 (((toQc x.f7)).f1))), .f (.sl ((((toQc x.f7)).f2).map dS)), .d (.v (.int .i64 (((toTc x.f8)).f0))), .f (.sl ((((toTc x.f8)).f1).map dS)), .f (.sl ((((toTc x.f8)).f2).map dI)), .d (.v (.int .i64 0)), .nil, .nil, .nil, .nil, .nil]))], 768⟩ ?_
  refine sk ⟨[(1, .pt 64 0 0), (2, .pt 80 0 0), (3, .pt 96 0 0)], [(64, some (.box (cD (d38 x)))), (80, some (.box [.d (.v (.string (⟨#[]⟩ : ByteArray))), .d (.v (.int .i64 0)), .d (.v (.int .i64 0)), .nil, .nil, .nil, .d (.v (.int .i64 0)), .d (.v (.int .i64 0)), .d (.v (.int .i64 0)), .d (.v (.int .i64 0)), .nil, .d (.v (.int .i64 0)), .nil, .nil, .d (.v (.int .i64 0)), .nil, .nil, .nil, .nil, .nil])), (96, some (.box [.d (.v (.string x.f0)), .d (.v (.int .i64 x.f1)), .d (.v (.int .i64 (((toLedger x.f2)).f0))), .f (.sl ((((toLedger x.f2)).f1).map d155)), .f (.sl ((x.f3.map toVal).map d121)), .f (.sl ((x.f4.map toBlock).map d73)), .d (.v (.int .i64 x.f5)), .d (.v (.int .i64 x.f6)), .d (.v (.int .i64 (((toQc x.f7)).f0))), .d (.v (.int .i64 (((toQc x.f7)).f1))), .f (.sl ((((toQc x.f7)).f2).map dS)), .d (.v (.int .i64 (((toTc x.f8)).f0))), .f (.sl ((((toTc x.f8)).f1).map dS)), .f (.sl ((((toTc x.f8)).f2).map dI)), .d (.v (.int .i64 x.f9)), .nil, .nil, .nil, .nil, .nil]))], 832⟩ ?_
  refine X.seq (rs 2 ?_)
  obtain ⟨r21, hr23, hf22⟩ := l_toVoteS x.f10 (by assumption)
  replace hr23 := hr23.symm; subst hr23
  have hlm : (x.f10.map toVote).length = x.f10.length := List.length_map ..
  refine ca hf22 Tryz.func32 ?_
  refine go 2 ?_
  refine ek ⟨[(1, .pt 64 0 0), (2, .pt 80 0 0), (3, .pt 96 0 0)], [(64, some (.box (cD (d38 x)))), (80, some (.box [.d (.v (.string (⟨#[]⟩ : ByteArray))), .d (.v (.int .i64 0)), .d (.v (.int .i64 0)), .nil, .nil, .nil, .d (.v (.int .i64 0)), .d (.v (.int .i64 0)), .d (.v (.int .i64 0)), .d (.v (.int .i64 0)), .nil, .d (.v (.int .i64 0)), .nil, .nil, .d (.v (.int .i64 0)), .nil, .nil, .nil, .nil, .nil])), (96, some (.box [.d (.v (.string x.f0)), .d (.v (.int .i64 x.f1)), .d (.v (.int .i64 (((toLedger x.f2)).f0))), .f (.sl ((((toLedger x.f2)).f1).map d155)), .f (.sl ((x.f3.map toVal).map d121)), .f (.sl ((x.f4.map toBlock).map d73)), .d (.v (.int .i64 x.f5)), .d (.v (.int .i64 x.f6)), .d (.v (.int .i64 (((toQc x.f7)).f0))), .d (.v (.int .i64 (((toQc x.f7)).f1))), .f (.sl ((((toQc x.f7)).f2).map dS)), .d (.v (.int .i64 (((toTc x.f8)).f0))), .f (.sl ((((toTc x.f8)).f1).map dS)), .f (.sl ((((toTc x.f8)).f2).map dI)), .d (.v (.int .i64 x.f9)), .f (.sl ((x.f10.map toVote).map d131)), .nil, .nil, .nil, .nil]))], 912⟩ ?_
  refine X.seq (rs 2 ?_)
  obtain ⟨r25, hr27, hf26⟩ := l_toGoneS x.f11 (by assumption)
  replace hr27 := hr27.symm; subst hr27
  have hlm : (x.f11.map toGone).length = x.f11.length := List.length_map ..
  refine ca hf26 Tryz.func33 ?_
  refine go 2 ?_
  refine ek ⟨[(1, .pt 64 0 0), (2, .pt 80 0 0), (3, .pt 96 0 0)], [(64, some (.box (cD (d38 x)))), (80, some (.box [.d (.v (.string (⟨#[]⟩ : ByteArray))), .d (.v (.int .i64 0)), .d (.v (.int .i64 0)), .nil, .nil, .nil, .d (.v (.int .i64 0)), .d (.v (.int .i64 0)), .d (.v (.int .i64 0)), .d (.v (.int .i64 0)), .nil, .d (.v (.int .i64 0)), .nil, .nil, .d (.v (.int .i64 0)), .nil, .nil, .nil, .nil, .nil])), (96, some (.box [.d (.v (.string x.f0)), .d (.v (.int .i64 x.f1)), .d (.v (.int .i64 (((toLedger x.f2)).f0))), .f (.sl ((((toLedger x.f2)).f1).map d155)), .f (.sl ((x.f3.map toVal).map d121)), .f (.sl ((x.f4.map toBlock).map d73)), .d (.v (.int .i64 x.f5)), .d (.v (.int .i64 x.f6)), .d (.v (.int .i64 (((toQc x.f7)).f0))), .d (.v (.int .i64 (((toQc x.f7)).f1))), .f (.sl ((((toQc x.f7)).f2).map dS)), .d (.v (.int .i64 (((toTc x.f8)).f0))), .f (.sl ((((toTc x.f8)).f1).map dS)), .f (.sl ((((toTc x.f8)).f2).map dI)), .d (.v (.int .i64 x.f9)), .f (.sl ((x.f10.map toVote).map d131)), .f (.sl ((x.f11.map toGone).map d133)), .nil, .nil, .nil]))], 992⟩ ?_
  refine X.seq (rs 2 ?_)
  obtain ⟨r29, hr31, hf30⟩ := l_toIntS x.f12 (by assumption)
  replace hr31 := hr31.symm; subst hr31
  refine ca hf30 Tryz.func34 ?_
  refine go 2 ?_
  refine ek ⟨[(1, .pt 64 0 0), (2, .pt 80 0 0), (3, .pt 96 0 0)], [(64, some (.box (cD (d38 x)))), (80, some (.box [.d (.v (.string (⟨#[]⟩ : ByteArray))), .d (.v (.int .i64 0)), .d (.v (.int .i64 0)), .nil, .nil, .nil, .d (.v (.int .i64 0)), .d (.v (.int .i64 0)), .d (.v (.int .i64 0)), .d (.v (.int .i64 0)), .nil, .d (.v (.int .i64 0)), .nil, .nil, .d (.v (.int .i64 0)), .nil, .nil, .nil, .nil, .nil])), (96, some (.box [.d (.v (.string x.f0)), .d (.v (.int .i64 x.f1)), .d (.v (.int .i64 (((toLedger x.f2)).f0))), .f (.sl ((((toLedger x.f2)).f1).map d155)), .f (.sl ((x.f3.map toVal).map d121)), .f (.sl ((x.f4.map toBlock).map d73)), .d (.v (.int .i64 x.f5)), .d (.v (.int .i64 x.f6)), .d (.v (.int .i64 (((toQc x.f7)).f0))), .d (.v (.int .i64 (((toQc x.f7)).f1))), .f (.sl ((((toQc x.f7)).f2).map dS)), .d (.v (.int .i64 (((toTc x.f8)).f0))), .f (.sl ((((toTc x.f8)).f1).map dS)), .f (.sl ((((toTc x.f8)).f2).map dI)), .d (.v (.int .i64 x.f9)), .f (.sl ((x.f10.map toVote).map d131)), .f (.sl ((x.f11.map toGone).map d133)), .f (.sl (x.f12.map dI)), .nil, .nil]))], 1072⟩ ?_
  refine X.seq (rs 2 ?_)
  obtain ⟨r33, hr35, hf34⟩ := l_toTxS x.f13 (by assumption)
  replace hr35 := hr35.symm; subst hr35
  have hlm : (x.f13.map toTx).length = x.f13.length := List.length_map ..
  refine ca hf34 Tryz.func35 ?_
  refine go 2 ?_
  refine ek ⟨[(1, .pt 64 0 0), (2, .pt 80 0 0), (3, .pt 96 0 0)], [(64, some (.box (cD (d38 x)))), (80, some (.box [.d (.v (.string (⟨#[]⟩ : ByteArray))), .d (.v (.int .i64 0)), .d (.v (.int .i64 0)), .nil, .nil, .nil, .d (.v (.int .i64 0)), .d (.v (.int .i64 0)), .d (.v (.int .i64 0)), .d (.v (.int .i64 0)), .nil, .d (.v (.int .i64 0)), .nil, .nil, .d (.v (.int .i64 0)), .nil, .nil, .nil, .nil, .nil])), (96, some (.box [.d (.v (.string x.f0)), .d (.v (.int .i64 x.f1)), .d (.v (.int .i64 (((toLedger x.f2)).f0))), .f (.sl ((((toLedger x.f2)).f1).map d155)), .f (.sl ((x.f3.map toVal).map d121)), .f (.sl ((x.f4.map toBlock).map d73)), .d (.v (.int .i64 x.f5)), .d (.v (.int .i64 x.f6)), .d (.v (.int .i64 (((toQc x.f7)).f0))), .d (.v (.int .i64 (((toQc x.f7)).f1))), .f (.sl ((((toQc x.f7)).f2).map dS)), .d (.v (.int .i64 (((toTc x.f8)).f0))), .f (.sl ((((toTc x.f8)).f1).map dS)), .f (.sl ((((toTc x.f8)).f2).map dI)), .d (.v (.int .i64 x.f9)), .f (.sl ((x.f10.map toVote).map d131)), .f (.sl ((x.f11.map toGone).map d133)), .f (.sl (x.f12.map dI)), .f (.sl ((x.f13.map toTx).map d119)), .nil]))], 1152⟩ ?_
  refine X.seq (rs 2 ?_)
  obtain ⟨r37, hr39, hf38⟩ := l_toProofS x.f14 (by assumption)
  replace hr39 := hr39.symm; subst hr39
  have hlm : (x.f14.map toProof).length = x.f14.length := List.length_map ..
  refine ca hf38 Tryz.func36 ?_
  refine go 2 ?_
  refine ek ⟨[(2, .pt 80 0 0), (3, .pt 96 0 0)], [(80, some (.box [.d (.v (.string (⟨#[]⟩ : ByteArray))), .d (.v (.int .i64 0)), .d (.v (.int .i64 0)), .nil, .nil, .nil, .d (.v (.int .i64 0)), .d (.v (.int .i64 0)), .d (.v (.int .i64 0)), .d (.v (.int .i64 0)), .nil, .d (.v (.int .i64 0)), .nil, .nil, .d (.v (.int .i64 0)), .nil, .nil, .nil, .nil, .nil])), (96, some (.box [.d (.v (.string x.f0)), .d (.v (.int .i64 x.f1)), .d (.v (.int .i64 (((toLedger x.f2)).f0))), .f (.sl ((((toLedger x.f2)).f1).map d155)), .f (.sl ((x.f3.map toVal).map d121)), .f (.sl ((x.f4.map toBlock).map d73)), .d (.v (.int .i64 x.f5)), .d (.v (.int .i64 x.f6)), .d (.v (.int .i64 (((toQc x.f7)).f0))), .d (.v (.int .i64 (((toQc x.f7)).f1))), .f (.sl ((((toQc x.f7)).f2).map dS)), .d (.v (.int .i64 (((toTc x.f8)).f0))), .f (.sl ((((toTc x.f8)).f1).map dS)), .f (.sl ((((toTc x.f8)).f2).map dI)), .d (.v (.int .i64 x.f9)), .f (.sl ((x.f10.map toVote).map d131)), .f (.sl ((x.f11.map toGone).map d133)), .f (.sl (x.f12.map dI)), .f (.sl ((x.f13.map toTx).map d119)), .f (.sl ((x.f14.map toProof).map d137))]))], 1232⟩ ?_
  refine sk ⟨[(2, .pt 80 0 0)], [(80, some (.box [.d (.v (.string x.f0)), .d (.v (.int .i64 x.f1)), .d (.v (.int .i64 (((toLedger x.f2)).f0))), .f (.sl ((((toLedger x.f2)).f1).map d155)), .f (.sl ((x.f3.map toVal).map d121)), .f (.sl ((x.f4.map toBlock).map d73)), .d (.v (.int .i64 x.f5)), .d (.v (.int .i64 x.f6)), .d (.v (.int .i64 (((toQc x.f7)).f0))), .d (.v (.int .i64 (((toQc x.f7)).f1))), .f (.sl ((((toQc x.f7)).f2).map dS)), .d (.v (.int .i64 (((toTc x.f8)).f0))), .f (.sl ((((toTc x.f8)).f1).map dS)), .f (.sl ((((toTc x.f8)).f2).map dI)), .d (.v (.int .i64 x.f9)), .f (.sl ((x.f10.map toVote).map d131)), .f (.sl ((x.f11.map toGone).map d133)), .f (.sl (x.f12.map dI)), .f (.sl ((x.f13.map toTx).map d119)), .f (.sl ((x.f14.map toProof).map d137))]))], 1264⟩ ?_
  refine X.ret ?_
  exact ⟨trivial, _, _, ⟨(⟨x.f0, x.f1, ((toLedger x.f2)), (x.f3.map toVal), (x.f4.map toBlock), x.f5, x.f6, ((toQc x.f7)), ((toTc x.f8)), x.f9, (x.f10.map toVote), (x.f11.map toGone), x.f12, (x.f13.map toTx), (x.f14.map toProof)⟩ : S53), rfl, rfl, rfl⟩, mkr⟩
 obtain ⟨_, _, ⟨r0, h1_, rfl, rfl⟩, hf⟩ := key
 exact ⟨r0, h1_, hf⟩

theorem l_eqNode (a : S53) (b : S53) (ha : Sm53 a) (hb : Sm53 b) : ∃ r0 : Bool, (r0 = eqV a b) ∧ Fn Tryz.prog 8 [.e (.agg (cD (d53 a))), .e (.agg (cD (d53 b)))] (lookH []) (bV r0) (lookH []) := by
 have key : ∃ x' h', ((fun x' h' => ∃ r0 : Bool, (r0 = eqV a b) ∧ x' = bV r0 ∧ h' = [])) x' h' ∧ Fn Tryz.prog 8 [.e (.agg (cD (d53 a))), .e (.agg (cD (d53 b)))] (lookH []) x' (lookH h') := by
  refine Fn.bodyX (N := 90) hτ Tryz.func8 rfl rfl rfl rfl ?_
  refine sk ⟨[(2, .pt 64 0 0), (3, .pt 80 0 0)], [(64, some (.box (cD (d53 a)))), (80, some (.box (cD (d53 b))))], 112⟩ ?_
  refine X.seq ?_
  refine X.seq ?_
  have a0 : SmS a.f0 := ha.1
  have b0 : SmS b.f0 := hb.1
  have a2 : Sm43 a.f2 := ha.2.1
  have b2 : Sm43 b.f2 := hb.2.1
  have a3 : SmV a.f3 := ha.2.2.1
  have b3 : SmV b.f3 := hb.2.2.1
  have a4 : SmL a.f4 := ha.2.2.2.1
  have b4 : SmL b.f4 := hb.2.2.2.1
  have a7 : Sm46 a.f7 := ha.2.2.2.2.1
  have b7 : Sm46 b.f7 := hb.2.2.2.2.1
  have a8 : Sm47 a.f8 := ha.2.2.2.2.2.1
  have b8 : Sm47 b.f8 := hb.2.2.2.2.2.1
  have a10 : (a.f10.length ≤ 2000000 ∧ ∀ z, z ∈ a.f10 → Sm131 z) := ha.2.2.2.2.2.2.1
  have b10 : (b.f10.length ≤ 2000000 ∧ ∀ z, z ∈ b.f10 → Sm131 z) := hb.2.2.2.2.2.2.1
  have a11 : (a.f11.length ≤ 2000000 ∧ ∀ z, z ∈ a.f11 → Sm133 z) := ha.2.2.2.2.2.2.2.1
  have b11 : (b.f11.length ≤ 2000000 ∧ ∀ z, z ∈ b.f11 → Sm133 z) := hb.2.2.2.2.2.2.2.1
  have a12 : a.f12.length ≤ 2000000 := ha.2.2.2.2.2.2.2.2.1
  have b12 : b.f12.length ≤ 2000000 := hb.2.2.2.2.2.2.2.2.1
  have a13 : SmT a.f13 := ha.2.2.2.2.2.2.2.2.2.1
  have b13 : SmT b.f13 := hb.2.2.2.2.2.2.2.2.2.1
  have a14 : (a.f14.length ≤ 2000000 ∧ ∀ z, z ∈ a.f14 → Sm137 z) := ha.2.2.2.2.2.2.2.2.2.2
  have b14 : (b.f14.length ≤ 2000000 ∧ ∀ z, z ∈ b.f14 → Sm137 z) := hb.2.2.2.2.2.2.2.2.2.2
  refine rk ⟨[(2, .pt 64 0 0), (3, .pt 80 0 0), (9, bV (!(a.f0.toList == b.f0.toList)))], [(64, some (.box (cD (d53 a)))), (80, some (.box (cD (d53 b))))], 192⟩ ?_
  refine if_ (b := !(a.f0.toList == b.f0.toList)) (fun hb1 => ?_) (fun hb1 => ?_)
  ·replace hb1 := beq_no (bnot_yes (hb1))
   refine sk ⟨[(4, bV false)], [], 208⟩ ?_
   refine X.ret ?_
   exact ⟨trivial, _, _, ⟨false, (by first | exact fls (fun h => by subst h; first | exact absurd rfl ‹_› | exact tf (eqV_self _) ‹_› | exact tf (allEq_self _) ‹_›) | exact tru (by cases a; cases b; simp_all [eqV_iff, allEq_iff, tl_inj])), rfl, rfl⟩, mkr⟩
  ·replace hb1 := beq_yes (bnot_no (hb1))
   refine X.skip ?_
   refine X.seq ?_
   refine sk ⟨[(2, .pt 64 0 0), (3, .pt 80 0 0), (14, bV (a.f1 != b.f1))], [(64, some (.box (cD (d53 a)))), (80, some (.box (cD (d53 b))))], 272⟩ ?_
   refine if_ (b := (a.f1 != b.f1)) (fun hb2 => ?_) (fun hb2 => ?_)
   ·replace hb2 := bne_iff_ne.1 (hb2)
    refine sk ⟨[(4, bV false)], [], 288⟩ ?_
    refine X.ret ?_
    exact ⟨trivial, _, _, ⟨false, (by first | exact fls (fun h => by subst h; first | exact absurd rfl ‹_› | exact tf (eqV_self _) ‹_› | exact tf (allEq_self _) ‹_›) | exact tru (by cases a; cases b; simp_all [eqV_iff, allEq_iff, tl_inj])), rfl, rfl⟩, mkr⟩
   ·replace hb2 := bne_eq_false_iff_eq.1 (hb2)
    refine X.skip ?_
    refine X.seq ?_
    refine X.seq (rs 4 ?_)
    obtain ⟨r3, hr5, hf4⟩ := l_eqLedger a.f2 b.f2 (by assumption) (by assumption)
    replace hr5 := hr5.symm; subst hr5
    refine ca hf4 Tryz.func45 ?_
    refine go 1 ?_
    refine ek ⟨[(2, .pt 64 0 0), (3, .pt 80 0 0), (20, bV (!(eqV a.f2 b.f2)))], [(64, some (.box (cD (d53 a)))), (80, some (.box (cD (d53 b))))], 368⟩ ?_
    refine if_ (b := !(eqV a.f2 b.f2)) (fun hb7 => ?_) (fun hb7 => ?_)
    ·replace hb7 := bnot_yes (hb7)
     refine sk ⟨[(4, bV false)], [], 384⟩ ?_
     refine X.ret ?_
     exact ⟨trivial, _, _, ⟨false, (by first | exact fls (fun h => by subst h; first | exact absurd rfl ‹_› | exact tf (eqV_self _) ‹_› | exact tf (allEq_self _) ‹_›) | exact tru (by cases a; cases b; simp_all [eqV_iff, allEq_iff, tl_inj])), rfl, rfl⟩, mkr⟩
    ·replace hb7 := bnot_no (hb7)
     refine X.skip ?_
     refine X.seq ?_
     refine X.seq (rs 4 ?_)
     obtain ⟨r8, hr10, hf9⟩ := l_eqValS a.f3 b.f3 (by assumption) (by assumption)
     replace hr10 := hr10.symm; subst hr10
     refine ca hf9 Tryz.func46 ?_
     refine go 1 ?_
     refine ek ⟨[(2, .pt 64 0 0), (3, .pt 80 0 0), (26, bV (!(allEq a.f3 b.f3)))], [(64, some (.box (cD (d53 a)))), (80, some (.box (cD (d53 b))))], 464⟩ ?_
     refine if_ (b := !(allEq a.f3 b.f3)) (fun hb12 => ?_) (fun hb12 => ?_)
     ·replace hb12 := bnot_yes (hb12)
      refine sk ⟨[(4, bV false)], [], 480⟩ ?_
      refine X.ret ?_
      exact ⟨trivial, _, _, ⟨false, (by first | exact fls (fun h => by subst h; first | exact absurd rfl ‹_› | exact tf (eqV_self _) ‹_› | exact tf (allEq_self _) ‹_›) | exact tru (by cases a; cases b; simp_all [eqV_iff, allEq_iff, tl_inj])), rfl, rfl⟩, mkr⟩
     ·replace hb12 := bnot_no (hb12)
      refine X.skip ?_
      refine X.seq ?_
      refine X.seq (rs 4 ?_)
      obtain ⟨r13, hr15, hf14⟩ := l_eqBlockS a.f4 b.f4 (by assumption) (by assumption)
      replace hr15 := hr15.symm; subst hr15
      refine ca hf14 Tryz.func47 ?_
      refine go 1 ?_
      refine ek ⟨[(2, .pt 64 0 0), (3, .pt 80 0 0), (32, bV (!(allEq a.f4 b.f4)))], [(64, some (.box (cD (d53 a)))), (80, some (.box (cD (d53 b))))], 560⟩ ?_
      refine if_ (b := !(allEq a.f4 b.f4)) (fun hb17 => ?_) (fun hb17 => ?_)
      ·replace hb17 := bnot_yes (hb17)
       refine sk ⟨[(4, bV false)], [], 576⟩ ?_
       refine X.ret ?_
       exact ⟨trivial, _, _, ⟨false, (by first | exact fls (fun h => by subst h; first | exact absurd rfl ‹_› | exact tf (eqV_self _) ‹_› | exact tf (allEq_self _) ‹_›) | exact tru (by cases a; cases b; simp_all [eqV_iff, allEq_iff, tl_inj])), rfl, rfl⟩, mkr⟩
      ·replace hb17 := bnot_no (hb17)
       refine X.skip ?_
       refine X.seq ?_
       refine sk ⟨[(2, .pt 64 0 0), (3, .pt 80 0 0), (37, bV (a.f5 != b.f5))], [(64, some (.box (cD (d53 a)))), (80, some (.box (cD (d53 b))))], 640⟩ ?_
       refine if_ (b := (a.f5 != b.f5)) (fun hb18 => ?_) (fun hb18 => ?_)
       ·replace hb18 := bne_iff_ne.1 (hb18)
        refine sk ⟨[(4, bV false)], [], 656⟩ ?_
        refine X.ret ?_
        exact ⟨trivial, _, _, ⟨false, (by first | exact fls (fun h => by subst h; first | exact absurd rfl ‹_› | exact tf (eqV_self _) ‹_› | exact tf (allEq_self _) ‹_›) | exact tru (by cases a; cases b; simp_all [eqV_iff, allEq_iff, tl_inj])), rfl, rfl⟩, mkr⟩
       ·replace hb18 := bne_eq_false_iff_eq.1 (hb18)
        refine X.skip ?_
        refine X.seq ?_
        refine sk ⟨[(2, .pt 64 0 0), (3, .pt 80 0 0), (42, bV (a.f6 != b.f6))], [(64, some (.box (cD (d53 a)))), (80, some (.box (cD (d53 b))))], 720⟩ ?_
        refine if_ (b := (a.f6 != b.f6)) (fun hb19 => ?_) (fun hb19 => ?_)
        ·replace hb19 := bne_iff_ne.1 (hb19)
         refine sk ⟨[(4, bV false)], [], 736⟩ ?_
         refine X.ret ?_
         exact ⟨trivial, _, _, ⟨false, (by first | exact fls (fun h => by subst h; first | exact absurd rfl ‹_› | exact tf (eqV_self _) ‹_› | exact tf (allEq_self _) ‹_›) | exact tru (by cases a; cases b; simp_all [eqV_iff, allEq_iff, tl_inj])), rfl, rfl⟩, mkr⟩
        ·replace hb19 := bne_eq_false_iff_eq.1 (hb19)
         refine X.skip ?_
         refine X.seq ?_
         refine X.seq (rs 4 ?_)
         obtain ⟨r20, hr22, hf21⟩ := l_eqQc a.f7 b.f7 (by assumption) (by assumption)
         replace hr22 := hr22.symm; subst hr22
         refine ca hf21 Tryz.func48 ?_
         refine go 1 ?_
         refine ek ⟨[(2, .pt 64 0 0), (3, .pt 80 0 0), (48, bV (!(eqV a.f7 b.f7)))], [(64, some (.box (cD (d53 a)))), (80, some (.box (cD (d53 b))))], 816⟩ ?_
         refine if_ (b := !(eqV a.f7 b.f7)) (fun hb24 => ?_) (fun hb24 => ?_)
         ·replace hb24 := bnot_yes (hb24)
          refine sk ⟨[(4, bV false)], [], 832⟩ ?_
          refine X.ret ?_
          exact ⟨trivial, _, _, ⟨false, (by first | exact fls (fun h => by subst h; first | exact absurd rfl ‹_› | exact tf (eqV_self _) ‹_› | exact tf (allEq_self _) ‹_›) | exact tru (by cases a; cases b; simp_all [eqV_iff, allEq_iff, tl_inj])), rfl, rfl⟩, mkr⟩
         ·replace hb24 := bnot_no (hb24)
          refine X.skip ?_
          refine X.seq ?_
          refine X.seq (rs 4 ?_)
          obtain ⟨r25, hr27, hf26⟩ := l_eqTc a.f8 b.f8 (by assumption) (by assumption)
          replace hr27 := hr27.symm; subst hr27
          refine ca hf26 Tryz.func49 ?_
          refine go 1 ?_
          refine ek ⟨[(2, .pt 64 0 0), (3, .pt 80 0 0), (54, bV (!(eqV a.f8 b.f8)))], [(64, some (.box (cD (d53 a)))), (80, some (.box (cD (d53 b))))], 912⟩ ?_
          refine if_ (b := !(eqV a.f8 b.f8)) (fun hb29 => ?_) (fun hb29 => ?_)
          ·replace hb29 := bnot_yes (hb29)
           refine sk ⟨[(4, bV false)], [], 928⟩ ?_
           refine X.ret ?_
           exact ⟨trivial, _, _, ⟨false, (by first | exact fls (fun h => by subst h; first | exact absurd rfl ‹_› | exact tf (eqV_self _) ‹_› | exact tf (allEq_self _) ‹_›) | exact tru (by cases a; cases b; simp_all [eqV_iff, allEq_iff, tl_inj])), rfl, rfl⟩, mkr⟩
          ·replace hb29 := bnot_no (hb29)
           refine X.skip ?_
           refine X.seq ?_
           refine sk ⟨[(2, .pt 64 0 0), (3, .pt 80 0 0), (59, bV (a.f9 != b.f9))], [(64, some (.box (cD (d53 a)))), (80, some (.box (cD (d53 b))))], 992⟩ ?_
           refine if_ (b := (a.f9 != b.f9)) (fun hb30 => ?_) (fun hb30 => ?_)
           ·replace hb30 := bne_iff_ne.1 (hb30)
            refine sk ⟨[(4, bV false)], [], 1008⟩ ?_
            refine X.ret ?_
            exact ⟨trivial, _, _, ⟨false, (by first | exact fls (fun h => by subst h; first | exact absurd rfl ‹_› | exact tf (eqV_self _) ‹_› | exact tf (allEq_self _) ‹_›) | exact tru (by cases a; cases b; simp_all [eqV_iff, allEq_iff, tl_inj])), rfl, rfl⟩, mkr⟩
           ·replace hb30 := bne_eq_false_iff_eq.1 (hb30)
            refine X.skip ?_
            refine X.seq ?_
            refine X.seq (rs 4 ?_)
            obtain ⟨r31, hr33, hf32⟩ := l_eqVoteS a.f10 b.f10 (by assumption) (by assumption)
            replace hr33 := hr33.symm; subst hr33
            refine ca hf32 Tryz.func50 ?_
            refine go 1 ?_
            refine ek ⟨[(2, .pt 64 0 0), (3, .pt 80 0 0), (65, bV (!(allEq a.f10 b.f10)))], [(64, some (.box (cD (d53 a)))), (80, some (.box (cD (d53 b))))], 1088⟩ ?_
            refine if_ (b := !(allEq a.f10 b.f10)) (fun hb35 => ?_) (fun hb35 => ?_)
            ·replace hb35 := bnot_yes (hb35)
             refine sk ⟨[(4, bV false)], [], 1104⟩ ?_
             refine X.ret ?_
             exact ⟨trivial, _, _, ⟨false, (by first | exact fls (fun h => by subst h; first | exact absurd rfl ‹_› | exact tf (eqV_self _) ‹_› | exact tf (allEq_self _) ‹_›) | exact tru (by cases a; cases b; simp_all [eqV_iff, allEq_iff, tl_inj])), rfl, rfl⟩, mkr⟩
            ·replace hb35 := bnot_no (hb35)
             refine X.skip ?_
             refine X.seq ?_
             refine X.seq (rs 4 ?_)
             obtain ⟨r36, hr38, hf37⟩ := l_eqGoneS a.f11 b.f11 (by assumption) (by assumption)
             replace hr38 := hr38.symm; subst hr38
             refine ca hf37 Tryz.func51 ?_
             refine go 1 ?_
             refine ek ⟨[(2, .pt 64 0 0), (3, .pt 80 0 0), (71, bV (!(allEq a.f11 b.f11)))], [(64, some (.box (cD (d53 a)))), (80, some (.box (cD (d53 b))))], 1184⟩ ?_
             refine if_ (b := !(allEq a.f11 b.f11)) (fun hb40 => ?_) (fun hb40 => ?_)
             ·replace hb40 := bnot_yes (hb40)
              refine sk ⟨[(4, bV false)], [], 1200⟩ ?_
              refine X.ret ?_
              exact ⟨trivial, _, _, ⟨false, (by first | exact fls (fun h => by subst h; first | exact absurd rfl ‹_› | exact tf (eqV_self _) ‹_› | exact tf (allEq_self _) ‹_›) | exact tru (by cases a; cases b; simp_all [eqV_iff, allEq_iff, tl_inj])), rfl, rfl⟩, mkr⟩
             ·replace hb40 := bnot_no (hb40)
              refine X.skip ?_
              refine X.seq ?_
              refine X.seq (rs 4 ?_)
              obtain ⟨r41, hr43, hf42⟩ := l_eqIntS a.f12 b.f12 (by assumption) (by assumption)
              replace hr43 := hr43.symm; subst hr43
              refine ca hf42 Tryz.func52 ?_
              refine go 1 ?_
              refine ek ⟨[(2, .pt 64 0 0), (3, .pt 80 0 0), (77, bV (!(allEq a.f12 b.f12)))], [(64, some (.box (cD (d53 a)))), (80, some (.box (cD (d53 b))))], 1280⟩ ?_
              refine if_ (b := !(allEq a.f12 b.f12)) (fun hb45 => ?_) (fun hb45 => ?_)
              ·replace hb45 := bnot_yes (hb45)
               refine sk ⟨[(4, bV false)], [], 1296⟩ ?_
               refine X.ret ?_
               exact ⟨trivial, _, _, ⟨false, (by first | exact fls (fun h => by subst h; first | exact absurd rfl ‹_› | exact tf (eqV_self _) ‹_› | exact tf (allEq_self _) ‹_›) | exact tru (by cases a; cases b; simp_all [eqV_iff, allEq_iff, tl_inj])), rfl, rfl⟩, mkr⟩
              ·replace hb45 := bnot_no (hb45)
               refine X.skip ?_
               refine X.seq ?_
               refine X.seq (rs 4 ?_)
               obtain ⟨r46, hr48, hf47⟩ := l_eqTxS a.f13 b.f13 (by assumption) (by assumption)
               replace hr48 := hr48.symm; subst hr48
               refine ca hf47 Tryz.func53 ?_
               refine go 1 ?_
               refine ek ⟨[(2, .pt 64 0 0), (3, .pt 80 0 0), (83, bV (!(allEq a.f13 b.f13)))], [(64, some (.box (cD (d53 a)))), (80, some (.box (cD (d53 b))))], 1376⟩ ?_
               refine if_ (b := !(allEq a.f13 b.f13)) (fun hb50 => ?_) (fun hb50 => ?_)
               ·replace hb50 := bnot_yes (hb50)
                refine sk ⟨[(4, bV false)], [], 1392⟩ ?_
                refine X.ret ?_
                exact ⟨trivial, _, _, ⟨false, (by first | exact fls (fun h => by subst h; first | exact absurd rfl ‹_› | exact tf (eqV_self _) ‹_› | exact tf (allEq_self _) ‹_›) | exact tru (by cases a; cases b; simp_all [eqV_iff, allEq_iff, tl_inj])), rfl, rfl⟩, mkr⟩
               ·replace hb50 := bnot_no (hb50)
                refine X.skip ?_
                refine X.seq ?_
                refine X.seq (rs 4 ?_)
                obtain ⟨r51, hr53, hf52⟩ := l_eqProofS a.f14 b.f14 (by assumption) (by assumption)
                replace hr53 := hr53.symm; subst hr53
                refine ca hf52 Tryz.func54 ?_
                refine go 1 ?_
                refine ek ⟨[(89, bV (!(allEq a.f14 b.f14)))], [], 1472⟩ ?_
                refine if_ (b := !(allEq a.f14 b.f14)) (fun hb55 => ?_) (fun hb55 => ?_)
                ·replace hb55 := bnot_yes (hb55)
                 refine sk ⟨[(4, bV false)], [], 1488⟩ ?_
                 refine X.ret ?_
                 exact ⟨trivial, _, _, ⟨false, (by first | exact fls (fun h => by subst h; first | exact absurd rfl ‹_› | exact tf (eqV_self _) ‹_› | exact tf (allEq_self _) ‹_›) | exact tru (by cases a; cases b; simp_all [eqV_iff, allEq_iff, tl_inj])), rfl, rfl⟩, mkr⟩
                ·replace hb55 := bnot_no (hb55)
                 refine X.skip ?_
                 refine sk ⟨[(4, bV true)], [], 1488⟩ ?_
                 refine X.ret ?_
                 exact ⟨trivial, _, _, ⟨true, (by first | exact fls (fun h => by subst h; first | exact absurd rfl ‹_› | exact tf (eqV_self _) ‹_› | exact tf (allEq_self _) ‹_›) | exact tru (by cases a; cases b; simp_all [eqV_iff, allEq_iff, tl_inj])), rfl, rfl⟩, mkr⟩
 obtain ⟨_, _, ⟨r0, h1_, rfl, rfl⟩, hf⟩ := key
 exact ⟨r0, h1_, hf⟩
end Go.Proofs.YtpegmlbbeookbaaGreat.Av
