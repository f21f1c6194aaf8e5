/-
What functions of the program come to, walked one by one.
Conditions: none beside those that each theorem names.
-/
import Derived.Test.YtnieghbgcjbnhaaAvP
import Derived.Test.YtnieghbgcjbnhaaAvH
set_option linter.unusedVariables false
set_option linter.unusedSimpArgs false
namespace Go.Proofs.Ytnieghbgcjbnhaa.Av
open Go.RowKit
set_option maxRecDepth 20000
set_option maxHeartbeats 4000000
theorem l_FnExactPoolAdd (l : List S33) (t : S33) (hwl : l.length ≤ maxLen ∧ ∀ y ∈ l, w33 y) (hwt : w33 t) : ∃ r0 : Bool, (r0 = true) ∧ Fn Try.prog 4 [lV (l.map d33), .e (.agg (cD (d33 t)))] (lookH []) (bV r0) (lookH []) := by
  have key : ∃ x' h', ((fun x' h' => ∃ r0 : Bool, (r0 = true) ∧ x' = bV r0 ∧ h' = [])) x' h' ∧ Fn Try.prog 4 [lV (l.map d33), .e (.agg (cD (d33 t)))] (lookH []) x' (lookH h') := by
    refine Fn.bodyX (N := 109) hτ Try.func4 rfl rfl rfl rfl ?_
    refine X.seq ?_
    refine X.rk ⟨[(0, lV (l.map d33)), (3, .pt 64 0 0)], [(64, some (.box (cD (d33 t))))], 96⟩ hτ hmix (by kernel_rfl) (by kernel_rfl) rfl ?_
    refine X.seq ?_
    refine X.rk ⟨[(0, lV (l.map d33)), (3, .pt 64 0 0), (5, iV 1048576)], [(64, some (.box (cD (d33 t))))], 112⟩ hτ hmix (by kernel_rfl) (by kernel_rfl) rfl ?_
    refine X.seq ?_
    refine X.rs 2 hτ hmix (by kernel_rfl) ?_
    obtain ⟨r1, hr3, hf2⟩ := l_szTxS l 1048576 (by assumption) (by first | omega | assumption)
    obtain ⟨hz1, hz0, hz2⟩ := hr3
    refine CH.call hf2 Try.func15 ⟨rfl, rfl⟩ [] (by kernel_rfl) (by kernel_rfl) (by kernel_rfl) (by kernel_rfl) ?_
    refine CH.go 1 hτ (by kernel_rfl) ?_
    refine CH.endk ⟨[(0, lV (l.map d33)), (3, .pt 64 0 0), (5, iV r1)], [(64, some (.box (cD (d33 t))))], 176⟩ (by kernel_rfl) (by kernel_rfl) rfl ?_
    refine X.seq ?_
    refine X.seq ?_
    have hzl := hz2
    refine X.rk ⟨[(0, lV (l.map d33)), (3, .pt 64 0 0), (5, iV r1), (20, bV (decide ((r1 : Int) < 0)))], [(64, some (.box (cD (d33 t))))], 208⟩ hτ hmix (by kernel_rfl) (by kernel_rfl) rfl ?_
    refine X.if_ (b := decide ((r1 : Int) < 0)) (by kernel_rfl) (fun hb4 => ?_) (fun hb4 => ?_)
    · replace hb4 := of_decide_eq_true (hb4)
      refine X.seq ?_
      refine X.rk ⟨[(4, bV true)], [], 224⟩ hτ hmix (by kernel_rfl) (by kernel_rfl) rfl ?_
      refine X.ret ?_
      exact ⟨trivial, _, _, ⟨true, (by first | exact rfl | exact (by exfalso; omega) | exact (tf (allEq_self _) ‹_›) | exact (absurd rfl ‹_›)), rfl, rfl⟩, .inl (Ret.mk' [] (by kernel_rfl) (by kernel_rfl) (by kernel_rfl))⟩
    · replace hb4 := of_decide_eq_false (hb4)
      refine X.skip ?_
      refine X.seq ?_
      refine X.rs 2 hτ hmix (by kernel_rfl) ?_
      obtain ⟨r5, hr7, hf6⟩ := l_szTx t r1 (by assumption) (by first | omega | assumption)
      obtain ⟨hz1, hz0, hz2⟩ := hr7
      refine CH.call hf6 Try.func16 ⟨rfl, rfl⟩ [] (by kernel_rfl) (by kernel_rfl) (by kernel_rfl) (by kernel_rfl) ?_
      refine CH.go 1 hτ (by kernel_rfl) ?_
      refine CH.endk ⟨[(0, lV (l.map d33)), (3, .pt 64 0 0), (5, iV r5)], [(64, some (.box (cD (d33 t))))], 272⟩ (by kernel_rfl) (by kernel_rfl) rfl ?_
      refine X.seq ?_
      refine X.seq ?_
      refine X.rk ⟨[(0, lV (l.map d33)), (3, .pt 64 0 0), (25, bV (decide ((r5 : Int) < 0)))], [(64, some (.box (cD (d33 t))))], 304⟩ hτ hmix (by kernel_rfl) (by kernel_rfl) rfl ?_
      refine X.if_ (b := decide ((r5 : Int) < 0)) (by kernel_rfl) (fun hb8 => ?_) (fun hb8 => ?_)
      · replace hb8 := of_decide_eq_true (hb8)
        refine X.seq ?_
        refine X.rk ⟨[(4, bV true)], [], 320⟩ hτ hmix (by kernel_rfl) (by kernel_rfl) rfl ?_
        refine X.ret ?_
        exact ⟨trivial, _, _, ⟨true, (by first | exact rfl | exact (by exfalso; omega) | exact (tf (allEq_self _) ‹_›) | exact (absurd rfl ‹_›)), rfl, rfl⟩, .inl (Ret.mk' [] (by kernel_rfl) (by kernel_rfl) (by kernel_rfl))⟩
      · replace hb8 := of_decide_eq_false (hb8)
        refine X.skip ?_
        refine X.seq ?_
        have hT := hz2 (by omega)
        obtain ⟨hL, hLl⟩ := hzl (by omega)
        refine X.rs 1 hτ hmix (by kernel_rfl) ?_
        obtain ⟨r9, hr11, hf10⟩ := l_toTxS l (by first | assumption | omega)
        replace hr11 := hr11.symm; subst hr11
        have hlm : (l.map toTx).length = l.length := List.length_map ..
        refine CH.call hf10 Try.func17 ⟨rfl, rfl⟩ [] (by kernel_rfl) (by kernel_rfl) (by kernel_rfl) (by kernel_rfl) ?_
        refine CH.go 1 hτ (by kernel_rfl) ?_
        obtain ⟨r13, hr15, hf14⟩ := l_toTx t
        replace hr15 := hr15.symm; subst hr15
        refine CH.call hf14 Try.func18 ⟨rfl, rfl⟩ [] (by kernel_rfl) (by kernel_rfl) (by kernel_rfl) (by kernel_rfl) ?_
        obtain ⟨r17, r18, hr20, hf19⟩ := s_PoolAdd (l.map toTx) ((toTx t)) (by assumption) (by assumption) (by omega)
        obtain ⟨e21, e22⟩ := hr20
        replace e21 := e21.symm; subst e21
        replace e22 := e22.symm; subst e22
        have hpl := paR_len (l.map toTx) ((toTx t))
        refine CH.call hf19 Try.func13 ⟨rfl, rfl⟩ [] (by kernel_rfl) (by kernel_rfl) (by kernel_rfl) (by kernel_rfl) ?_
        refine CH.go 5 hτ (by kernel_rfl) ?_
        refine CH.endk ⟨[(0, lV (l.map d33)), (3, .pt 64 0 0), (6, rV 368), (7, bV (paOk (l.map toTx) ((toTx t))))], [(64, some (.box (cD (d33 t)))), (368, some (.row 5 26 ((paR (l.map toTx) ((toTx t))).map d26) false true))], 464⟩ (by kernel_rfl) (by kernel_rfl) rfl ?_
        refine X.seq ?_
        refine X.rs 1 hτ hmix (by kernel_rfl) ?_
        obtain ⟨r23, hr25, hf24⟩ := l_toTxS l (by first | assumption | omega)
        replace hr25 := hr25.symm; subst hr25
        have hlm : (l.map toTx).length = l.length := List.length_map ..
        refine CH.call hf24 Try.func17 ⟨rfl, rfl⟩ [] (by kernel_rfl) (by kernel_rfl) (by kernel_rfl) (by kernel_rfl) ?_
        refine CH.go 1 hτ (by kernel_rfl) ?_
        refine CH.endk ⟨[(0, lV (l.map d33)), (3, .pt 64 0 0), (6, rV 368), (7, bV (paOk (l.map toTx) ((toTx t)))), (8, rV 480)], [(64, some (.box (cD (d33 t)))), (368, some (.row 5 26 ((paR (l.map toTx) ((toTx t))).map d26) false true)), (480, some (.row 5 26 ((l.map toTx).map d26) false true))], 512⟩ (by kernel_rfl) (by kernel_rfl) rfl ?_
        refine X.seq ?_
        refine X.rs 2 hτ hmix (by kernel_rfl) ?_
        obtain ⟨r27, hr29, hf28⟩ := l_toTx t
        replace hr29 := hr29.symm; subst hr29
        refine CH.call hf28 Try.func18 ⟨rfl, rfl⟩ [] (by kernel_rfl) (by kernel_rfl) (by kernel_rfl) (by kernel_rfl) ?_
        obtain ⟨r31, r32, hr34, hf33⟩ := i_PoolAdd (l.map toTx) ((toTx t)) (by assumption) (by assumption) (by omega)
        obtain ⟨e35, e36⟩ := hr34
        replace e35 := e35.symm; subst e35
        replace e36 := e36.symm; subst e36
        have hpl := paR_len (l.map toTx) ((toTx t))
        refine CH.call hf33 Try.func12 ⟨rfl, rfl⟩ [] (by kernel_rfl) (by kernel_rfl) (by kernel_rfl) (by kernel_rfl) ?_
        refine CH.go 5 hτ (by kernel_rfl) ?_
        refine CH.endk ⟨[(0, lV (l.map d33)), (3, .pt 64 0 0), (6, rV 368), (7, bV (paOk (l.map toTx) ((toTx t)))), (8, rV 480), (9, rV 560), (10, bV (paOk (l.map toTx) ((toTx t))))], [(64, some (.box (cD (d33 t)))), (368, some (.row 5 26 ((paR (l.map toTx) ((toTx t))).map d26) false true)), (480, some (.row 5 26 ((l.map toTx).map d26) false true)), (560, some (.row 5 26 ((paR (l.map toTx) ((toTx t))).map d26) false true))], 656⟩ (by kernel_rfl) (by kernel_rfl) rfl ?_
        refine X.seq ?_
        refine X.seq ?_
        refine X.rs 2 hτ hmix (by kernel_rfl) ?_
        obtain ⟨r37, hr39, hf38⟩ := l_eqTxS (paR (l.map toTx) ((toTx t))) (paR (l.map toTx) ((toTx t))) (by first | assumption | omega) (by first | assumption | omega)
        replace hr39 := hr39.symm; subst hr39
        refine CH.call hf38 Try.func19 ⟨rfl, rfl⟩ [] (by kernel_rfl) (by kernel_rfl) (by kernel_rfl) (by kernel_rfl) ?_
        refine CH.go 2 hτ (by kernel_rfl) ?_
        rcases Bool.eq_false_or_eq_true (!(allEq (paR (l.map toTx) ((toTx t))) (paR (l.map toTx) ((toTx t))))) with hb41 | hb41
        · refine CH.alt 46 (sV (.bool (!(allEq (paR (l.map toTx) ((toTx t))) (paR (l.map toTx) ((toTx t))))))) (sV (.bool true)) (by kernel_rfl) (by rw [hb41]) ?_
          refine CH.alt 47 (sV (.bool (!(allEq (paR (l.map toTx) ((toTx t))) (paR (l.map toTx) ((toTx t))))))) (sV (.bool true)) (by kernel_rfl) (by rw [hb41]) ?_
          replace hb41 := bnot_yes (hb41)
          refine CH.go 4 hτ (by kernel_rfl) ?_
          refine CH.endk ⟨[(0, lV (l.map d33)), (3, .pt 64 0 0), (6, rV 368), (7, bV (paOk (l.map toTx) ((toTx t)))), (8, rV 480), (9, rV 560), (10, bV (paOk (l.map toTx) ((toTx t)))), (51, bV true)], [(64, some (.box (cD (d33 t)))), (368, some (.row 5 26 ((paR (l.map toTx) ((toTx t))).map d26) false true)), (480, some (.row 5 26 ((l.map toTx).map d26) false true)), (560, some (.row 5 26 ((paR (l.map toTx) ((toTx t))).map d26) false true))], 800⟩ (by kernel_rfl) (by kernel_rfl) rfl ?_
          refine X.ifT (by kernel_rfl) ?_
          refine X.seq ?_
          refine X.rk ⟨[(4, bV false)], [], 816⟩ hτ hmix (by kernel_rfl) (by kernel_rfl) rfl ?_
          refine X.ret ?_
          exact ⟨trivial, _, _, ⟨false, (by first | exact rfl | exact (by exfalso; omega) | exact (tf (allEq_self _) ‹_›) | exact (absurd rfl ‹_›)), rfl, rfl⟩, .inl (Ret.mk' [] (by kernel_rfl) (by kernel_rfl) (by kernel_rfl))⟩
        · refine CH.alt 46 (sV (.bool (!(allEq (paR (l.map toTx) ((toTx t))) (paR (l.map toTx) ((toTx t))))))) (sV (.bool false)) (by kernel_rfl) (by rw [hb41]) ?_
          refine CH.alt 47 (sV (.bool (!(allEq (paR (l.map toTx) ((toTx t))) (paR (l.map toTx) ((toTx t))))))) (sV (.bool false)) (by kernel_rfl) (by rw [hb41]) ?_
          replace hb41 := bnot_no (hb41)
          refine CH.go 2 hτ (by kernel_rfl) ?_
          refine CH.eqB (t := 4) (ng := true) (a := (paOk (l.map toTx) ((toTx t)))) (b := (paOk (l.map toTx) ((toTx t)))) (by kernel_rfl) (by kernel_rfl) Try.underlying4 ?_
          refine CH.go 1 hτ (by kernel_rfl) ?_
          refine CH.endk ⟨[(0, lV (l.map d33)), (3, .pt 64 0 0), (6, rV 368), (7, bV (paOk (l.map toTx) ((toTx t)))), (8, rV 480), (9, rV 560), (10, bV (paOk (l.map toTx) ((toTx t)))), (51, bV (!((paOk (l.map toTx) ((toTx t))) == (paOk (l.map toTx) ((toTx t))))))], [(64, some (.box (cD (d33 t)))), (368, some (.row 5 26 ((paR (l.map toTx) ((toTx t))).map d26) false true)), (480, some (.row 5 26 ((l.map toTx).map d26) false true)), (560, some (.row 5 26 ((paR (l.map toTx) ((toTx t))).map d26) false true))], 800⟩ (by kernel_rfl) (by kernel_rfl) rfl ?_
          refine X.if_ (b := !((paOk (l.map toTx) ((toTx t))) == (paOk (l.map toTx) ((toTx t))))) (by kernel_rfl) (fun hb42 => ?_) (fun hb42 => ?_)
          · replace hb42 := beq_eq_false_iff_ne.1 (bnot_yes (hb42))
            refine X.seq ?_
            refine X.rk ⟨[(4, bV false)], [], 816⟩ hτ hmix (by kernel_rfl) (by kernel_rfl) rfl ?_
            refine X.ret ?_
            exact ⟨trivial, _, _, ⟨false, (by first | exact rfl | exact (by exfalso; omega) | exact (tf (allEq_self _) ‹_›) | exact (absurd rfl ‹_›)), rfl, rfl⟩, .inl (Ret.mk' [] (by kernel_rfl) (by kernel_rfl) (by kernel_rfl))⟩
          · replace hb42 := eq_of_beq (bnot_no (hb42))
            refine X.skip ?_
            refine X.seq ?_
            refine X.seq ?_
            refine X.rs 2 hτ hmix (by kernel_rfl) ?_
            obtain ⟨r43, hr45, hf44⟩ := l_toTxS l (by first | assumption | omega)
            replace hr45 := hr45.symm; subst hr45
            have hlm : (l.map toTx).length = l.length := List.length_map ..
            refine CH.call hf44 Try.func17 ⟨rfl, rfl⟩ [] (by kernel_rfl) (by kernel_rfl) (by kernel_rfl) (by kernel_rfl) ?_
            obtain ⟨r47, hr49, hf48⟩ := l_eqTxS (l.map toTx) (l.map toTx) (by first | assumption | omega) (by first | assumption | omega)
            replace hr49 := hr49.symm; subst hr49
            refine CH.call hf48 Try.func19 ⟨rfl, rfl⟩ [] (by kernel_rfl) (by kernel_rfl) (by kernel_rfl) (by kernel_rfl) ?_
            refine CH.go 1 hτ (by kernel_rfl) ?_
            refine CH.endk ⟨[(0, lV (l.map d33)), (3, .pt 64 0 0), (6, rV 368), (7, bV (paOk (l.map toTx) ((toTx t)))), (8, rV 480), (9, rV 560), (10, bV (paOk (l.map toTx) ((toTx t)))), (56, bV (!(allEq (l.map toTx) (l.map toTx))))], [(64, some (.box (cD (d33 t)))), (368, some (.row 5 26 ((paR (l.map toTx) ((toTx t))).map d26) false true)), (480, some (.row 5 26 ((l.map toTx).map d26) false true)), (560, some (.row 5 26 ((paR (l.map toTx) ((toTx t))).map d26) false true))], 880⟩ (by kernel_rfl) (by kernel_rfl) rfl ?_
            refine X.if_ (b := !(allEq (l.map toTx) (l.map toTx))) (by kernel_rfl) (fun hb51 => ?_) (fun hb51 => ?_)
            · replace hb51 := bnot_yes (hb51)
              refine X.seq ?_
              refine X.rk ⟨[(4, bV false)], [], 896⟩ hτ hmix (by kernel_rfl) (by kernel_rfl) rfl ?_
              refine X.ret ?_
              exact ⟨trivial, _, _, ⟨false, (by first | exact rfl | exact (by exfalso; omega) | exact (tf (allEq_self _) ‹_›) | exact (absurd rfl ‹_›)), rfl, rfl⟩, .inl (Ret.mk' [] (by kernel_rfl) (by kernel_rfl) (by kernel_rfl))⟩
            · replace hb51 := bnot_no (hb51)
              refine X.skip ?_
              refine X.seq ?_
              refine X.rk ⟨[(0, lV (l.map d33)), (3, .pt 64 0 0), (6, rV 368), (7, bV (paOk (l.map toTx) ((toTx t)))), (8, rV 480), (9, rV 560), (10, bV (paOk (l.map toTx) ((toTx t)))), (11, iV 1)], [(64, some (.box (cD (d33 t)))), (368, some (.row 5 26 ((paR (l.map toTx) ((toTx t))).map d26) false true)), (480, some (.row 5 26 ((l.map toTx).map d26) false true)), (560, some (.row 5 26 ((paR (l.map toTx) ((toTx t))).map d26) false true))], 896⟩ hτ hmix (by kernel_rfl) (by kernel_rfl) rfl ?_
              refine X.seq ?_
              refine X.rs 2 hτ hmix (by kernel_rfl) ?_
              obtain ⟨r52, q53, hr55, hf54⟩ := l_markTxS (l.map toTx) 1 (by first | assumption | omega) (by omega)
              obtain ⟨hql, hqk, hqm⟩ := hr55
              refine CH.callB hf54 Try.func20 ⟨rfl, rfl⟩ 480 5 26 ((l.map toTx).map d26) true 26 (q53.map d26) (by kernel_rfl) (by kernel_rfl) (by kernel_rfl) (by kernel_rfl) (by kernel_rfl) (by first | (simp; done) | (simp; omega)) (by kernel_rfl) ?_
              refine CH.go 1 hτ (by kernel_rfl) ?_
              refine CH.endk ⟨[(0, lV (l.map d33)), (3, .pt 64 0 0), (6, rV 368), (7, bV (paOk (l.map toTx) ((toTx t)))), (9, rV 560), (10, bV (paOk (l.map toTx) ((toTx t)))), (11, iV r52)], [(64, some (.box (cD (d33 t)))), (368, some (.row 5 26 ((paR (l.map toTx) ((toTx t))).map d26) false true)), (560, some (.row 5 26 ((paR (l.map toTx) ((toTx t))).map d26) false true))], 960⟩ (by kernel_rfl) (by kernel_rfl) rfl ?_
              refine X.seq ?_
              refine X.seq ?_
              refine X.rs 3 hτ hmix (by kernel_rfl) ?_
              rcases Bool.eq_false_or_eq_true (decide ((r52 : Int) < 0)) with hb56 | hb56
              · refine CH.alt 61 (sV (.bool (decide ((r52 : Int) < 0)))) (sV (.bool true)) (by kernel_rfl) (by rw [hb56]) ?_
                refine CH.alt 62 (sV (.bool (decide ((r52 : Int) < 0)))) (sV (.bool true)) (by kernel_rfl) (by rw [hb56]) ?_
                replace hb56 := of_decide_eq_true (hb56)
                refine CH.go 10 hτ (by kernel_rfl) ?_
                refine CH.endk ⟨[(0, lV (l.map d33)), (3, .pt 64 0 0), (6, rV 368), (7, bV (paOk (l.map toTx) ((toTx t)))), (9, rV 560), (72, bV true)], [(64, some (.box (cD (d33 t)))), (368, some (.row 5 26 ((paR (l.map toTx) ((toTx t))).map d26) false true)), (560, some (.row 5 26 ((paR (l.map toTx) ((toTx t))).map d26) false true))], 1168⟩ (by kernel_rfl) (by kernel_rfl) rfl ?_
                refine X.ifT (by kernel_rfl) ?_
                refine X.seq ?_
                refine X.rk ⟨[(4, bV false)], [], 1184⟩ hτ hmix (by kernel_rfl) (by kernel_rfl) rfl ?_
                refine X.ret ?_
                exact ⟨trivial, _, _, ⟨false, (by first | exact rfl | exact (by exfalso; omega) | exact (tf (allEq_self _) ‹_›) | exact (absurd rfl ‹_›)), rfl, rfl⟩, .inl (Ret.mk' [] (by kernel_rfl) (by kernel_rfl) (by kernel_rfl))⟩
              · refine CH.alt 61 (sV (.bool (decide ((r52 : Int) < 0)))) (sV (.bool false)) (by kernel_rfl) (by rw [hb56]) ?_
                refine CH.alt 62 (sV (.bool (decide ((r52 : Int) < 0)))) (sV (.bool false)) (by kernel_rfl) (by rw [hb56]) ?_
                replace hb56 := of_decide_eq_false (hb56)
                refine CH.go 2 hτ (by kernel_rfl) ?_
                obtain ⟨r57, hr59, hf58⟩ := l_eqTxS (paR (l.map toTx) ((toTx t))) (paR (l.map toTx) ((toTx t))) (by first | assumption | omega) (by first | assumption | omega)
                replace hr59 := hr59.symm; subst hr59
                refine CH.call hf58 Try.func19 ⟨rfl, rfl⟩ [] (by kernel_rfl) (by kernel_rfl) (by kernel_rfl) (by kernel_rfl) ?_
                refine CH.go 3 hτ (by kernel_rfl) ?_
                rcases Bool.eq_false_or_eq_true (!(allEq (paR (l.map toTx) ((toTx t))) (paR (l.map toTx) ((toTx t))))) with hb61 | hb61
                · refine CH.alt 66 (sV (.bool (!(allEq (paR (l.map toTx) ((toTx t))) (paR (l.map toTx) ((toTx t))))))) (sV (.bool true)) (by kernel_rfl) (by rw [hb61]) ?_
                  refine CH.alt 67 (sV (.bool (!(allEq (paR (l.map toTx) ((toTx t))) (paR (l.map toTx) ((toTx t))))))) (sV (.bool true)) (by kernel_rfl) (by rw [hb61]) ?_
                  refine CH.alt 68 (sV (.bool (!(allEq (paR (l.map toTx) ((toTx t))) (paR (l.map toTx) ((toTx t))))))) (sV (.bool true)) (by kernel_rfl) (by rw [hb61]) ?_
                  replace hb61 := bnot_yes (hb61)
                  refine CH.go 4 hτ (by kernel_rfl) ?_
                  refine CH.endk ⟨[(0, lV (l.map d33)), (3, .pt 64 0 0), (6, rV 368), (7, bV (paOk (l.map toTx) ((toTx t)))), (9, rV 560), (72, bV true)], [(64, some (.box (cD (d33 t)))), (368, some (.row 5 26 ((paR (l.map toTx) ((toTx t))).map d26) false true)), (560, some (.row 5 26 ((paR (l.map toTx) ((toTx t))).map d26) false true))], 1168⟩ (by kernel_rfl) (by kernel_rfl) rfl ?_
                  refine X.ifT (by kernel_rfl) ?_
                  refine X.seq ?_
                  refine X.rk ⟨[(4, bV false)], [], 1184⟩ hτ hmix (by kernel_rfl) (by kernel_rfl) rfl ?_
                  refine X.ret ?_
                  exact ⟨trivial, _, _, ⟨false, (by first | exact rfl | exact (by exfalso; omega) | exact (tf (allEq_self _) ‹_›) | exact (absurd rfl ‹_›)), rfl, rfl⟩, .inl (Ret.mk' [] (by kernel_rfl) (by kernel_rfl) (by kernel_rfl))⟩
                · refine CH.alt 66 (sV (.bool (!(allEq (paR (l.map toTx) ((toTx t))) (paR (l.map toTx) ((toTx t))))))) (sV (.bool false)) (by kernel_rfl) (by rw [hb61]) ?_
                  refine CH.alt 67 (sV (.bool (!(allEq (paR (l.map toTx) ((toTx t))) (paR (l.map toTx) ((toTx t))))))) (sV (.bool false)) (by kernel_rfl) (by rw [hb61]) ?_
                  refine CH.alt 68 (sV (.bool (!(allEq (paR (l.map toTx) ((toTx t))) (paR (l.map toTx) ((toTx t))))))) (sV (.bool false)) (by kernel_rfl) (by rw [hb61]) ?_
                  replace hb61 := bnot_no (hb61)
                  refine CH.go 2 hτ (by kernel_rfl) ?_
                  refine CH.eqB (t := 4) (ng := true) (a := (paOk (l.map toTx) ((toTx t)))) (b := (paOk (l.map toTx) ((toTx t)))) (by kernel_rfl) (by kernel_rfl) Try.underlying4 ?_
                  refine CH.go 1 hτ (by kernel_rfl) ?_
                  refine CH.endk ⟨[(0, lV (l.map d33)), (3, .pt 64 0 0), (6, rV 368), (7, bV (paOk (l.map toTx) ((toTx t)))), (9, rV 560), (72, bV (!((paOk (l.map toTx) ((toTx t))) == (paOk (l.map toTx) ((toTx t))))))], [(64, some (.box (cD (d33 t)))), (368, some (.row 5 26 ((paR (l.map toTx) ((toTx t))).map d26) false true)), (560, some (.row 5 26 ((paR (l.map toTx) ((toTx t))).map d26) false true))], 1168⟩ (by kernel_rfl) (by kernel_rfl) rfl ?_
                  refine X.if_ (b := !((paOk (l.map toTx) ((toTx t))) == (paOk (l.map toTx) ((toTx t))))) (by kernel_rfl) (fun hb62 => ?_) (fun hb62 => ?_)
                  · replace hb62 := beq_eq_false_iff_ne.1 (bnot_yes (hb62))
                    refine X.seq ?_
                    refine X.rk ⟨[(4, bV false)], [], 1184⟩ hτ hmix (by kernel_rfl) (by kernel_rfl) rfl ?_
                    refine X.ret ?_
                    exact ⟨trivial, _, _, ⟨false, (by first | exact rfl | exact (by exfalso; omega) | exact (tf (allEq_self _) ‹_›) | exact (absurd rfl ‹_›)), rfl, rfl⟩, .inl (Ret.mk' [] (by kernel_rfl) (by kernel_rfl) (by kernel_rfl))⟩
                  · replace hb62 := eq_of_beq (bnot_no (hb62))
                    refine X.skip ?_
                    refine X.seq ?_
                    refine X.rk ⟨[(0, lV (l.map d33)), (3, .pt 64 0 0), (6, rV 368), (7, bV (paOk (l.map toTx) ((toTx t)))), (9, rV 560), (12, iV 1)], [(64, some (.box (cD (d33 t)))), (368, some (.row 5 26 ((paR (l.map toTx) ((toTx t))).map d26) false true)), (560, some (.row 5 26 ((paR (l.map toTx) ((toTx t))).map d26) false true))], 1184⟩ hτ hmix (by kernel_rfl) (by kernel_rfl) rfl ?_
                    refine X.seq ?_
                    refine X.rs 2 hτ hmix (by kernel_rfl) ?_
                    obtain ⟨r63, q64, hr66, hf65⟩ := l_markTxS (paR (l.map toTx) ((toTx t))) 1 (by first | assumption | omega) (by omega)
                    obtain ⟨hql, hqk, hqm⟩ := hr66
                    refine CH.callB hf65 Try.func20 ⟨rfl, rfl⟩ 560 5 26 ((paR (l.map toTx) ((toTx t))).map d26) true 26 (q64.map d26) (by kernel_rfl) (by kernel_rfl) (by kernel_rfl) (by kernel_rfl) (by kernel_rfl) (by first | (simp; done) | (simp; omega)) (by kernel_rfl) ?_
                    refine CH.go 1 hτ (by kernel_rfl) ?_
                    refine CH.endk ⟨[(0, lV (l.map d33)), (3, .pt 64 0 0), (6, rV 368), (7, bV (paOk (l.map toTx) ((toTx t)))), (9, rV 560), (12, iV r63)], [(64, some (.box (cD (d33 t)))), (368, some (.row 5 26 ((paR (l.map toTx) ((toTx t))).map d26) false true)), (560, some (.row 5 26 (q64.map d26) false true))], 1248⟩ (by kernel_rfl) (by kernel_rfl) rfl ?_
                    refine X.seq ?_
                    refine X.rk ⟨[(0, lV (l.map d33)), (3, .pt 64 0 0), (6, rV 368), (7, bV (paOk (l.map toTx) ((toTx t)))), (9, rV 560), (12, iV r63), (13, iV 1)], [(64, some (.box (cD (d33 t)))), (368, some (.row 5 26 ((paR (l.map toTx) ((toTx t))).map d26) false true)), (560, some (.row 5 26 (q64.map d26) false true))], 1264⟩ hτ hmix (by kernel_rfl) (by kernel_rfl) rfl ?_
                    refine X.seq ?_
                    refine X.rs 2 hτ hmix (by kernel_rfl) ?_
                    obtain ⟨r67, hr69, hf68⟩ := l_heldTxS q64 1 (by first | assumption | omega) (by omega)
                    have hhd := hr69
                    refine CH.call hf68 Try.func21 ⟨rfl, rfl⟩ [] (by kernel_rfl) (by kernel_rfl) (by kernel_rfl) (by kernel_rfl) ?_
                    refine CH.go 1 hτ (by kernel_rfl) ?_
                    refine CH.endk ⟨[(0, lV (l.map d33)), (3, .pt 64 0 0), (6, rV 368), (7, bV (paOk (l.map toTx) ((toTx t)))), (9, rV 560), (12, iV r63), (13, iV r67)], [(64, some (.box (cD (d33 t)))), (368, some (.row 5 26 ((paR (l.map toTx) ((toTx t))).map d26) false true)), (560, some (.row 5 26 (q64.map d26) false true))], 1328⟩ (by kernel_rfl) (by kernel_rfl) rfl ?_
                    refine X.seq ?_
                    refine X.seq ?_
                    have hh := hhd (by rw [hql]; exact hqm)
                    refine X.rk ⟨[(0, lV (l.map d33)), (3, .pt 64 0 0), (6, rV 368), (7, bV (paOk (l.map toTx) ((toTx t)))), (9, rV 560), (12, iV r63), (13, iV r67), (80, bV (decide ((r67 : Int) < 0)))], [(64, some (.box (cD (d33 t)))), (368, some (.row 5 26 ((paR (l.map toTx) ((toTx t))).map d26) false true)), (560, some (.row 5 26 (q64.map d26) false true))], 1360⟩ hτ hmix (by kernel_rfl) (by kernel_rfl) rfl ?_
                    refine X.if_ (b := decide ((r67 : Int) < 0)) (by kernel_rfl) (fun hb70 => ?_) (fun hb70 => ?_)
                    · replace hb70 := of_decide_eq_true (hb70)
                      refine X.seq ?_
                      refine X.rk ⟨[(4, bV false)], [], 1376⟩ hτ hmix (by kernel_rfl) (by kernel_rfl) rfl ?_
                      refine X.ret ?_
                      exact ⟨trivial, _, _, ⟨false, (by first | exact rfl | exact (by exfalso; omega) | exact (tf (allEq_self _) ‹_›) | exact (absurd rfl ‹_›)), rfl, rfl⟩, .inl (Ret.mk' [] (by kernel_rfl) (by kernel_rfl) (by kernel_rfl))⟩
                    · replace hb70 := of_decide_eq_false (hb70)
                      refine X.skip ?_
                      refine X.seq ?_
                      refine X.seq ?_
                      refine X.rk ⟨[(0, lV (l.map d33)), (3, .pt 64 0 0), (6, rV 368), (7, bV (paOk (l.map toTx) ((toTx t)))), (9, rV 560), (12, iV r63), (83, bV (r67 != r63))], [(64, some (.box (cD (d33 t)))), (368, some (.row 5 26 ((paR (l.map toTx) ((toTx t))).map d26) false true)), (560, some (.row 5 26 (q64.map d26) false true))], 1408⟩ hτ hmix (by kernel_rfl) (by kernel_rfl) rfl ?_
                      refine X.if_ (b := (r67 != r63)) (by kernel_rfl) (fun hb71 => ?_) (fun hb71 => ?_)
                      · replace hb71 := bne_iff_ne.1 (hb71)
                        refine X.seq ?_
                        refine X.rk ⟨[(4, bV false)], [], 1424⟩ hτ hmix (by kernel_rfl) (by kernel_rfl) rfl ?_
                        refine X.ret ?_
                        exact ⟨trivial, _, _, ⟨false, (by first | exact rfl | exact (by exfalso; omega) | exact (tf (allEq_self _) ‹_›) | exact (absurd rfl ‹_›)), rfl, rfl⟩, .inl (Ret.mk' [] (by kernel_rfl) (by kernel_rfl) (by kernel_rfl))⟩
                      · replace hb71 := bne_eq_false_iff_eq.1 (hb71)
                        refine X.skip ?_
                        refine X.seq ?_
                        refine X.rs 1 hτ hmix (by kernel_rfl) ?_
                        obtain ⟨r72, hr74, hf73⟩ := l_toTxS l (by first | assumption | omega)
                        replace hr74 := hr74.symm; subst hr74
                        have hlm : (l.map toTx).length = l.length := List.length_map ..
                        refine CH.call hf73 Try.func17 ⟨rfl, rfl⟩ [] (by kernel_rfl) (by kernel_rfl) (by kernel_rfl) (by kernel_rfl) ?_
                        refine CH.go 1 hτ (by kernel_rfl) ?_
                        obtain ⟨r76, hr78, hf77⟩ := l_toTx t
                        replace hr78 := hr78.symm; subst hr78
                        refine CH.call hf77 Try.func18 ⟨rfl, rfl⟩ [] (by kernel_rfl) (by kernel_rfl) (by kernel_rfl) (by kernel_rfl) ?_
                        obtain ⟨r80, r81, hr83, hf82⟩ := i_PoolAdd (l.map toTx) ((toTx t)) (by assumption) (by assumption) (by omega)
                        obtain ⟨e84, e85⟩ := hr83
                        replace e84 := e84.symm; subst e84
                        replace e85 := e85.symm; subst e85
                        have hpl := paR_len (l.map toTx) ((toTx t))
                        refine CH.call hf82 Try.func12 ⟨rfl, rfl⟩ [] (by kernel_rfl) (by kernel_rfl) (by kernel_rfl) (by kernel_rfl) ?_
                        refine CH.go 5 hτ (by kernel_rfl) ?_
                        refine CH.endk ⟨[(6, rV 368), (7, bV (paOk (l.map toTx) ((toTx t)))), (9, rV 560), (12, iV r63), (14, rV 1472), (15, bV (paOk (l.map toTx) ((toTx t))))], [(368, some (.row 5 26 ((paR (l.map toTx) ((toTx t))).map d26) false true)), (560, some (.row 5 26 (q64.map d26) false true)), (1472, some (.row 5 26 ((paR (l.map toTx) ((toTx t))).map d26) false true))], 1568⟩ (by kernel_rfl) (by kernel_rfl) rfl ?_
                        refine X.seq ?_
                        refine X.seq ?_
                        refine X.rs 2 hτ hmix (by kernel_rfl) ?_
                        obtain ⟨r86, hr88, hf87⟩ := l_eqTxS (paR (l.map toTx) ((toTx t))) (paR (l.map toTx) ((toTx t))) (by first | assumption | omega) (by first | assumption | omega)
                        replace hr88 := hr88.symm; subst hr88
                        refine CH.call hf87 Try.func19 ⟨rfl, rfl⟩ [] (by kernel_rfl) (by kernel_rfl) (by kernel_rfl) (by kernel_rfl) ?_
                        refine CH.go 2 hτ (by kernel_rfl) ?_
                        rcases Bool.eq_false_or_eq_true (!(allEq (paR (l.map toTx) ((toTx t))) (paR (l.map toTx) ((toTx t))))) with hb90 | hb90
                        · refine CH.alt 95 (sV (.bool (!(allEq (paR (l.map toTx) ((toTx t))) (paR (l.map toTx) ((toTx t))))))) (sV (.bool true)) (by kernel_rfl) (by rw [hb90]) ?_
                          refine CH.alt 96 (sV (.bool (!(allEq (paR (l.map toTx) ((toTx t))) (paR (l.map toTx) ((toTx t))))))) (sV (.bool true)) (by kernel_rfl) (by rw [hb90]) ?_
                          replace hb90 := bnot_yes (hb90)
                          refine CH.go 4 hτ (by kernel_rfl) ?_
                          refine CH.endk ⟨[(9, rV 560), (12, iV r63), (100, bV true)], [(560, some (.row 5 26 (q64.map d26) false true))], 1712⟩ (by kernel_rfl) (by kernel_rfl) rfl ?_
                          refine X.ifT (by kernel_rfl) ?_
                          refine X.seq ?_
                          refine X.rk ⟨[(4, bV false)], [], 1728⟩ hτ hmix (by kernel_rfl) (by kernel_rfl) rfl ?_
                          refine X.ret ?_
                          exact ⟨trivial, _, _, ⟨false, (by first | exact rfl | exact (by exfalso; omega) | exact (tf (allEq_self _) ‹_›) | exact (absurd rfl ‹_›)), rfl, rfl⟩, .inl (Ret.mk' [] (by kernel_rfl) (by kernel_rfl) (by kernel_rfl))⟩
                        · refine CH.alt 95 (sV (.bool (!(allEq (paR (l.map toTx) ((toTx t))) (paR (l.map toTx) ((toTx t))))))) (sV (.bool false)) (by kernel_rfl) (by rw [hb90]) ?_
                          refine CH.alt 96 (sV (.bool (!(allEq (paR (l.map toTx) ((toTx t))) (paR (l.map toTx) ((toTx t))))))) (sV (.bool false)) (by kernel_rfl) (by rw [hb90]) ?_
                          replace hb90 := bnot_no (hb90)
                          refine CH.go 2 hτ (by kernel_rfl) ?_
                          refine CH.eqB (t := 4) (ng := true) (a := (paOk (l.map toTx) ((toTx t)))) (b := (paOk (l.map toTx) ((toTx t)))) (by kernel_rfl) (by kernel_rfl) Try.underlying4 ?_
                          refine CH.go 1 hτ (by kernel_rfl) ?_
                          refine CH.endk ⟨[(9, rV 560), (12, iV r63), (100, bV (!((paOk (l.map toTx) ((toTx t))) == (paOk (l.map toTx) ((toTx t))))))], [(560, some (.row 5 26 (q64.map d26) false true))], 1712⟩ (by kernel_rfl) (by kernel_rfl) rfl ?_
                          refine X.if_ (b := !((paOk (l.map toTx) ((toTx t))) == (paOk (l.map toTx) ((toTx t))))) (by kernel_rfl) (fun hb91 => ?_) (fun hb91 => ?_)
                          · replace hb91 := beq_eq_false_iff_ne.1 (bnot_yes (hb91))
                            refine X.seq ?_
                            refine X.rk ⟨[(4, bV false)], [], 1728⟩ hτ hmix (by kernel_rfl) (by kernel_rfl) rfl ?_
                            refine X.ret ?_
                            exact ⟨trivial, _, _, ⟨false, (by first | exact rfl | exact (by exfalso; omega) | exact (tf (allEq_self _) ‹_›) | exact (absurd rfl ‹_›)), rfl, rfl⟩, .inl (Ret.mk' [] (by kernel_rfl) (by kernel_rfl) (by kernel_rfl))⟩
                          · replace hb91 := eq_of_beq (bnot_no (hb91))
                            refine X.skip ?_
                            refine X.seq ?_
                            refine X.rk ⟨[(9, rV 560), (12, iV r63), (13, iV 1)], [(560, some (.row 5 26 (q64.map d26) false true))], 1728⟩ hτ hmix (by kernel_rfl) (by kernel_rfl) rfl ?_
                            refine X.seq ?_
                            refine X.rs 2 hτ hmix (by kernel_rfl) ?_
                            obtain ⟨r92, hr94, hf93⟩ := l_heldTxS q64 1 (by first | assumption | omega) (by omega)
                            have hhd := hr94
                            refine CH.call hf93 Try.func21 ⟨rfl, rfl⟩ [] (by kernel_rfl) (by kernel_rfl) (by kernel_rfl) (by kernel_rfl) ?_
                            refine CH.go 1 hτ (by kernel_rfl) ?_
                            refine CH.endk ⟨[(12, iV r63), (13, iV r92)], [], 1792⟩ (by kernel_rfl) (by kernel_rfl) rfl ?_
                            refine X.seq ?_
                            refine X.seq ?_
                            have hh := hhd (by rw [hql]; exact hqm)
                            refine X.rk ⟨[(12, iV r63), (13, iV r92), (105, bV (decide ((r92 : Int) < 0)))], [], 1824⟩ hτ hmix (by kernel_rfl) (by kernel_rfl) rfl ?_
                            refine X.if_ (b := decide ((r92 : Int) < 0)) (by kernel_rfl) (fun hb95 => ?_) (fun hb95 => ?_)
                            · replace hb95 := of_decide_eq_true (hb95)
                              refine X.seq ?_
                              refine X.rk ⟨[(4, bV false)], [], 1840⟩ hτ hmix (by kernel_rfl) (by kernel_rfl) rfl ?_
                              refine X.ret ?_
                              exact ⟨trivial, _, _, ⟨false, (by first | exact rfl | exact (by exfalso; omega) | exact (tf (allEq_self _) ‹_›) | exact (absurd rfl ‹_›)), rfl, rfl⟩, .inl (Ret.mk' [] (by kernel_rfl) (by kernel_rfl) (by kernel_rfl))⟩
                            · replace hb95 := of_decide_eq_false (hb95)
                              refine X.skip ?_
                              refine X.seq ?_
                              refine X.seq ?_
                              refine X.rk ⟨[(108, bV (r92 != r63))], [], 1872⟩ hτ hmix (by kernel_rfl) (by kernel_rfl) rfl ?_
                              refine X.if_ (b := (r92 != r63)) (by kernel_rfl) (fun hb96 => ?_) (fun hb96 => ?_)
                              · replace hb96 := bne_iff_ne.1 (hb96)
                                refine X.seq ?_
                                refine X.rk ⟨[(4, bV false)], [], 1888⟩ hτ hmix (by kernel_rfl) (by kernel_rfl) rfl ?_
                                refine X.ret ?_
                                exact ⟨trivial, _, _, ⟨false, (by first | exact rfl | exact (by exfalso; omega) | exact (tf (allEq_self _) ‹_›) | exact (absurd rfl ‹_›)), rfl, rfl⟩, .inl (Ret.mk' [] (by kernel_rfl) (by kernel_rfl) (by kernel_rfl))⟩
                              · replace hb96 := bne_eq_false_iff_eq.1 (hb96)
                                refine X.skip ?_
                                refine X.seq ?_
                                refine X.rk ⟨[(4, bV true)], [], 1888⟩ hτ hmix (by kernel_rfl) (by kernel_rfl) rfl ?_
                                refine X.ret ?_
                                exact ⟨trivial, _, _, ⟨true, (by first | exact rfl | exact (by exfalso; omega) | exact (tf (allEq_self _) ‹_›) | exact (absurd rfl ‹_›)), rfl, rfl⟩, .inl (Ret.mk' [] (by kernel_rfl) (by kernel_rfl) (by kernel_rfl))⟩
  obtain ⟨_, _, ⟨r0, q1, rfl, rfl⟩, hf⟩ := key
  exact ⟨r0, q1, hf⟩
end Go.Proofs.Ytnieghbgcjbnhaa.Av
