/-
What functions of the program come to, walked one by one.
Conditions: none beside those that each theorem names.
-/
import Derived.Test.YtnieghbgcjbnhaaAvSG
set_option linter.unusedVariables false
set_option linter.unusedSimpArgs false
namespace Go.Proofs.Ytnieghbgcjbnhaa.Av
open Go.RowKit
set_option maxRecDepth 20000
set_option maxHeartbeats 4000000
theorem l_FnRead (code : List Int) (hl : code.length ≤ 4611686018427387904) : ∃ r0 : Bool, (r0 = true) ∧ Fn Try.prog 7 [lV (code.map dB)] (lookH []) (bV r0) (lookH []) := by
  have key : ∃ x' h', ((fun x' h' => ∃ r0 : Bool, (r0 = true) ∧ x' = bV r0 ∧ h' = [])) x' h' ∧ Fn Try.prog 7 [lV (code.map dB)] (lookH []) x' (lookH h') := by
    refine Fn.bodyX (N := 39) hτ Try.func7 rfl rfl rfl rfl ?_
    refine X.seq ?_
    refine X.rk ⟨[(0, lV (code.map dB))], [], 80⟩ hτ hmix (by kernel_rfl) (by kernel_rfl) rfl ?_
    refine X.seq ?_
    refine X.seq ?_
    refine X.rs 1 hτ hmix (by kernel_rfl) ?_
    obtain ⟨r1, hr3, hf2⟩ := l_big code (by assumption)
    refine CH.call hf2 Try.func10 ⟨rfl, rfl⟩ [] (by kernel_rfl) (by kernel_rfl) (by kernel_rfl) (by kernel_rfl) ?_
    refine CH.endk ⟨[(0, lV (code.map dB)), (9, bV r1)], [], 112⟩ (by kernel_rfl) (by kernel_rfl) rfl ?_
    refine X.if_ (b := r1) (by kernel_rfl) (fun hb4 => ?_) (fun hb4 => ?_)
    · refine X.seq ?_
      refine X.rk ⟨[(2, bV true)], [], 128⟩ hτ hmix (by kernel_rfl) (by kernel_rfl) rfl ?_
      refine X.ret ?_
      exact ⟨trivial, _, _, ⟨true, (by first | exact rfl | exact (absurd (gb_same hgb hgc) ‹_›) | exact (absurd (congrArg (fun z => (strOf z).toList) (rd_put (hgb.1 ‹_›))) (by assumption)) | exact (tf (hgb.1 ‹_›).1 ‹_›) | exact ((hgb.1 ‹_›).1)), rfl, rfl⟩, .inl (Ret.mk' [] (by kernel_rfl) (by kernel_rfl) (by kernel_rfl))⟩
    · refine X.skip ?_
      refine X.seq ?_
      refine X.rs 1 hτ hmix (by kernel_rfl) ?_
      obtain ⟨r5, hr7, hf6⟩ := s_DrawGetBlock code (by first | omega | (simp; done) | (simp; omega))
      obtain ⟨hu, hul⟩ := hr7
      refine CH.call hf6 Try.func35 ⟨rfl, rfl⟩ [] (by kernel_rfl) (by kernel_rfl) (by kernel_rfl) (by kernel_rfl) ?_
      refine CH.go 1 hτ (by kernel_rfl) ?_
      refine CH.endk ⟨[(3, .e (.c (.f (.sl (r5.map dB)))))], [], 160⟩ (by kernel_rfl) (by kernel_rfl) rfl ?_
      refine X.seq ?_
      refine X.rs 1 hτ hmix (by kernel_rfl) ?_
      obtain ⟨r8, r9, hr11, hf10⟩ := i_GetBlock r5 (by first | omega | assumption) (by assumption)
      obtain ⟨hgbs, hgb⟩ := hr11
      refine CH.call hf10 Try.func26 ⟨rfl, rfl⟩ [] (by kernel_rfl) (by kernel_rfl) (by kernel_rfl) (by kernel_rfl) ?_
      refine CH.go 6 hτ (by kernel_rfl) ?_
      refine CH.endk ⟨[(3, .e (.c (.f (.sl (r5.map dB))))), (4, .pt 240 0 0), (5, bV r9)], [(240, some (.box [.d (.v (.int .i64 r8.f0)), .d (.v (.int .i64 r8.f1)), .d (.v (.int .i64 r8.f2)), .d (.v (.string r8.f3)), .d (.v (.int .i64 r8.f4.f0)), .d (.v (.int .i64 r8.f4.f1)), .f (.sl (r8.f4.f2.map dS)), .d (.v (.int .i64 r8.f5.f0)), .f (.sl (r8.f5.f1.map dS)), .f (.sl (r8.f5.f2.map dI)), .f (.sl (r8.f6.map d26)), .d (.v (.bool r8.f7)), .f (.sl (r8.f8.map d107)), .d (.v (.string r8.f9))]))], 288⟩ (by kernel_rfl) (by kernel_rfl) rfl ?_
      refine X.seq ?_
      refine X.rs 1 hτ hmix (by kernel_rfl) ?_
      obtain ⟨r12, r13, hr15, hf14⟩ := s_GetBlock r5 (by first | omega | assumption) (by assumption)
      obtain ⟨hgcs, hgc⟩ := hr15
      refine CH.call hf14 Try.func36 ⟨rfl, rfl⟩ [] (by kernel_rfl) (by kernel_rfl) (by kernel_rfl) (by kernel_rfl) ?_
      refine CH.go 6 hτ (by kernel_rfl) ?_
      refine CH.endk ⟨[(3, .e (.c (.f (.sl (r5.map dB))))), (4, .pt 240 0 0), (5, bV r9), (7, bV r13)], [(240, some (.box [.d (.v (.int .i64 r8.f0)), .d (.v (.int .i64 r8.f1)), .d (.v (.int .i64 r8.f2)), .d (.v (.string r8.f3)), .d (.v (.int .i64 r8.f4.f0)), .d (.v (.int .i64 r8.f4.f1)), .f (.sl (r8.f4.f2.map dS)), .d (.v (.int .i64 r8.f5.f0)), .f (.sl (r8.f5.f1.map dS)), .f (.sl (r8.f5.f2.map dI)), .f (.sl (r8.f6.map d26)), .d (.v (.bool r8.f7)), .f (.sl (r8.f8.map d107)), .d (.v (.string r8.f9))]))], 416⟩ (by kernel_rfl) (by kernel_rfl) rfl ?_
      refine X.seq ?_
      refine X.seq ?_
      refine X.rs 2 hτ hmix (by kernel_rfl) ?_
      refine CH.eqB (t := 4) (ng := true) (a := r9) (b := r13) (by kernel_rfl) (by kernel_rfl) Try.underlying4 ?_
      refine CH.endk ⟨[(3, .e (.c (.f (.sl (r5.map dB))))), (4, .pt 240 0 0), (5, bV r9), (24, bV (!(r9 == r13)))], [(240, some (.box [.d (.v (.int .i64 r8.f0)), .d (.v (.int .i64 r8.f1)), .d (.v (.int .i64 r8.f2)), .d (.v (.string r8.f3)), .d (.v (.int .i64 r8.f4.f0)), .d (.v (.int .i64 r8.f4.f1)), .f (.sl (r8.f4.f2.map dS)), .d (.v (.int .i64 r8.f5.f0)), .f (.sl (r8.f5.f1.map dS)), .f (.sl (r8.f5.f2.map dI)), .f (.sl (r8.f6.map d26)), .d (.v (.bool r8.f7)), .f (.sl (r8.f8.map d107)), .d (.v (.string r8.f9))]))], 464⟩ (by kernel_rfl) (by kernel_rfl) rfl ?_
      refine X.if_ (b := !(r9 == r13)) (by kernel_rfl) (fun hb16 => ?_) (fun hb16 => ?_)
      · replace hb16 := beq_eq_false_iff_ne.1 (bnot_yes (hb16))
        refine X.seq ?_
        refine X.rk ⟨[(2, bV false)], [], 480⟩ hτ hmix (by kernel_rfl) (by kernel_rfl) rfl ?_
        refine X.ret ?_
        exact ⟨trivial, _, _, ⟨false, (by first | exact rfl | exact (absurd (gb_same hgb hgc) ‹_›) | exact (absurd (congrArg (fun z => (strOf z).toList) (rd_put (hgb.1 ‹_›))) (by assumption)) | exact (tf (hgb.1 ‹_›).1 ‹_›) | exact ((hgb.1 ‹_›).1)), rfl, rfl⟩, .inl (Ret.mk' [] (by kernel_rfl) (by kernel_rfl) (by kernel_rfl))⟩
      · replace hb16 := eq_of_beq (bnot_no (hb16))
        refine X.skip ?_
        refine X.seq ?_
        refine X.rs 3 hτ hmix (by kernel_rfl) ?_
        rcases Bool.eq_false_or_eq_true (!r9) with hb17 | hb17
        · refine CH.alt 26 (sV (.bool (!r9))) (sV (.bool true)) (by kernel_rfl) (by rw [hb17]) ?_
          refine CH.alt 27 (sV (.bool (!r9))) (sV (.bool true)) (by kernel_rfl) (by rw [hb17]) ?_
          replace hb17 := bnot_yes (hb17)
          refine CH.go 12 hτ (by kernel_rfl) ?_
          refine CH.endk ⟨[(2, bV true)], [], 704⟩ (by kernel_rfl) (by kernel_rfl) rfl ?_
          refine X.ret ?_
          exact ⟨trivial, _, _, ⟨true, (by first | exact rfl | exact (absurd (gb_same hgb hgc) ‹_›) | exact (absurd (congrArg (fun z => (strOf z).toList) (rd_put (hgb.1 ‹_›))) (by assumption)) | exact (tf (hgb.1 ‹_›).1 ‹_›) | exact ((hgb.1 ‹_›).1)), rfl, rfl⟩, .inl (Ret.mk' [] (by kernel_rfl) (by kernel_rfl) (by kernel_rfl))⟩
        · refine CH.alt 26 (sV (.bool (!r9))) (sV (.bool false)) (by kernel_rfl) (by rw [hb17]) ?_
          refine CH.alt 27 (sV (.bool (!r9))) (sV (.bool false)) (by kernel_rfl) (by rw [hb17]) ?_
          replace hb17 := bnot_no (hb17)
          refine CH.go 1 hτ (by kernel_rfl) ?_
          obtain ⟨r18, hr20, hf19⟩ := i_PutBlock r8 (by exact hgbs)
          replace hr20 := hr20.symm; subst hr20
          refine CH.call hf19 Try.func23 ⟨rfl, rfl⟩ [] (by kernel_rfl) (by kernel_rfl) (by kernel_rfl) (by kernel_rfl) ?_
          refine CH.b2s hτ (cc := .f (.sl ((putB r8).map dB))) (ns := (putB r8)) (el := 5) (by kernel_rfl) (by kernel_rfl) Try.underlying5 ?_
          refine CH.go 1 hτ (by kernel_rfl) ?_
          refine CH.b2s hτ (cc := .f (.sl (r5.map dB))) (ns := r5) (el := 5) (by kernel_rfl) (by kernel_rfl) Try.underlying5 ?_
          refine CH.go 2 hτ (by kernel_rfl) ?_
          rcases Bool.eq_false_or_eq_true (((strOf (putB r8)).toList == (strOf r5).toList)) with hb22 | hb22
          · refine CH.alt 33 (sV (.bool (((strOf (putB r8)).toList == (strOf r5).toList)))) (sV (.bool true)) (by kernel_rfl) (by rw [hb22]) ?_
            refine CH.alt 34 (sV (.bool (((strOf (putB r8)).toList == (strOf r5).toList)))) (sV (.bool true)) (by kernel_rfl) (by rw [hb22]) ?_
            replace hb22 := beq_yes (hb22)
            refine CH.go 1 hτ (by kernel_rfl) ?_
            obtain ⟨r23, hr25, hf24⟩ := i_BlockOk r8 (by exact hgbs)
            replace hr25 := hr25.symm; subst hr25
            refine CH.call hf24 Try.func25 ⟨rfl, rfl⟩ [] (by kernel_rfl) (by kernel_rfl) (by kernel_rfl) (by kernel_rfl) ?_
            refine CH.go 3 hτ (by kernel_rfl) ?_
            refine CH.endk ⟨[(2, bV (blockOk r8))], [], 704⟩ (by kernel_rfl) (by kernel_rfl) rfl ?_
            refine X.ret ?_
            exact ⟨trivial, _, _, ⟨(blockOk r8), (by first | exact rfl | exact (absurd (gb_same hgb hgc) ‹_›) | exact (absurd (congrArg (fun z => (strOf z).toList) (rd_put (hgb.1 ‹_›))) (by assumption)) | exact (tf (hgb.1 ‹_›).1 ‹_›) | exact ((hgb.1 ‹_›).1)), rfl, rfl⟩, .inl (Ret.mk' [] (by kernel_rfl) (by kernel_rfl) (by kernel_rfl))⟩
          · refine CH.alt 33 (sV (.bool (((strOf (putB r8)).toList == (strOf r5).toList)))) (sV (.bool false)) (by kernel_rfl) (by rw [hb22]) ?_
            refine CH.alt 34 (sV (.bool (((strOf (putB r8)).toList == (strOf r5).toList)))) (sV (.bool false)) (by kernel_rfl) (by rw [hb22]) ?_
            replace hb22 := beq_no (hb22)
            refine CH.go 5 hτ (by kernel_rfl) ?_
            refine CH.endk ⟨[(2, bV false)], [], 704⟩ (by kernel_rfl) (by kernel_rfl) rfl ?_
            refine X.ret ?_
            exact ⟨trivial, _, _, ⟨false, (by first | exact rfl | exact (absurd (gb_same hgb hgc) ‹_›) | exact (absurd (congrArg (fun z => (strOf z).toList) (rd_put (hgb.1 ‹_›))) (by assumption)) | exact (tf (hgb.1 ‹_›).1 ‹_›) | exact ((hgb.1 ‹_›).1)), rfl, rfl⟩, .inl (Ret.mk' [] (by kernel_rfl) (by kernel_rfl) (by kernel_rfl))⟩
  obtain ⟨_, _, ⟨r0, q1, rfl, rfl⟩, hf⟩ := key
  exact ⟨r0, q1, hf⟩
end Go.Proofs.Ytnieghbgcjbnhaa.Av
