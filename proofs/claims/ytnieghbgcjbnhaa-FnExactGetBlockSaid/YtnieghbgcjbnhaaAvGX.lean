/-
What functions of the program come to, walked one by one.
Conditions: none beside those that each theorem names.
-/
import Derived.Test.YtnieghbgcjbnhaaAvGR
set_option linter.unusedVariables false
set_option linter.unusedSimpArgs false
namespace Go.Proofs.Ytnieghbgcjbnhaa.Av
open Go.RowKit
set_option maxRecDepth 20000
set_option maxHeartbeats 4000000
theorem l_FnExactGetBlock (l : List Int) (hwl : l.length ≤ maxLen ∧ ∀ y ∈ l, (Lit.int .u8 y).wf = true) : ∃ r0 : Bool, (r0 = true) ∧ Fn Try.prog 9 [lV (l.map dB)] (lookH []) (bV r0) (lookH []) := by
 have key : ∃ x' h', ((fun x' h' => ∃ r0 : Bool, (r0 = true) ∧ x' = bV r0 ∧ h' = [])) x' h' ∧ Fn Try.prog 9 [lV (l.map dB)] (lookH []) x' (lookH h') := by
  refine Fn.bodyX (N := 93) hτ Try.func9 rfl rfl rfl rfl ?_
  refine X.seq ?_
  refine X.rk ⟨[(0, lV (l.map dB))], [], 80⟩ hτ hmix (by kernel_rfl) (by kernel_rfl) rfl ?_
  refine X.seq ?_
  refine X.seq ?_
  have el1 : (l.map dB).length = l.length := List.length_map ..
  refine X.rk ⟨[(0, lV (l.map dB)), (15, bV (decide ((((l.map dB).length : Int) : Int) > 1048576)))], [], 128⟩ hτ hmix (by kernel_rfl) (by kernel_rfl) rfl ?_
  refine X.if_ (b := decide ((((l.map dB).length : Int) : Int) > 1048576)) (by kernel_rfl) (fun hb2 => ?_) (fun hb2 => ?_)
  ·replace hb2 := of_decide_eq_true (hb2)
   refine X.seq ?_
   refine X.rk ⟨[(2, bV true)], [], 144⟩ hτ hmix (by kernel_rfl) (by kernel_rfl) rfl ?_
   refine X.ret ?_
   exact ⟨trivial, _, _, ⟨true, (by first | exact rfl | exact (by exfalso; omega) | exact (tf (sameB_eq (gb_eq hgb hgz hgc hgw)) ‹_›) | exact (absurd (gb_same hgb hgc) ‹_›) | exact (tf (allEq_self _) ‹_›)), rfl, rfl⟩, .inl (Ret.mk' [] (by kernel_rfl) (by kernel_rfl) (by kernel_rfl))⟩
  ·replace hb2 := of_decide_eq_false (hb2)
   refine X.skip ?_
   refine X.seq ?_
   have hu := u8_wf hwl.2
   have hll : l.length ≤ 2000000 := by simp only [List.length_map] at *; omega
   refine X.rs 1 hτ hmix (by kernel_rfl) ?_
   obtain ⟨r3, hr5, hf4⟩ := l_toByteS l (by first | assumption | omega)
   replace hr5 := hr5.symm; subst hr5
   refine CH.call hf4 Try.func42 ⟨rfl, rfl⟩ [] (by kernel_rfl) (by kernel_rfl) (by kernel_rfl) (by kernel_rfl) ?_
   obtain ⟨r7, r8, hr10, hf9⟩ := s_GetBlock l (by first | omega | assumption) (by assumption)
   obtain ⟨hgcs, hgc, hgw⟩ := hr10
   refine CH.call hf9 Try.func36 ⟨rfl, rfl⟩ [] (by kernel_rfl) (by kernel_rfl) (by kernel_rfl) (by kernel_rfl) ?_
   refine CH.go 6 hτ (by kernel_rfl) ?_
   refine CH.endk ⟨[(0, lV (l.map dB)), (3, .pt 224 0 0), (4, bV r8)], [(224, some (.box [.d (.v (.int .i64 r7.f0)), .d (.v (.int .i64 r7.f1)), .d (.v (.int .i64 r7.f2)), .d (.v (.string r7.f3)), .d (.v (.int .i64 r7.f4.f0)), .d (.v (.int .i64 r7.f4.f1)), .f (.sl (r7.f4.f2.map dS)), .d (.v (.int .i64 r7.f5.f0)), .f (.sl (r7.f5.f1.map dS)), .f (.sl (r7.f5.f2.map dI)), .f (.sl (r7.f6.map d26)), .d (.v (.bool r7.f7)), .f (.sl (r7.f8.map d107)), .d (.v (.string r7.f9))]))], 272⟩ (by kernel_rfl) (by kernel_rfl) rfl ?_
   refine X.seq ?_
   refine X.rs 1 hτ hmix (by kernel_rfl) ?_
   obtain ⟨r11, hr13, hf12⟩ := l_toByteS l (by first | assumption | omega)
   replace hr13 := hr13.symm; subst hr13
   refine CH.call hf12 Try.func42 ⟨rfl, rfl⟩ [] (by kernel_rfl) (by kernel_rfl) (by kernel_rfl) (by kernel_rfl) ?_
   refine CH.go 1 hτ (by kernel_rfl) ?_
   refine CH.endk ⟨[(0, lV (l.map dB)), (3, .pt 224 0 0), (4, bV r8), (5, rV 288)], [(224, some (.box [.d (.v (.int .i64 r7.f0)), .d (.v (.int .i64 r7.f1)), .d (.v (.int .i64 r7.f2)), .d (.v (.string r7.f3)), .d (.v (.int .i64 r7.f4.f0)), .d (.v (.int .i64 r7.f4.f1)), .f (.sl (r7.f4.f2.map dS)), .d (.v (.int .i64 r7.f5.f0)), .f (.sl (r7.f5.f1.map dS)), .f (.sl (r7.f5.f2.map dI)), .f (.sl (r7.f6.map d26)), .d (.v (.bool r7.f7)), .f (.sl (r7.f8.map d107)), .d (.v (.string r7.f9))])), (288, some (.row 1 5 (l.map dB) false true))], 320⟩ (by kernel_rfl) (by kernel_rfl) rfl ?_
   refine X.seq ?_
   refine X.rs 1 hτ hmix (by kernel_rfl) ?_
   obtain ⟨r15, r16, hr18, hf17⟩ := i_GetBlockR l (by first | omega | assumption) (by assumption)
   obtain ⟨hgbs, hgb, hgz⟩ := hr18
   refine CH.call hf17 Try.func26 ⟨rfl, rfl⟩ [] (by kernel_rfl) (by kernel_rfl) (by kernel_rfl) (by kernel_rfl) ?_
   refine CH.go 6 hτ (by kernel_rfl) ?_
   refine CH.endk ⟨[(0, lV (l.map dB)), (3, .pt 224 0 0), (4, bV r8), (5, rV 288), (6, .pt 400 0 0), (7, bV r16)], [(224, some (.box [.d (.v (.int .i64 r7.f0)), .d (.v (.int .i64 r7.f1)), .d (.v (.int .i64 r7.f2)), .d (.v (.string r7.f3)), .d (.v (.int .i64 r7.f4.f0)), .d (.v (.int .i64 r7.f4.f1)), .f (.sl (r7.f4.f2.map dS)), .d (.v (.int .i64 r7.f5.f0)), .f (.sl (r7.f5.f1.map dS)), .f (.sl (r7.f5.f2.map dI)), .f (.sl (r7.f6.map d26)), .d (.v (.bool r7.f7)), .f (.sl (r7.f8.map d107)), .d (.v (.string r7.f9))])), (288, some (.row 1 5 (l.map dB) false true)), (336, some (.row 1 9 (r15.f4.f2.map dS) false true)), (337, some (.row 1 9 (r15.f5.f1.map dS) false true)), (338, some (.row 1 3 (r15.f5.f2.map dI) false true)), (339, some (.row 5 26 (r15.f6.map d26) false true)), (340, some (.row 2 107 (r15.f8.map d107) false true)), (400, some (.box [.d (.v (.int .i64 r15.f0)), .d (.v (.int .i64 r15.f1)), .d (.v (.int .i64 r15.f2)), .d (.v (.string r15.f3)), .d (.v (.int .i64 r15.f4.f0)), .d (.v (.int .i64 r15.f4.f1)), .ref 336, .d (.v (.int .i64 r15.f5.f0)), .ref 337, .ref 338, .ref 339, .d (.v (.bool r15.f7)), .ref 340, .d (.v (.string r15.f9))]))], 448⟩ (by kernel_rfl) (by kernel_rfl) rfl ?_
   refine X.seq ?_
   refine X.seq ?_
   have hgq := hgbs.2.1.1
   have hgt1 := hgbs.2.2.1.1.1
   have hgt2 := hgbs.2.2.1.2
   have hgx := hgbs.2.2.2.1.1
   have hgv := hgbs.2.2.2.2.1.1
   refine X.rs 2 hτ hmix (by kernel_rfl) ?_
   obtain ⟨r19, hr21, hf20⟩ := l_eqBlock r15 r7 (by assumption) (by assumption)
   replace hr21 := hr21.symm; subst hr21
   refine CH.call hf20 Try.func43 ⟨rfl, rfl⟩ [] (by kernel_rfl) (by kernel_rfl) (by kernel_rfl) (by kernel_rfl) ?_
   refine CH.go 2 hτ (by kernel_rfl) ?_
   rcases Bool.eq_false_or_eq_true (!(sameB r15 r7)) with hb23 | hb23
   ·refine CH.alt 32 (sV (.bool (!(sameB r15 r7)))) (sV (.bool true)) (by kernel_rfl) (by rw [hb23]) ?_
    refine CH.alt 33 (sV (.bool (!(sameB r15 r7)))) (sV (.bool true)) (by kernel_rfl) (by rw [hb23]) ?_
    replace hb23 := bnot_yes (hb23)
    refine CH.go 4 hτ (by kernel_rfl) ?_
    refine CH.endk ⟨[(0, lV (l.map dB)), (3, .pt 224 0 0), (4, bV r8), (5, rV 288), (6, .pt 400 0 0), (7, bV r16), (37, bV true)], [(224, some (.box [.d (.v (.int .i64 r7.f0)), .d (.v (.int .i64 r7.f1)), .d (.v (.int .i64 r7.f2)), .d (.v (.string r7.f3)), .d (.v (.int .i64 r7.f4.f0)), .d (.v (.int .i64 r7.f4.f1)), .f (.sl (r7.f4.f2.map dS)), .d (.v (.int .i64 r7.f5.f0)), .f (.sl (r7.f5.f1.map dS)), .f (.sl (r7.f5.f2.map dI)), .f (.sl (r7.f6.map d26)), .d (.v (.bool r7.f7)), .f (.sl (r7.f8.map d107)), .d (.v (.string r7.f9))])), (288, some (.row 1 5 (l.map dB) false true)), (336, some (.row 1 9 (r15.f4.f2.map dS) false true)), (337, some (.row 1 9 (r15.f5.f1.map dS) false true)), (338, some (.row 1 3 (r15.f5.f2.map dI) false true)), (339, some (.row 5 26 (r15.f6.map d26) false true)), (340, some (.row 2 107 (r15.f8.map d107) false true)), (400, some (.box [.d (.v (.int .i64 r15.f0)), .d (.v (.int .i64 r15.f1)), .d (.v (.int .i64 r15.f2)), .d (.v (.string r15.f3)), .d (.v (.int .i64 r15.f4.f0)), .d (.v (.int .i64 r15.f4.f1)), .ref 336, .d (.v (.int .i64 r15.f5.f0)), .ref 337, .ref 338, .ref 339, .d (.v (.bool r15.f7)), .ref 340, .d (.v (.string r15.f9))]))], 592⟩ (by kernel_rfl) (by kernel_rfl) rfl ?_
    refine X.ifT (by kernel_rfl) ?_
    refine X.seq ?_
    refine X.rk ⟨[(2, bV false)], [], 608⟩ hτ hmix (by kernel_rfl) (by kernel_rfl) rfl ?_
    refine X.ret ?_
    exact ⟨trivial, _, _, ⟨false, (by first | exact rfl | exact (by exfalso; omega) | exact (tf (sameB_eq (gb_eq hgb hgz hgc hgw)) ‹_›) | exact (absurd (gb_same hgb hgc) ‹_›) | exact (tf (allEq_self _) ‹_›)), rfl, rfl⟩, .inl (Ret.mk' [] (by kernel_rfl) (by kernel_rfl) (by kernel_rfl))⟩
   ·refine CH.alt 32 (sV (.bool (!(sameB r15 r7)))) (sV (.bool false)) (by kernel_rfl) (by rw [hb23]) ?_
    refine CH.alt 33 (sV (.bool (!(sameB r15 r7)))) (sV (.bool false)) (by kernel_rfl) (by rw [hb23]) ?_
    replace hb23 := bnot_no (hb23)
    refine CH.go 2 hτ (by kernel_rfl) ?_
    refine CH.eqB (t := 4) (ng := true) (a := r16) (b := r8) (by kernel_rfl) (by kernel_rfl) Try.underlying4 ?_
    refine CH.go 1 hτ (by kernel_rfl) ?_
    refine CH.endk ⟨[(0, lV (l.map dB)), (3, .pt 224 0 0), (4, bV r8), (5, rV 288), (6, .pt 400 0 0), (7, bV r16), (37, bV (!(r16 == r8)))], [(224, some (.box [.d (.v (.int .i64 r7.f0)), .d (.v (.int .i64 r7.f1)), .d (.v (.int .i64 r7.f2)), .d (.v (.string r7.f3)), .d (.v (.int .i64 r7.f4.f0)), .d (.v (.int .i64 r7.f4.f1)), .f (.sl (r7.f4.f2.map dS)), .d (.v (.int .i64 r7.f5.f0)), .f (.sl (r7.f5.f1.map dS)), .f (.sl (r7.f5.f2.map dI)), .f (.sl (r7.f6.map d26)), .d (.v (.bool r7.f7)), .f (.sl (r7.f8.map d107)), .d (.v (.string r7.f9))])), (288, some (.row 1 5 (l.map dB) false true)), (336, some (.row 1 9 (r15.f4.f2.map dS) false true)), (337, some (.row 1 9 (r15.f5.f1.map dS) false true)), (338, some (.row 1 3 (r15.f5.f2.map dI) false true)), (339, some (.row 5 26 (r15.f6.map d26) false true)), (340, some (.row 2 107 (r15.f8.map d107) false true)), (400, some (.box [.d (.v (.int .i64 r15.f0)), .d (.v (.int .i64 r15.f1)), .d (.v (.int .i64 r15.f2)), .d (.v (.string r15.f3)), .d (.v (.int .i64 r15.f4.f0)), .d (.v (.int .i64 r15.f4.f1)), .ref 336, .d (.v (.int .i64 r15.f5.f0)), .ref 337, .ref 338, .ref 339, .d (.v (.bool r15.f7)), .ref 340, .d (.v (.string r15.f9))]))], 592⟩ (by kernel_rfl) (by kernel_rfl) rfl ?_
    refine X.if_ (b := !(r16 == r8)) (by kernel_rfl) (fun hb24 => ?_) (fun hb24 => ?_)
    ·replace hb24 := beq_eq_false_iff_ne.1 (bnot_yes (hb24))
     refine X.seq ?_
     refine X.rk ⟨[(2, bV false)], [], 608⟩ hτ hmix (by kernel_rfl) (by kernel_rfl) rfl ?_
     refine X.ret ?_
     exact ⟨trivial, _, _, ⟨false, (by first | exact rfl | exact (by exfalso; omega) | exact (tf (sameB_eq (gb_eq hgb hgz hgc hgw)) ‹_›) | exact (absurd (gb_same hgb hgc) ‹_›) | exact (tf (allEq_self _) ‹_›)), rfl, rfl⟩, .inl (Ret.mk' [] (by kernel_rfl) (by kernel_rfl) (by kernel_rfl))⟩
    ·replace hb24 := eq_of_beq (bnot_no (hb24))
     refine X.skip ?_
     refine X.seq ?_
     refine X.seq ?_
     refine X.rs 2 hτ hmix (by kernel_rfl) ?_
     obtain ⟨r25, hr27, hf26⟩ := l_toByteS l (by first | assumption | omega)
     replace hr27 := hr27.symm; subst hr27
     refine CH.call hf26 Try.func42 ⟨rfl, rfl⟩ [] (by kernel_rfl) (by kernel_rfl) (by kernel_rfl) (by kernel_rfl) ?_
     obtain ⟨r29, hr31, hf30⟩ := l_eqByteS l l (by first | assumption | omega) (by first | assumption | omega)
     replace hr31 := hr31.symm; subst hr31
     refine CH.call hf30 Try.func44 ⟨rfl, rfl⟩ [] (by kernel_rfl) (by kernel_rfl) (by kernel_rfl) (by kernel_rfl) ?_
     refine CH.go 1 hτ (by kernel_rfl) ?_
     refine CH.endk ⟨[(0, lV (l.map dB)), (3, .pt 224 0 0), (4, bV r8), (5, rV 288), (6, .pt 400 0 0), (7, bV r16), (42, bV (!(allEq l l)))], [(224, some (.box [.d (.v (.int .i64 r7.f0)), .d (.v (.int .i64 r7.f1)), .d (.v (.int .i64 r7.f2)), .d (.v (.string r7.f3)), .d (.v (.int .i64 r7.f4.f0)), .d (.v (.int .i64 r7.f4.f1)), .f (.sl (r7.f4.f2.map dS)), .d (.v (.int .i64 r7.f5.f0)), .f (.sl (r7.f5.f1.map dS)), .f (.sl (r7.f5.f2.map dI)), .f (.sl (r7.f6.map d26)), .d (.v (.bool r7.f7)), .f (.sl (r7.f8.map d107)), .d (.v (.string r7.f9))])), (288, some (.row 1 5 (l.map dB) false true)), (336, some (.row 1 9 (r15.f4.f2.map dS) false true)), (337, some (.row 1 9 (r15.f5.f1.map dS) false true)), (338, some (.row 1 3 (r15.f5.f2.map dI) false true)), (339, some (.row 5 26 (r15.f6.map d26) false true)), (340, some (.row 2 107 (r15.f8.map d107) false true)), (400, some (.box [.d (.v (.int .i64 r15.f0)), .d (.v (.int .i64 r15.f1)), .d (.v (.int .i64 r15.f2)), .d (.v (.string r15.f3)), .d (.v (.int .i64 r15.f4.f0)), .d (.v (.int .i64 r15.f4.f1)), .ref 336, .d (.v (.int .i64 r15.f5.f0)), .ref 337, .ref 338, .ref 339, .d (.v (.bool r15.f7)), .ref 340, .d (.v (.string r15.f9))]))], 672⟩ (by kernel_rfl) (by kernel_rfl) rfl ?_
     refine X.if_ (b := !(allEq l l)) (by kernel_rfl) (fun hb33 => ?_) (fun hb33 => ?_)
     ·replace hb33 := bnot_yes (hb33)
      refine X.seq ?_
      refine X.rk ⟨[(2, bV false)], [], 688⟩ hτ hmix (by kernel_rfl) (by kernel_rfl) rfl ?_
      refine X.ret ?_
      exact ⟨trivial, _, _, ⟨false, (by first | exact rfl | exact (by exfalso; omega) | exact (tf (sameB_eq (gb_eq hgb hgz hgc hgw)) ‹_›) | exact (absurd (gb_same hgb hgc) ‹_›) | exact (tf (allEq_self _) ‹_›)), rfl, rfl⟩, .inl (Ret.mk' [] (by kernel_rfl) (by kernel_rfl) (by kernel_rfl))⟩
     ·replace hb33 := bnot_no (hb33)
      refine X.skip ?_
      refine X.seq ?_
      refine X.rk ⟨[(0, lV (l.map dB)), (3, .pt 224 0 0), (4, bV r8), (5, rV 288), (6, .pt 400 0 0), (7, bV r16), (8, iV 1)], [(224, some (.box [.d (.v (.int .i64 r7.f0)), .d (.v (.int .i64 r7.f1)), .d (.v (.int .i64 r7.f2)), .d (.v (.string r7.f3)), .d (.v (.int .i64 r7.f4.f0)), .d (.v (.int .i64 r7.f4.f1)), .f (.sl (r7.f4.f2.map dS)), .d (.v (.int .i64 r7.f5.f0)), .f (.sl (r7.f5.f1.map dS)), .f (.sl (r7.f5.f2.map dI)), .f (.sl (r7.f6.map d26)), .d (.v (.bool r7.f7)), .f (.sl (r7.f8.map d107)), .d (.v (.string r7.f9))])), (288, some (.row 1 5 (l.map dB) false true)), (336, some (.row 1 9 (r15.f4.f2.map dS) false true)), (337, some (.row 1 9 (r15.f5.f1.map dS) false true)), (338, some (.row 1 3 (r15.f5.f2.map dI) false true)), (339, some (.row 5 26 (r15.f6.map d26) false true)), (340, some (.row 2 107 (r15.f8.map d107) false true)), (400, some (.box [.d (.v (.int .i64 r15.f0)), .d (.v (.int .i64 r15.f1)), .d (.v (.int .i64 r15.f2)), .d (.v (.string r15.f3)), .d (.v (.int .i64 r15.f4.f0)), .d (.v (.int .i64 r15.f4.f1)), .ref 336, .d (.v (.int .i64 r15.f5.f0)), .ref 337, .ref 338, .ref 339, .d (.v (.bool r15.f7)), .ref 340, .d (.v (.string r15.f9))]))], 688⟩ hτ hmix (by kernel_rfl) (by kernel_rfl) rfl ?_
      refine X.seq ?_
      refine X.rs 2 hτ hmix (by kernel_rfl) ?_
      obtain ⟨r34, q35, hr37, hf36⟩ := l_markByteS l 1 (by first | assumption | omega) (by first | assumption | omega)
      obtain ⟨hbl, hbk⟩ := hr37
      refine CH.callB hf36 Try.func45 ⟨rfl, rfl⟩ 288 1 5 (l.map dB) true 5 (q35.map dB) (by kernel_rfl) (by kernel_rfl) (by kernel_rfl) (by kernel_rfl) (by kernel_rfl) (by first | (simp; done) | (simp; omega)) (by kernel_rfl) ?_
      refine CH.go 1 hτ (by kernel_rfl) ?_
      refine CH.endk ⟨[(0, lV (l.map dB)), (3, .pt 224 0 0), (4, bV r8), (6, .pt 400 0 0), (7, bV r16), (8, iV r34)], [(224, some (.box [.d (.v (.int .i64 r7.f0)), .d (.v (.int .i64 r7.f1)), .d (.v (.int .i64 r7.f2)), .d (.v (.string r7.f3)), .d (.v (.int .i64 r7.f4.f0)), .d (.v (.int .i64 r7.f4.f1)), .f (.sl (r7.f4.f2.map dS)), .d (.v (.int .i64 r7.f5.f0)), .f (.sl (r7.f5.f1.map dS)), .f (.sl (r7.f5.f2.map dI)), .f (.sl (r7.f6.map d26)), .d (.v (.bool r7.f7)), .f (.sl (r7.f8.map d107)), .d (.v (.string r7.f9))])), (336, some (.row 1 9 (r15.f4.f2.map dS) false true)), (337, some (.row 1 9 (r15.f5.f1.map dS) false true)), (338, some (.row 1 3 (r15.f5.f2.map dI) false true)), (339, some (.row 5 26 (r15.f6.map d26) false true)), (340, some (.row 2 107 (r15.f8.map d107) false true)), (400, some (.box [.d (.v (.int .i64 r15.f0)), .d (.v (.int .i64 r15.f1)), .d (.v (.int .i64 r15.f2)), .d (.v (.string r15.f3)), .d (.v (.int .i64 r15.f4.f0)), .d (.v (.int .i64 r15.f4.f1)), .ref 336, .d (.v (.int .i64 r15.f5.f0)), .ref 337, .ref 338, .ref 339, .d (.v (.bool r15.f7)), .ref 340, .d (.v (.string r15.f9))]))], 752⟩ (by kernel_rfl) (by kernel_rfl) rfl ?_
      refine X.seq ?_
      refine X.seq ?_
      refine X.rs 3 hτ hmix (by kernel_rfl) ?_
      rcases Bool.eq_false_or_eq_true (decide ((r34 : Int) < 0)) with hb38 | hb38
      ·refine CH.alt 47 (sV (.bool (decide ((r34 : Int) < 0)))) (sV (.bool true)) (by kernel_rfl) (by rw [hb38]) ?_
       refine CH.alt 48 (sV (.bool (decide ((r34 : Int) < 0)))) (sV (.bool true)) (by kernel_rfl) (by rw [hb38]) ?_
       replace hb38 := of_decide_eq_true (hb38)
       refine CH.go 10 hτ (by kernel_rfl) ?_
       refine CH.endk ⟨[(0, lV (l.map dB)), (3, .pt 224 0 0), (4, bV r8), (6, .pt 400 0 0), (58, bV true)], [(224, some (.box [.d (.v (.int .i64 r7.f0)), .d (.v (.int .i64 r7.f1)), .d (.v (.int .i64 r7.f2)), .d (.v (.string r7.f3)), .d (.v (.int .i64 r7.f4.f0)), .d (.v (.int .i64 r7.f4.f1)), .f (.sl (r7.f4.f2.map dS)), .d (.v (.int .i64 r7.f5.f0)), .f (.sl (r7.f5.f1.map dS)), .f (.sl (r7.f5.f2.map dI)), .f (.sl (r7.f6.map d26)), .d (.v (.bool r7.f7)), .f (.sl (r7.f8.map d107)), .d (.v (.string r7.f9))])), (336, some (.row 1 9 (r15.f4.f2.map dS) false true)), (337, some (.row 1 9 (r15.f5.f1.map dS) false true)), (338, some (.row 1 3 (r15.f5.f2.map dI) false true)), (339, some (.row 5 26 (r15.f6.map d26) false true)), (340, some (.row 2 107 (r15.f8.map d107) false true)), (400, some (.box [.d (.v (.int .i64 r15.f0)), .d (.v (.int .i64 r15.f1)), .d (.v (.int .i64 r15.f2)), .d (.v (.string r15.f3)), .d (.v (.int .i64 r15.f4.f0)), .d (.v (.int .i64 r15.f4.f1)), .ref 336, .d (.v (.int .i64 r15.f5.f0)), .ref 337, .ref 338, .ref 339, .d (.v (.bool r15.f7)), .ref 340, .d (.v (.string r15.f9))]))], 960⟩ (by kernel_rfl) (by kernel_rfl) rfl ?_
       refine X.ifT (by kernel_rfl) ?_
       refine X.seq ?_
       refine X.rk ⟨[(2, bV false)], [], 976⟩ hτ hmix (by kernel_rfl) (by kernel_rfl) rfl ?_
       refine X.ret ?_
       exact ⟨trivial, _, _, ⟨false, (by first | exact rfl | exact (by exfalso; omega) | exact (tf (sameB_eq (gb_eq hgb hgz hgc hgw)) ‹_›) | exact (absurd (gb_same hgb hgc) ‹_›) | exact (tf (allEq_self _) ‹_›)), rfl, rfl⟩, .inl (Ret.mk' [] (by kernel_rfl) (by kernel_rfl) (by kernel_rfl))⟩
      ·refine CH.alt 47 (sV (.bool (decide ((r34 : Int) < 0)))) (sV (.bool false)) (by kernel_rfl) (by rw [hb38]) ?_
       refine CH.alt 48 (sV (.bool (decide ((r34 : Int) < 0)))) (sV (.bool false)) (by kernel_rfl) (by rw [hb38]) ?_
       replace hb38 := of_decide_eq_false (hb38)
       refine CH.go 2 hτ (by kernel_rfl) ?_
       obtain ⟨r39, hr41, hf40⟩ := l_eqBlock r15 r7 (by assumption) (by assumption)
       replace hr41 := hr41.symm; subst hr41
       refine CH.call hf40 Try.func43 ⟨rfl, rfl⟩ [] (by kernel_rfl) (by kernel_rfl) (by kernel_rfl) (by kernel_rfl) ?_
       refine CH.go 3 hτ (by kernel_rfl) ?_
       rcases Bool.eq_false_or_eq_true (!(sameB r15 r7)) with hb43 | hb43
       ·refine CH.alt 52 (sV (.bool (!(sameB r15 r7)))) (sV (.bool true)) (by kernel_rfl) (by rw [hb43]) ?_
        refine CH.alt 53 (sV (.bool (!(sameB r15 r7)))) (sV (.bool true)) (by kernel_rfl) (by rw [hb43]) ?_
        refine CH.alt 54 (sV (.bool (!(sameB r15 r7)))) (sV (.bool true)) (by kernel_rfl) (by rw [hb43]) ?_
        replace hb43 := bnot_yes (hb43)
        refine CH.go 4 hτ (by kernel_rfl) ?_
        refine CH.endk ⟨[(0, lV (l.map dB)), (3, .pt 224 0 0), (4, bV r8), (6, .pt 400 0 0), (58, bV true)], [(224, some (.box [.d (.v (.int .i64 r7.f0)), .d (.v (.int .i64 r7.f1)), .d (.v (.int .i64 r7.f2)), .d (.v (.string r7.f3)), .d (.v (.int .i64 r7.f4.f0)), .d (.v (.int .i64 r7.f4.f1)), .f (.sl (r7.f4.f2.map dS)), .d (.v (.int .i64 r7.f5.f0)), .f (.sl (r7.f5.f1.map dS)), .f (.sl (r7.f5.f2.map dI)), .f (.sl (r7.f6.map d26)), .d (.v (.bool r7.f7)), .f (.sl (r7.f8.map d107)), .d (.v (.string r7.f9))])), (336, some (.row 1 9 (r15.f4.f2.map dS) false true)), (337, some (.row 1 9 (r15.f5.f1.map dS) false true)), (338, some (.row 1 3 (r15.f5.f2.map dI) false true)), (339, some (.row 5 26 (r15.f6.map d26) false true)), (340, some (.row 2 107 (r15.f8.map d107) false true)), (400, some (.box [.d (.v (.int .i64 r15.f0)), .d (.v (.int .i64 r15.f1)), .d (.v (.int .i64 r15.f2)), .d (.v (.string r15.f3)), .d (.v (.int .i64 r15.f4.f0)), .d (.v (.int .i64 r15.f4.f1)), .ref 336, .d (.v (.int .i64 r15.f5.f0)), .ref 337, .ref 338, .ref 339, .d (.v (.bool r15.f7)), .ref 340, .d (.v (.string r15.f9))]))], 960⟩ (by kernel_rfl) (by kernel_rfl) rfl ?_
        refine X.ifT (by kernel_rfl) ?_
        refine X.seq ?_
        refine X.rk ⟨[(2, bV false)], [], 976⟩ hτ hmix (by kernel_rfl) (by kernel_rfl) rfl ?_
        refine X.ret ?_
        exact ⟨trivial, _, _, ⟨false, (by first | exact rfl | exact (by exfalso; omega) | exact (tf (sameB_eq (gb_eq hgb hgz hgc hgw)) ‹_›) | exact (absurd (gb_same hgb hgc) ‹_›) | exact (tf (allEq_self _) ‹_›)), rfl, rfl⟩, .inl (Ret.mk' [] (by kernel_rfl) (by kernel_rfl) (by kernel_rfl))⟩
       ·refine CH.alt 52 (sV (.bool (!(sameB r15 r7)))) (sV (.bool false)) (by kernel_rfl) (by rw [hb43]) ?_
        refine CH.alt 53 (sV (.bool (!(sameB r15 r7)))) (sV (.bool false)) (by kernel_rfl) (by rw [hb43]) ?_
        refine CH.alt 54 (sV (.bool (!(sameB r15 r7)))) (sV (.bool false)) (by kernel_rfl) (by rw [hb43]) ?_
        replace hb43 := bnot_no (hb43)
        refine CH.go 2 hτ (by kernel_rfl) ?_
        refine CH.eqB (t := 4) (ng := true) (a := r16) (b := r8) (by kernel_rfl) (by kernel_rfl) Try.underlying4 ?_
        refine CH.go 1 hτ (by kernel_rfl) ?_
        refine CH.endk ⟨[(0, lV (l.map dB)), (3, .pt 224 0 0), (4, bV r8), (6, .pt 400 0 0), (58, bV (!(r16 == r8)))], [(224, some (.box [.d (.v (.int .i64 r7.f0)), .d (.v (.int .i64 r7.f1)), .d (.v (.int .i64 r7.f2)), .d (.v (.string r7.f3)), .d (.v (.int .i64 r7.f4.f0)), .d (.v (.int .i64 r7.f4.f1)), .f (.sl (r7.f4.f2.map dS)), .d (.v (.int .i64 r7.f5.f0)), .f (.sl (r7.f5.f1.map dS)), .f (.sl (r7.f5.f2.map dI)), .f (.sl (r7.f6.map d26)), .d (.v (.bool r7.f7)), .f (.sl (r7.f8.map d107)), .d (.v (.string r7.f9))])), (336, some (.row 1 9 (r15.f4.f2.map dS) false true)), (337, some (.row 1 9 (r15.f5.f1.map dS) false true)), (338, some (.row 1 3 (r15.f5.f2.map dI) false true)), (339, some (.row 5 26 (r15.f6.map d26) false true)), (340, some (.row 2 107 (r15.f8.map d107) false true)), (400, some (.box [.d (.v (.int .i64 r15.f0)), .d (.v (.int .i64 r15.f1)), .d (.v (.int .i64 r15.f2)), .d (.v (.string r15.f3)), .d (.v (.int .i64 r15.f4.f0)), .d (.v (.int .i64 r15.f4.f1)), .ref 336, .d (.v (.int .i64 r15.f5.f0)), .ref 337, .ref 338, .ref 339, .d (.v (.bool r15.f7)), .ref 340, .d (.v (.string r15.f9))]))], 960⟩ (by kernel_rfl) (by kernel_rfl) rfl ?_
        refine X.if_ (b := !(r16 == r8)) (by kernel_rfl) (fun hb44 => ?_) (fun hb44 => ?_)
        ·replace hb44 := beq_eq_false_iff_ne.1 (bnot_yes (hb44))
         refine X.seq ?_
         refine X.rk ⟨[(2, bV false)], [], 976⟩ hτ hmix (by kernel_rfl) (by kernel_rfl) rfl ?_
         refine X.ret ?_
         exact ⟨trivial, _, _, ⟨false, (by first | exact rfl | exact (by exfalso; omega) | exact (tf (sameB_eq (gb_eq hgb hgz hgc hgw)) ‹_›) | exact (absurd (gb_same hgb hgc) ‹_›) | exact (tf (allEq_self _) ‹_›)), rfl, rfl⟩, .inl (Ret.mk' [] (by kernel_rfl) (by kernel_rfl) (by kernel_rfl))⟩
        ·replace hb44 := eq_of_beq (bnot_no (hb44))
         refine X.skip ?_
         refine X.seq ?_
         refine X.rk ⟨[(0, lV (l.map dB)), (3, .pt 224 0 0), (4, bV r8), (6, .pt 400 0 0), (9, iV 1)], [(224, some (.box [.d (.v (.int .i64 r7.f0)), .d (.v (.int .i64 r7.f1)), .d (.v (.int .i64 r7.f2)), .d (.v (.string r7.f3)), .d (.v (.int .i64 r7.f4.f0)), .d (.v (.int .i64 r7.f4.f1)), .f (.sl (r7.f4.f2.map dS)), .d (.v (.int .i64 r7.f5.f0)), .f (.sl (r7.f5.f1.map dS)), .f (.sl (r7.f5.f2.map dI)), .f (.sl (r7.f6.map d26)), .d (.v (.bool r7.f7)), .f (.sl (r7.f8.map d107)), .d (.v (.string r7.f9))])), (336, some (.row 1 9 (r15.f4.f2.map dS) false true)), (337, some (.row 1 9 (r15.f5.f1.map dS) false true)), (338, some (.row 1 3 (r15.f5.f2.map dI) false true)), (339, some (.row 5 26 (r15.f6.map d26) false true)), (340, some (.row 2 107 (r15.f8.map d107) false true)), (400, some (.box [.d (.v (.int .i64 r15.f0)), .d (.v (.int .i64 r15.f1)), .d (.v (.int .i64 r15.f2)), .d (.v (.string r15.f3)), .d (.v (.int .i64 r15.f4.f0)), .d (.v (.int .i64 r15.f4.f1)), .ref 336, .d (.v (.int .i64 r15.f5.f0)), .ref 337, .ref 338, .ref 339, .d (.v (.bool r15.f7)), .ref 340, .d (.v (.string r15.f9))]))], 976⟩ hτ hmix (by kernel_rfl) (by kernel_rfl) rfl ?_
         refine X.seq ?_
         refine X.rs 2 hτ hmix (by kernel_rfl) ?_
         obtain ⟨r45, q46, q47, q48, q49, q50, hr52, hf51⟩ := l_markBlock r15 1 (by assumption) (by omega)
         obtain ⟨hl0, hl1, hl2, hl3, hl4, hmk, hm0, hm1, hm2, hm3, hm4⟩ := hr52
         refine CH.callG hf51 Try.func46 ⟨rfl, rfl⟩ [(336, 0), (337, 1), (338, 2), (339, 3), (340, 4)] (by kernel_rfl) (by kernel_rfl) (by kernel_rfl) (nb := true) (fun _ => (back_cons 1 9 (r15.f4.f2.map dS) true 9 (q46.map dS) (by kernel_rfl) (by kernel_rfl) (by first | (simp; done) | (simp; omega)) (back_cons 1 9 (r15.f5.f1.map dS) true 9 (q47.map dS) (by kernel_rfl) (by kernel_rfl) (by first | (simp; done) | (simp; omega)) (back_cons 1 3 (r15.f5.f2.map dI) true 3 (q48.map dI) (by kernel_rfl) (by kernel_rfl) (by first | (simp; done) | (simp; omega)) (back_cons 5 26 (r15.f6.map d26) true 26 (q49.map d26) (by kernel_rfl) (by kernel_rfl) (by first | (simp; done) | (simp; omega)) (back_cons 2 107 (r15.f8.map d107) true 107 (q50.map d107) (by kernel_rfl) (by kernel_rfl) (by first | (simp; done) | (simp; omega)) back_nil)))))) (by kernel_rfl) ?_
         refine CH.go 1 hτ (by kernel_rfl) ?_
         refine CH.endk ⟨[(0, lV (l.map dB)), (3, .pt 224 0 0), (4, bV r8), (6, .pt 400 0 0), (9, iV r45)], [(224, some (.box [.d (.v (.int .i64 r7.f0)), .d (.v (.int .i64 r7.f1)), .d (.v (.int .i64 r7.f2)), .d (.v (.string r7.f3)), .d (.v (.int .i64 r7.f4.f0)), .d (.v (.int .i64 r7.f4.f1)), .f (.sl (r7.f4.f2.map dS)), .d (.v (.int .i64 r7.f5.f0)), .f (.sl (r7.f5.f1.map dS)), .f (.sl (r7.f5.f2.map dI)), .f (.sl (r7.f6.map d26)), .d (.v (.bool r7.f7)), .f (.sl (r7.f8.map d107)), .d (.v (.string r7.f9))])), (336, some (.row 1 9 (q46.map dS) false true)), (337, some (.row 1 9 (q47.map dS) false true)), (338, some (.row 1 3 (q48.map dI) false true)), (339, some (.row 5 26 (q49.map d26) false true)), (340, some (.row 2 107 (q50.map d107) false true)), (400, some (.box [.d (.v (.int .i64 r15.f0)), .d (.v (.int .i64 r15.f1)), .d (.v (.int .i64 r15.f2)), .d (.v (.string r15.f3)), .d (.v (.int .i64 r15.f4.f0)), .d (.v (.int .i64 r15.f4.f1)), .ref 336, .d (.v (.int .i64 r15.f5.f0)), .ref 337, .ref 338, .ref 339, .d (.v (.bool r15.f7)), .ref 340, .d (.v (.string r15.f9))]))], 1040⟩ (by kernel_rfl) (by kernel_rfl) rfl ?_
         refine X.seq ?_
         refine X.rk ⟨[(0, lV (l.map dB)), (3, .pt 224 0 0), (4, bV r8), (6, .pt 400 0 0), (9, iV r45), (10, iV 1)], [(224, some (.box [.d (.v (.int .i64 r7.f0)), .d (.v (.int .i64 r7.f1)), .d (.v (.int .i64 r7.f2)), .d (.v (.string r7.f3)), .d (.v (.int .i64 r7.f4.f0)), .d (.v (.int .i64 r7.f4.f1)), .f (.sl (r7.f4.f2.map dS)), .d (.v (.int .i64 r7.f5.f0)), .f (.sl (r7.f5.f1.map dS)), .f (.sl (r7.f5.f2.map dI)), .f (.sl (r7.f6.map d26)), .d (.v (.bool r7.f7)), .f (.sl (r7.f8.map d107)), .d (.v (.string r7.f9))])), (336, some (.row 1 9 (q46.map dS) false true)), (337, some (.row 1 9 (q47.map dS) false true)), (338, some (.row 1 3 (q48.map dI) false true)), (339, some (.row 5 26 (q49.map d26) false true)), (340, some (.row 2 107 (q50.map d107) false true)), (400, some (.box [.d (.v (.int .i64 r15.f0)), .d (.v (.int .i64 r15.f1)), .d (.v (.int .i64 r15.f2)), .d (.v (.string r15.f3)), .d (.v (.int .i64 r15.f4.f0)), .d (.v (.int .i64 r15.f4.f1)), .ref 336, .d (.v (.int .i64 r15.f5.f0)), .ref 337, .ref 338, .ref 339, .d (.v (.bool r15.f7)), .ref 340, .d (.v (.string r15.f9))]))], 1056⟩ hτ hmix (by kernel_rfl) (by kernel_rfl) rfl ?_
         refine X.seq ?_
         refine X.rs 2 hτ hmix (by kernel_rfl) ?_
         obtain ⟨r53, hr55, hf54⟩ := l_heldBlock (⟨r15.f0, r15.f1, r15.f2, r15.f3, (⟨r15.f4.f0, r15.f4.f1, q46⟩ : S43), (⟨r15.f5.f0, q47, q48⟩ : S46), q49, r15.f7, q50, r15.f9⟩ : S49) 1 (by dsimp only; omega) (by dsimp only; omega) (by dsimp only; omega) (by dsimp only; omega) (by dsimp only; omega) (by omega)
         obtain ⟨hhb, hhk⟩ := hr55
         refine CH.call hf54 Try.func47 ⟨rfl, rfl⟩ [] (by kernel_rfl) (by kernel_rfl) (by kernel_rfl) (by kernel_rfl) ?_
         refine CH.go 1 hτ (by kernel_rfl) ?_
         refine CH.endk ⟨[(0, lV (l.map dB)), (3, .pt 224 0 0), (4, bV r8), (6, .pt 400 0 0), (9, iV r45), (10, iV r53)], [(224, some (.box [.d (.v (.int .i64 r7.f0)), .d (.v (.int .i64 r7.f1)), .d (.v (.int .i64 r7.f2)), .d (.v (.string r7.f3)), .d (.v (.int .i64 r7.f4.f0)), .d (.v (.int .i64 r7.f4.f1)), .f (.sl (r7.f4.f2.map dS)), .d (.v (.int .i64 r7.f5.f0)), .f (.sl (r7.f5.f1.map dS)), .f (.sl (r7.f5.f2.map dI)), .f (.sl (r7.f6.map d26)), .d (.v (.bool r7.f7)), .f (.sl (r7.f8.map d107)), .d (.v (.string r7.f9))])), (336, some (.row 1 9 (q46.map dS) false true)), (337, some (.row 1 9 (q47.map dS) false true)), (338, some (.row 1 3 (q48.map dI) false true)), (339, some (.row 5 26 (q49.map d26) false true)), (340, some (.row 2 107 (q50.map d107) false true)), (400, some (.box [.d (.v (.int .i64 r15.f0)), .d (.v (.int .i64 r15.f1)), .d (.v (.int .i64 r15.f2)), .d (.v (.string r15.f3)), .d (.v (.int .i64 r15.f4.f0)), .d (.v (.int .i64 r15.f4.f1)), .ref 336, .d (.v (.int .i64 r15.f5.f0)), .ref 337, .ref 338, .ref 339, .d (.v (.bool r15.f7)), .ref 340, .d (.v (.string r15.f9))]))], 1120⟩ (by kernel_rfl) (by kernel_rfl) rfl ?_
         refine X.seq ?_
         refine X.seq ?_
         have hh := hhk (mkB_of hl0 hl1 hl2 hl3 hl4 hm0 hm1 hm2 hm3 hm4)
         dsimp only at hh
         refine X.rk ⟨[(0, lV (l.map dB)), (3, .pt 224 0 0), (4, bV r8), (6, .pt 400 0 0), (9, iV r45), (10, iV r53), (66, bV (decide ((r53 : Int) < 0)))], [(224, some (.box [.d (.v (.int .i64 r7.f0)), .d (.v (.int .i64 r7.f1)), .d (.v (.int .i64 r7.f2)), .d (.v (.string r7.f3)), .d (.v (.int .i64 r7.f4.f0)), .d (.v (.int .i64 r7.f4.f1)), .f (.sl (r7.f4.f2.map dS)), .d (.v (.int .i64 r7.f5.f0)), .f (.sl (r7.f5.f1.map dS)), .f (.sl (r7.f5.f2.map dI)), .f (.sl (r7.f6.map d26)), .d (.v (.bool r7.f7)), .f (.sl (r7.f8.map d107)), .d (.v (.string r7.f9))])), (336, some (.row 1 9 (q46.map dS) false true)), (337, some (.row 1 9 (q47.map dS) false true)), (338, some (.row 1 3 (q48.map dI) false true)), (339, some (.row 5 26 (q49.map d26) false true)), (340, some (.row 2 107 (q50.map d107) false true)), (400, some (.box [.d (.v (.int .i64 r15.f0)), .d (.v (.int .i64 r15.f1)), .d (.v (.int .i64 r15.f2)), .d (.v (.string r15.f3)), .d (.v (.int .i64 r15.f4.f0)), .d (.v (.int .i64 r15.f4.f1)), .ref 336, .d (.v (.int .i64 r15.f5.f0)), .ref 337, .ref 338, .ref 339, .d (.v (.bool r15.f7)), .ref 340, .d (.v (.string r15.f9))]))], 1152⟩ hτ hmix (by kernel_rfl) (by kernel_rfl) rfl ?_
         refine X.if_ (b := decide ((r53 : Int) < 0)) (by kernel_rfl) (fun hb56 => ?_) (fun hb56 => ?_)
         ·replace hb56 := of_decide_eq_true (hb56)
          refine X.seq ?_
          refine X.rk ⟨[(2, bV false)], [], 1168⟩ hτ hmix (by kernel_rfl) (by kernel_rfl) rfl ?_
          refine X.ret ?_
          exact ⟨trivial, _, _, ⟨false, (by first | exact rfl | exact (by exfalso; omega) | exact (tf (sameB_eq (gb_eq hgb hgz hgc hgw)) ‹_›) | exact (absurd (gb_same hgb hgc) ‹_›) | exact (tf (allEq_self _) ‹_›)), rfl, rfl⟩, .inl (Ret.mk' [] (by kernel_rfl) (by kernel_rfl) (by kernel_rfl))⟩
         ·replace hb56 := of_decide_eq_false (hb56)
          refine X.skip ?_
          refine X.seq ?_
          refine X.seq ?_
          refine X.rk ⟨[(0, lV (l.map dB)), (3, .pt 224 0 0), (4, bV r8), (6, .pt 400 0 0), (9, iV r45), (69, bV (r53 != r45))], [(224, some (.box [.d (.v (.int .i64 r7.f0)), .d (.v (.int .i64 r7.f1)), .d (.v (.int .i64 r7.f2)), .d (.v (.string r7.f3)), .d (.v (.int .i64 r7.f4.f0)), .d (.v (.int .i64 r7.f4.f1)), .f (.sl (r7.f4.f2.map dS)), .d (.v (.int .i64 r7.f5.f0)), .f (.sl (r7.f5.f1.map dS)), .f (.sl (r7.f5.f2.map dI)), .f (.sl (r7.f6.map d26)), .d (.v (.bool r7.f7)), .f (.sl (r7.f8.map d107)), .d (.v (.string r7.f9))])), (336, some (.row 1 9 (q46.map dS) false true)), (337, some (.row 1 9 (q47.map dS) false true)), (338, some (.row 1 3 (q48.map dI) false true)), (339, some (.row 5 26 (q49.map d26) false true)), (340, some (.row 2 107 (q50.map d107) false true)), (400, some (.box [.d (.v (.int .i64 r15.f0)), .d (.v (.int .i64 r15.f1)), .d (.v (.int .i64 r15.f2)), .d (.v (.string r15.f3)), .d (.v (.int .i64 r15.f4.f0)), .d (.v (.int .i64 r15.f4.f1)), .ref 336, .d (.v (.int .i64 r15.f5.f0)), .ref 337, .ref 338, .ref 339, .d (.v (.bool r15.f7)), .ref 340, .d (.v (.string r15.f9))]))], 1200⟩ hτ hmix (by kernel_rfl) (by kernel_rfl) rfl ?_
          refine X.if_ (b := (r53 != r45)) (by kernel_rfl) (fun hb57 => ?_) (fun hb57 => ?_)
          ·replace hb57 := bne_iff_ne.1 (hb57)
           refine X.seq ?_
           refine X.rk ⟨[(2, bV false)], [], 1216⟩ hτ hmix (by kernel_rfl) (by kernel_rfl) rfl ?_
           refine X.ret ?_
           exact ⟨trivial, _, _, ⟨false, (by first | exact rfl | exact (by exfalso; omega) | exact (tf (sameB_eq (gb_eq hgb hgz hgc hgw)) ‹_›) | exact (absurd (gb_same hgb hgc) ‹_›) | exact (tf (allEq_self _) ‹_›)), rfl, rfl⟩, .inl (Ret.mk' [] (by kernel_rfl) (by kernel_rfl) (by kernel_rfl))⟩
          ·replace hb57 := bne_eq_false_iff_eq.1 (hb57)
           refine X.skip ?_
           refine X.seq ?_
           refine X.rs 1 hτ hmix (by kernel_rfl) ?_
           obtain ⟨r58, hr60, hf59⟩ := l_toByteS l (by first | assumption | omega)
           replace hr60 := hr60.symm; subst hr60
           refine CH.call hf59 Try.func42 ⟨rfl, rfl⟩ [] (by kernel_rfl) (by kernel_rfl) (by kernel_rfl) (by kernel_rfl) ?_
           obtain ⟨r62, r63, hr65, hf64⟩ := i_GetBlockR l (by first | omega | assumption) (by assumption)
           obtain ⟨hgbs, hgb, hgz⟩ := hr65
           refine CH.call hf64 Try.func26 ⟨rfl, rfl⟩ [] (by kernel_rfl) (by kernel_rfl) (by kernel_rfl) (by kernel_rfl) ?_
           refine CH.go 6 hτ (by kernel_rfl) ?_
           refine CH.endk ⟨[(3, .pt 224 0 0), (4, bV r8), (6, .pt 400 0 0), (9, iV r45), (11, .pt 1296 0 0), (12, bV r63)], [(224, some (.box [.d (.v (.int .i64 r7.f0)), .d (.v (.int .i64 r7.f1)), .d (.v (.int .i64 r7.f2)), .d (.v (.string r7.f3)), .d (.v (.int .i64 r7.f4.f0)), .d (.v (.int .i64 r7.f4.f1)), .f (.sl (r7.f4.f2.map dS)), .d (.v (.int .i64 r7.f5.f0)), .f (.sl (r7.f5.f1.map dS)), .f (.sl (r7.f5.f2.map dI)), .f (.sl (r7.f6.map d26)), .d (.v (.bool r7.f7)), .f (.sl (r7.f8.map d107)), .d (.v (.string r7.f9))])), (336, some (.row 1 9 (q46.map dS) false true)), (337, some (.row 1 9 (q47.map dS) false true)), (338, some (.row 1 3 (q48.map dI) false true)), (339, some (.row 5 26 (q49.map d26) false true)), (340, some (.row 2 107 (q50.map d107) false true)), (400, some (.box [.d (.v (.int .i64 r15.f0)), .d (.v (.int .i64 r15.f1)), .d (.v (.int .i64 r15.f2)), .d (.v (.string r15.f3)), .d (.v (.int .i64 r15.f4.f0)), .d (.v (.int .i64 r15.f4.f1)), .ref 336, .d (.v (.int .i64 r15.f5.f0)), .ref 337, .ref 338, .ref 339, .d (.v (.bool r15.f7)), .ref 340, .d (.v (.string r15.f9))])), (1232, some (.row 1 9 (r62.f4.f2.map dS) false true)), (1233, some (.row 1 9 (r62.f5.f1.map dS) false true)), (1234, some (.row 1 3 (r62.f5.f2.map dI) false true)), (1235, some (.row 5 26 (r62.f6.map d26) false true)), (1236, some (.row 2 107 (r62.f8.map d107) false true)), (1296, some (.box [.d (.v (.int .i64 r62.f0)), .d (.v (.int .i64 r62.f1)), .d (.v (.int .i64 r62.f2)), .d (.v (.string r62.f3)), .d (.v (.int .i64 r62.f4.f0)), .d (.v (.int .i64 r62.f4.f1)), .ref 1232, .d (.v (.int .i64 r62.f5.f0)), .ref 1233, .ref 1234, .ref 1235, .d (.v (.bool r62.f7)), .ref 1236, .d (.v (.string r62.f9))]))], 1344⟩ (by kernel_rfl) (by kernel_rfl) rfl ?_
           refine X.seq ?_
           refine X.seq ?_
           refine X.rs 2 hτ hmix (by kernel_rfl) ?_
           obtain ⟨r66, hr68, hf67⟩ := l_eqBlock r62 r7 (by assumption) (by assumption)
           replace hr68 := hr68.symm; subst hr68
           refine CH.call hf67 Try.func43 ⟨rfl, rfl⟩ [] (by kernel_rfl) (by kernel_rfl) (by kernel_rfl) (by kernel_rfl) ?_
           refine CH.go 2 hτ (by kernel_rfl) ?_
           rcases Bool.eq_false_or_eq_true (!(sameB r62 r7)) with hb70 | hb70
           ·refine CH.alt 79 (sV (.bool (!(sameB r62 r7)))) (sV (.bool true)) (by kernel_rfl) (by rw [hb70]) ?_
            refine CH.alt 80 (sV (.bool (!(sameB r62 r7)))) (sV (.bool true)) (by kernel_rfl) (by rw [hb70]) ?_
            replace hb70 := bnot_yes (hb70)
            refine CH.go 4 hτ (by kernel_rfl) ?_
            refine CH.endk ⟨[(6, .pt 400 0 0), (9, iV r45), (84, bV true)], [(336, some (.row 1 9 (q46.map dS) false true)), (337, some (.row 1 9 (q47.map dS) false true)), (338, some (.row 1 3 (q48.map dI) false true)), (339, some (.row 5 26 (q49.map d26) false true)), (340, some (.row 2 107 (q50.map d107) false true)), (400, some (.box [.d (.v (.int .i64 r15.f0)), .d (.v (.int .i64 r15.f1)), .d (.v (.int .i64 r15.f2)), .d (.v (.string r15.f3)), .d (.v (.int .i64 r15.f4.f0)), .d (.v (.int .i64 r15.f4.f1)), .ref 336, .d (.v (.int .i64 r15.f5.f0)), .ref 337, .ref 338, .ref 339, .d (.v (.bool r15.f7)), .ref 340, .d (.v (.string r15.f9))]))], 1488⟩ (by kernel_rfl) (by kernel_rfl) rfl ?_
            refine X.ifT (by kernel_rfl) ?_
            refine X.seq ?_
            refine X.rk ⟨[(2, bV false)], [], 1504⟩ hτ hmix (by kernel_rfl) (by kernel_rfl) rfl ?_
            refine X.ret ?_
            exact ⟨trivial, _, _, ⟨false, (by first | exact rfl | exact (by exfalso; omega) | exact (tf (sameB_eq (gb_eq hgb hgz hgc hgw)) ‹_›) | exact (absurd (gb_same hgb hgc) ‹_›) | exact (tf (allEq_self _) ‹_›)), rfl, rfl⟩, .inl (Ret.mk' [] (by kernel_rfl) (by kernel_rfl) (by kernel_rfl))⟩
           ·refine CH.alt 79 (sV (.bool (!(sameB r62 r7)))) (sV (.bool false)) (by kernel_rfl) (by rw [hb70]) ?_
            refine CH.alt 80 (sV (.bool (!(sameB r62 r7)))) (sV (.bool false)) (by kernel_rfl) (by rw [hb70]) ?_
            replace hb70 := bnot_no (hb70)
            refine CH.go 2 hτ (by kernel_rfl) ?_
            refine CH.eqB (t := 4) (ng := true) (a := r63) (b := r8) (by kernel_rfl) (by kernel_rfl) Try.underlying4 ?_
            refine CH.go 1 hτ (by kernel_rfl) ?_
            refine CH.endk ⟨[(6, .pt 400 0 0), (9, iV r45), (84, bV (!(r63 == r8)))], [(336, some (.row 1 9 (q46.map dS) false true)), (337, some (.row 1 9 (q47.map dS) false true)), (338, some (.row 1 3 (q48.map dI) false true)), (339, some (.row 5 26 (q49.map d26) false true)), (340, some (.row 2 107 (q50.map d107) false true)), (400, some (.box [.d (.v (.int .i64 r15.f0)), .d (.v (.int .i64 r15.f1)), .d (.v (.int .i64 r15.f2)), .d (.v (.string r15.f3)), .d (.v (.int .i64 r15.f4.f0)), .d (.v (.int .i64 r15.f4.f1)), .ref 336, .d (.v (.int .i64 r15.f5.f0)), .ref 337, .ref 338, .ref 339, .d (.v (.bool r15.f7)), .ref 340, .d (.v (.string r15.f9))]))], 1488⟩ (by kernel_rfl) (by kernel_rfl) rfl ?_
            refine X.if_ (b := !(r63 == r8)) (by kernel_rfl) (fun hb71 => ?_) (fun hb71 => ?_)
            ·replace hb71 := beq_eq_false_iff_ne.1 (bnot_yes (hb71))
             refine X.seq ?_
             refine X.rk ⟨[(2, bV false)], [], 1504⟩ hτ hmix (by kernel_rfl) (by kernel_rfl) rfl ?_
             refine X.ret ?_
             exact ⟨trivial, _, _, ⟨false, (by first | exact rfl | exact (by exfalso; omega) | exact (tf (sameB_eq (gb_eq hgb hgz hgc hgw)) ‹_›) | exact (absurd (gb_same hgb hgc) ‹_›) | exact (tf (allEq_self _) ‹_›)), rfl, rfl⟩, .inl (Ret.mk' [] (by kernel_rfl) (by kernel_rfl) (by kernel_rfl))⟩
            ·replace hb71 := eq_of_beq (bnot_no (hb71))
             refine X.skip ?_
             refine X.seq ?_
             refine X.rk ⟨[(6, .pt 400 0 0), (9, iV r45), (10, iV 1)], [(336, some (.row 1 9 (q46.map dS) false true)), (337, some (.row 1 9 (q47.map dS) false true)), (338, some (.row 1 3 (q48.map dI) false true)), (339, some (.row 5 26 (q49.map d26) false true)), (340, some (.row 2 107 (q50.map d107) false true)), (400, some (.box [.d (.v (.int .i64 r15.f0)), .d (.v (.int .i64 r15.f1)), .d (.v (.int .i64 r15.f2)), .d (.v (.string r15.f3)), .d (.v (.int .i64 r15.f4.f0)), .d (.v (.int .i64 r15.f4.f1)), .ref 336, .d (.v (.int .i64 r15.f5.f0)), .ref 337, .ref 338, .ref 339, .d (.v (.bool r15.f7)), .ref 340, .d (.v (.string r15.f9))]))], 1504⟩ hτ hmix (by kernel_rfl) (by kernel_rfl) rfl ?_
             refine X.seq ?_
             refine X.rs 2 hτ hmix (by kernel_rfl) ?_
             obtain ⟨r72, hr74, hf73⟩ := l_heldBlock (⟨r15.f0, r15.f1, r15.f2, r15.f3, (⟨r15.f4.f0, r15.f4.f1, q46⟩ : S43), (⟨r15.f5.f0, q47, q48⟩ : S46), q49, r15.f7, q50, r15.f9⟩ : S49) 1 (by dsimp only; omega) (by dsimp only; omega) (by dsimp only; omega) (by dsimp only; omega) (by dsimp only; omega) (by omega)
             obtain ⟨hhb, hhk⟩ := hr74
             refine CH.call hf73 Try.func47 ⟨rfl, rfl⟩ [] (by kernel_rfl) (by kernel_rfl) (by kernel_rfl) (by kernel_rfl) ?_
             refine CH.go 1 hτ (by kernel_rfl) ?_
             refine CH.endk ⟨[(9, iV r45), (10, iV r72)], [], 1568⟩ (by kernel_rfl) (by kernel_rfl) rfl ?_
             refine X.seq ?_
             refine X.seq ?_
             have hh2 := hhk (mkB_of hl0 hl1 hl2 hl3 hl4 hm0 hm1 hm2 hm3 hm4)
             dsimp only at hh2
             refine X.rk ⟨[(9, iV r45), (10, iV r72), (89, bV (decide ((r72 : Int) < 0)))], [], 1600⟩ hτ hmix (by kernel_rfl) (by kernel_rfl) rfl ?_
             refine X.if_ (b := decide ((r72 : Int) < 0)) (by kernel_rfl) (fun hb75 => ?_) (fun hb75 => ?_)
             ·replace hb75 := of_decide_eq_true (hb75)
              refine X.seq ?_
              refine X.rk ⟨[(2, bV false)], [], 1616⟩ hτ hmix (by kernel_rfl) (by kernel_rfl) rfl ?_
              refine X.ret ?_
              exact ⟨trivial, _, _, ⟨false, (by first | exact rfl | exact (by exfalso; omega) | exact (tf (sameB_eq (gb_eq hgb hgz hgc hgw)) ‹_›) | exact (absurd (gb_same hgb hgc) ‹_›) | exact (tf (allEq_self _) ‹_›)), rfl, rfl⟩, .inl (Ret.mk' [] (by kernel_rfl) (by kernel_rfl) (by kernel_rfl))⟩
             ·replace hb75 := of_decide_eq_false (hb75)
              refine X.skip ?_
              refine X.seq ?_
              refine X.seq ?_
              refine X.rk ⟨[(92, bV (r72 != r45))], [], 1648⟩ hτ hmix (by kernel_rfl) (by kernel_rfl) rfl ?_
              refine X.if_ (b := (r72 != r45)) (by kernel_rfl) (fun hb76 => ?_) (fun hb76 => ?_)
              ·replace hb76 := bne_iff_ne.1 (hb76)
               refine X.seq ?_
               refine X.rk ⟨[(2, bV false)], [], 1664⟩ hτ hmix (by kernel_rfl) (by kernel_rfl) rfl ?_
               refine X.ret ?_
               exact ⟨trivial, _, _, ⟨false, (by first | exact rfl | exact (by exfalso; omega) | exact (tf (sameB_eq (gb_eq hgb hgz hgc hgw)) ‹_›) | exact (absurd (gb_same hgb hgc) ‹_›) | exact (tf (allEq_self _) ‹_›)), rfl, rfl⟩, .inl (Ret.mk' [] (by kernel_rfl) (by kernel_rfl) (by kernel_rfl))⟩
              ·replace hb76 := bne_eq_false_iff_eq.1 (hb76)
               refine X.skip ?_
               refine X.seq ?_
               refine X.rk ⟨[(2, bV true)], [], 1664⟩ hτ hmix (by kernel_rfl) (by kernel_rfl) rfl ?_
               refine X.ret ?_
               exact ⟨trivial, _, _, ⟨true, (by first | exact rfl | exact (by exfalso; omega) | exact (tf (sameB_eq (gb_eq hgb hgz hgc hgw)) ‹_›) | exact (absurd (gb_same hgb hgc) ‹_›) | exact (tf (allEq_self _) ‹_›)), rfl, rfl⟩, .inl (Ret.mk' [] (by kernel_rfl) (by kernel_rfl) (by kernel_rfl))⟩
 obtain ⟨_, _, ⟨r0, h1_, rfl, rfl⟩, hf⟩ := key
 exact ⟨r0, h1_, hf⟩
end Go.Proofs.Ytnieghbgcjbnhaa.Av
