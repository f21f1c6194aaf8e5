/-
What functions of the program come to, walked one by one.
Conditions: none beside those that each theorem names.
-/
import Derived.Test.YtnieghbgcjbnhaaAvA
set_option linter.unusedVariables false
set_option linter.unusedSimpArgs false
namespace Go.Proofs.Ytnieghbgcjbnhaa.Av
open Go.RowKit
set_option maxRecDepth 20000
set_option maxHeartbeats 4000000

section
variable {l : List S49} {i : Int} {x p : S49}
end
theorem s_l1In (x : Int) (lo : Int) (hi : Int) : ∃ r0 : Bool, (r0 = inR x lo hi) ∧ Fn Try.prog 66 [iV x, iV lo, iV hi] (lookH []) (bV r0) (lookH []) := by
  have key : ∃ x' h', ((fun x' h' => ∃ r0 : Bool, (r0 = inR x lo hi) ∧ x' = bV r0 ∧ h' = [])) x' h' ∧ Fn Try.prog 66 [iV x, iV lo, iV hi] (lookH []) x' (lookH h') := by
    refine Fn.bodyX (N := 15) hτ Try.func66 rfl rfl rfl rfl ?_
    refine X.seq ?_
    refine X.rk ⟨[(0, iV x), (1, iV lo), (2, iV hi)], [], 80⟩ hτ hmix (by kernel_rfl) (by kernel_rfl) rfl ?_
    refine X.seq ?_
    refine X.rs 4 hτ hmix (by kernel_rfl) ?_
    rcases Bool.eq_false_or_eq_true (decide ((x : Int) ≥ lo)) with hb1 | hb1
    · refine CH.alt 9 (sV (.bool (decide ((x : Int) ≥ lo)))) (sV (.bool true)) (by kernel_rfl) (by rw [hb1]) ?_
      refine CH.alt 10 (sV (.bool (decide ((x : Int) ≥ lo)))) (sV (.bool true)) (by kernel_rfl) (by rw [hb1]) ?_
      replace hb1 := of_decide_eq_true (hb1)
      refine CH.go 5 hτ (by kernel_rfl) ?_
      refine CH.endk ⟨[(6, bV (decide ((x : Int) ≤ hi)))], [], 224⟩ (by kernel_rfl) (by kernel_rfl) rfl ?_
      refine X.ret ?_
      exact ⟨trivial, _, _, ⟨decide ((x : Int) ≤ hi), (by simp [inR, *]), rfl, rfl⟩, .inl (Ret.mk' [] (by kernel_rfl) (by kernel_rfl) (by kernel_rfl))⟩
    · refine CH.alt 9 (sV (.bool (decide ((x : Int) ≥ lo)))) (sV (.bool false)) (by kernel_rfl) (by rw [hb1]) ?_
      refine CH.alt 10 (sV (.bool (decide ((x : Int) ≥ lo)))) (sV (.bool false)) (by kernel_rfl) (by rw [hb1]) ?_
      replace hb1 := of_decide_eq_false (hb1)
      refine CH.go 5 hτ (by kernel_rfl) ?_
      refine CH.endk ⟨[(6, bV false)], [], 224⟩ (by kernel_rfl) (by kernel_rfl) rfl ?_
      refine X.ret ?_
      exact ⟨trivial, _, _, ⟨false, (by simp [inR, *]), rfl, rfl⟩, .inl (Ret.mk' [] (by kernel_rfl) (by kernel_rfl) (by kernel_rfl))⟩
  obtain ⟨_, _, ⟨r0, q1, rfl, rfl⟩, hf⟩ := key
  exact ⟨r0, q1, hf⟩

theorem i_inRange (x : Int) (lo : Int) (hi : Int) : ∃ r0 : Bool, (r0 = inR x lo hi) ∧ Fn Try.prog 72 [iV x, iV lo, iV hi] (lookH []) (bV r0) (lookH []) := by
  have key : ∃ x' h', ((fun x' h' => ∃ r0 : Bool, (r0 = inR x lo hi) ∧ x' = bV r0 ∧ h' = [])) x' h' ∧ Fn Try.prog 72 [iV x, iV lo, iV hi] (lookH []) x' (lookH h') := by
    refine Fn.bodyX (N := 15) hτ Try.func72 rfl rfl rfl rfl ?_
    refine X.seq ?_
    refine X.rk ⟨[(0, iV x), (1, iV lo), (2, iV hi)], [], 80⟩ hτ hmix (by kernel_rfl) (by kernel_rfl) rfl ?_
    refine X.seq ?_
    refine X.rs 4 hτ hmix (by kernel_rfl) ?_
    rcases Bool.eq_false_or_eq_true (decide ((x : Int) ≥ lo)) with hb1 | hb1
    · refine CH.alt 9 (sV (.bool (decide ((x : Int) ≥ lo)))) (sV (.bool true)) (by kernel_rfl) (by rw [hb1]) ?_
      refine CH.alt 10 (sV (.bool (decide ((x : Int) ≥ lo)))) (sV (.bool true)) (by kernel_rfl) (by rw [hb1]) ?_
      replace hb1 := of_decide_eq_true (hb1)
      refine CH.go 5 hτ (by kernel_rfl) ?_
      refine CH.endk ⟨[(6, bV (decide ((x : Int) ≤ hi)))], [], 224⟩ (by kernel_rfl) (by kernel_rfl) rfl ?_
      refine X.ret ?_
      exact ⟨trivial, _, _, ⟨decide ((x : Int) ≤ hi), (by simp [inR, *]), rfl, rfl⟩, .inl (Ret.mk' [] (by kernel_rfl) (by kernel_rfl) (by kernel_rfl))⟩
    · refine CH.alt 9 (sV (.bool (decide ((x : Int) ≥ lo)))) (sV (.bool false)) (by kernel_rfl) (by rw [hb1]) ?_
      refine CH.alt 10 (sV (.bool (decide ((x : Int) ≥ lo)))) (sV (.bool false)) (by kernel_rfl) (by rw [hb1]) ?_
      replace hb1 := of_decide_eq_false (hb1)
      refine CH.go 5 hτ (by kernel_rfl) ?_
      refine CH.endk ⟨[(6, bV false)], [], 224⟩ (by kernel_rfl) (by kernel_rfl) rfl ?_
      refine X.ret ?_
      exact ⟨trivial, _, _, ⟨false, (by simp [inR, *]), rfl, rfl⟩, .inl (Ret.mk' [] (by kernel_rfl) (by kernel_rfl) (by kernel_rfl))⟩
  obtain ⟨_, _, ⟨r0, q1, rfl, rfl⟩, hf⟩ := key
  exact ⟨r0, q1, hf⟩

theorem s_NameOk (s : ByteArray) (hs : SmS s) : ∃ r0 : Bool, (r0 = nameOk s) ∧ Fn Try.prog 67 [.e (.c (.d (.v (.string s))))] (lookH []) (bV r0) (lookH []) := by
  have key : ∃ x' h', ((fun x' h' => ∃ r0 : Bool, (r0 = nameOk s) ∧ x' = bV r0 ∧ h' = [])) x' h' ∧ Fn Try.prog 67 [.e (.c (.d (.v (.string s))))] (lookH []) x' (lookH h') := by
    refine Fn.bodyX (N := 27) hτ Try.func67 rfl rfl rfl rfl ?_
    refine X.seq ?_
    refine X.rk ⟨[(0, .e (.c (.d (.v (.string s)))))], [], 80⟩ hτ hmix (by kernel_rfl) (by kernel_rfl) rfl ?_
    refine X.seq ?_
    refine X.seq ?_
    refine X.rk ⟨[(0, .e (.c (.d (.v (.string s))))), (3, iV 0)], [], 96⟩ hτ hmix (by kernel_rfl) (by kernel_rfl) rfl ?_
    refine X.block ?_
    -- 2: v3 : Int
    refine X.loop (σ := { g : Int // (fun (v3 : Int) => 0 ≤ v3 ∧ v3 ≤ s.size ∧ Upto (chR) (fun n => s[n]?) v3) g }) (fun g => (fun (v3 : Int) => ⟨[(0, .e (.c (.d (.v (.string s))))), (3, iV v3)], [], 96⟩) g.1) (fun g => (fun (v3 : Int) => (s.size - v3).toNat) g.1) ⟨0, ⟨by first | omega | (dsimp only; omega), by first | omega | (dsimp only; omega), upto_zero⟩⟩ (Wk.less (by kernel_rfl)) (fun g => ?_)
    obtain ⟨v3, hg2⟩ := g
    have hg2 : 0 ≤ v3 ∧ v3 ≤ s.size ∧ Upto (chR) (fun n => s[n]?) v3 := hg2
    obtain ⟨_, _, hA⟩ := hg2
    refine X.seq ?_
    refine X.seq ?_
    have hm : s.size ≤ 2000000 := hs
    refine X.rk ⟨[(0, .e (.c (.d (.v (.string s))))), (3, iV v3), (7, bV (decide ((v3 : Int) < (s.size : Int))))], [], 160⟩ hτ hmix (by kernel_rfl) (by kernel_rfl) rfl ?_
    refine X.if_ (b := decide ((v3 : Int) < (s.size : Int))) (by kernel_rfl) (fun hb3 => ?_) (fun hb3 => ?_)
    · replace hb3 := of_decide_eq_true (hb3)
      refine X.skip ?_
      refine X.seq ?_
      refine X.block ?_
      refine X.seq ?_
      refine X.rs 2 hτ hmix (by kernel_rfl) ?_
      obtain ⟨b4, hb4⟩ : ∃ b, s[Int.toNat v3]? = some b := ⟨_, getElem?_pos _ _ (by first | omega | (simp; done) | (simp; omega))⟩
      have hw5 := w8 b4
      refine CH.sidx hτ (s := s) (n := v3) b4 (by kernel_rfl) (by kernel_rfl) (by first | omega | (simp; done) | (simp; omega)) hb4 ?_
      refine CH.go 1 hτ (by kernel_rfl) ?_
      obtain ⟨r6, hr8, hf7⟩ := s_l1In (wr .i64 ((b4.toNat : Int))) 97 122
      replace hr8 := hr8.symm; subst hr8
      refine CH.call hf7 Try.func66 ⟨rfl, rfl⟩ [] (by kernel_rfl) (by kernel_rfl) (by kernel_rfl) (by kernel_rfl) ?_
      refine CH.go 2 hτ (by kernel_rfl) ?_
      rcases Bool.eq_false_or_eq_true (!(inR (wr .i64 ((b4.toNat : Int))) 97 122)) with hb10 | hb10
      · refine CH.alt 15 (sV (.bool (!(inR (wr .i64 ((b4.toNat : Int))) 97 122)))) (sV (.bool true)) (by kernel_rfl) (by rw [hb10]) ?_
        refine CH.alt 16 (sV (.bool (!(inR (wr .i64 ((b4.toNat : Int))) 97 122)))) (sV (.bool true)) (by kernel_rfl) (by rw [hb10]) ?_
        replace hb10 := inR_no (bnot_yes (hb10))
        refine CH.go 2 hτ (by kernel_rfl) ?_
        refine CH.sidx hτ (s := s) (n := v3) b4 (by kernel_rfl) (by kernel_rfl) (by first | omega | (simp; done) | (simp; omega)) hb4 ?_
        refine CH.go 1 hτ (by kernel_rfl) ?_
        obtain ⟨r11, hr13, hf12⟩ := s_l1In (wr .i64 ((b4.toNat : Int))) 48 57
        replace hr13 := hr13.symm; subst hr13
        refine CH.call hf12 Try.func66 ⟨rfl, rfl⟩ [] (by kernel_rfl) (by kernel_rfl) (by kernel_rfl) (by kernel_rfl) ?_
        refine CH.go 2 hτ (by kernel_rfl) ?_
        refine CH.endk ⟨[(0, .e (.c (.d (.v (.string s))))), (3, iV v3), (23, bV (!(inR (wr .i64 ((b4.toNat : Int))) 48 57)))], [], 384⟩ (by kernel_rfl) (by kernel_rfl) rfl ?_
        refine X.if_ (b := !(inR (wr .i64 ((b4.toNat : Int))) 48 57)) (by kernel_rfl) (fun hb15 => ?_) (fun hb15 => ?_)
        · replace hb15 := inR_no (bnot_yes (hb15))
          refine X.seq ?_
          refine X.rk ⟨[(2, bV false)], [], 400⟩ hτ hmix (by kernel_rfl) (by kernel_rfl) rfl ?_
          refine X.ret ?_
          exact ⟨trivial, _, _, ⟨false, (by first | exact (fls (fun h => upto_no (by omega) (by omega) ‹_› (fun hr => by first | (unfold chR at hr; omega)) h.1)) | exact (dcd (by rw [inR_iff]; exact ⟨fun h => ⟨upto_all hA (by omega), h⟩, fun h => h.2⟩))), rfl, rfl⟩, .inl (Ret.mk' [] (by kernel_rfl) (by kernel_rfl) (by kernel_rfl))⟩
        · replace hb15 := inR_yes (bnot_no (hb15))
          refine X.skip ?_
          refine X.rk ⟨[(0, .e (.c (.d (.v (.string s))))), (3, iV (wrap64 (v3 + 1)))], [], 432⟩ hτ hmix (by kernel_rfl) (by kernel_rfl) (s2 := ⟨[(0, .e (.c (.d (.v (.string s))))), (3, iV (v3 + 1))], [], 432⟩) (congrArg (fun z : Int => (⟨[(0, .e (.c (.d (.v (.string s))))), (3, iV z)], [], 432⟩ : St)) (show wrap64 (v3 + 1) = (v3 + 1) by rw [w64 (n := (v3 + 1)) (by omega) (by omega)])) ?_
          refine ⟨⟨(v3 + 1), ⟨by first | omega | (dsimp only; omega), by first | omega | (dsimp only; omega), upto_nx (by first | omega | (dsimp only; omega)) hA ‹_› (by unfold chR; omega)⟩⟩, by first | exact rfl | omega | (dsimp only; omega) | (simp only [List.length_append, List.length_cons, List.length_nil, List.length_set]; omega) | (simp; done) | (simp; omega), Wk.mk' [] (by kernel_rfl) (by kernel_rfl) (by kernel_rfl)⟩
      · refine CH.alt 15 (sV (.bool (!(inR (wr .i64 ((b4.toNat : Int))) 97 122)))) (sV (.bool false)) (by kernel_rfl) (by rw [hb10]) ?_
        refine CH.alt 16 (sV (.bool (!(inR (wr .i64 ((b4.toNat : Int))) 97 122)))) (sV (.bool false)) (by kernel_rfl) (by rw [hb10]) ?_
        replace hb10 := inR_yes (bnot_no (hb10))
        refine CH.go 7 hτ (by kernel_rfl) ?_
        refine CH.endk ⟨[(0, .e (.c (.d (.v (.string s))))), (3, iV v3), (23, bV false)], [], 384⟩ (by kernel_rfl) (by kernel_rfl) rfl ?_
        refine X.ifF (by kernel_rfl) ?_
        refine X.skip ?_
        refine X.rk ⟨[(0, .e (.c (.d (.v (.string s))))), (3, iV (wrap64 (v3 + 1)))], [], 432⟩ hτ hmix (by kernel_rfl) (by kernel_rfl) (s2 := ⟨[(0, .e (.c (.d (.v (.string s))))), (3, iV (v3 + 1))], [], 432⟩) (congrArg (fun z : Int => (⟨[(0, .e (.c (.d (.v (.string s))))), (3, iV z)], [], 432⟩ : St)) (show wrap64 (v3 + 1) = (v3 + 1) by rw [w64 (n := (v3 + 1)) (by omega) (by omega)])) ?_
        refine ⟨⟨(v3 + 1), ⟨by first | omega | (dsimp only; omega), by first | omega | (dsimp only; omega), upto_nx (by first | omega | (dsimp only; omega)) hA ‹_› (by unfold chR; omega)⟩⟩, by first | exact rfl | omega | (dsimp only; omega) | (simp only [List.length_append, List.length_cons, List.length_nil, List.length_set]; omega) | (simp; done) | (simp; omega), Wk.mk' [] (by kernel_rfl) (by kernel_rfl) (by kernel_rfl)⟩
    · replace hb3 := of_decide_eq_false (hb3)
      refine X.exit ?_
      refine X.seq ?_
      refine X.rs 2 hτ hmix (by kernel_rfl) ?_
      obtain ⟨r16, hr18, hf17⟩ := s_l1In (s.size : Int) 1 8
      replace hr18 := hr18.symm; subst hr18
      refine CH.call hf17 Try.func66 ⟨rfl, rfl⟩ [] (by kernel_rfl) (by kernel_rfl) (by kernel_rfl) (by kernel_rfl) ?_
      refine CH.go 1 hτ (by kernel_rfl) ?_
      refine CH.endk ⟨[(2, bV (inR (s.size : Int) 1 8))], [], 224⟩ (by kernel_rfl) (by kernel_rfl) rfl ?_
      refine X.ret ?_
      exact ⟨trivial, _, _, ⟨(inR (s.size : Int) 1 8), (by first | exact (fls (fun h => upto_no (by omega) (by omega) ‹_› (fun hr => by first | (unfold chR at hr; omega)) h.1)) | exact (dcd (by rw [inR_iff]; exact ⟨fun h => ⟨upto_all hA (by omega), h⟩, fun h => h.2⟩))), rfl, rfl⟩, .inl (Ret.mk' [] (by kernel_rfl) (by kernel_rfl) (by kernel_rfl))⟩
  obtain ⟨_, _, ⟨r0, q1, rfl, rfl⟩, hf⟩ := key
  exact ⟨r0, q1, hf⟩

theorem i_NameOk (s : ByteArray) (hs : SmS s) : ∃ r0 : Bool, (r0 = nameOk s) ∧ Fn Try.prog 73 [.e (.c (.d (.v (.string s))))] (lookH []) (bV r0) (lookH []) := by
  have key : ∃ x' h', ((fun x' h' => ∃ r0 : Bool, (r0 = nameOk s) ∧ x' = bV r0 ∧ h' = [])) x' h' ∧ Fn Try.prog 73 [.e (.c (.d (.v (.string s))))] (lookH []) x' (lookH h') := by
    refine Fn.bodyX (N := 36) hτ Try.func73 rfl rfl rfl rfl ?_
    refine X.seq ?_
    refine X.rk ⟨[(0, .e (.c (.d (.v (.string s)))))], [], 80⟩ hτ hmix (by kernel_rfl) (by kernel_rfl) rfl ?_
    refine X.seq ?_
    refine X.seq ?_
    refine X.rk ⟨[(0, .e (.c (.d (.v (.string s))))), (3, iV 0)], [], 96⟩ hτ hmix (by kernel_rfl) (by kernel_rfl) rfl ?_
    refine X.block ?_
    -- 2: v3 : Int
    refine X.loop (σ := { g : Int // (fun (v3 : Int) => 0 ≤ v3 ∧ v3 ≤ s.size ∧ Upto (chR) (fun n => s[n]?) v3) g }) (fun g => (fun (v3 : Int) => ⟨[(0, .e (.c (.d (.v (.string s))))), (3, iV v3)], [], 96⟩) g.1) (fun g => (fun (v3 : Int) => (s.size - v3).toNat) g.1) ⟨0, ⟨by first | omega | (dsimp only; omega), by first | omega | (dsimp only; omega), upto_zero⟩⟩ (Wk.less (by kernel_rfl)) (fun g => ?_)
    obtain ⟨v3, hg2⟩ := g
    have hg2 : 0 ≤ v3 ∧ v3 ≤ s.size ∧ Upto (chR) (fun n => s[n]?) v3 := hg2
    obtain ⟨_, _, hA⟩ := hg2
    refine X.seq ?_
    refine X.seq ?_
    have hm : s.size ≤ 2000000 := hs
    refine X.rk ⟨[(0, .e (.c (.d (.v (.string s))))), (3, iV v3), (7, bV (decide ((v3 : Int) < (s.size : Int))))], [], 160⟩ hτ hmix (by kernel_rfl) (by kernel_rfl) rfl ?_
    refine X.if_ (b := decide ((v3 : Int) < (s.size : Int))) (by kernel_rfl) (fun hb3 => ?_) (fun hb3 => ?_)
    · replace hb3 := of_decide_eq_true (hb3)
      refine X.skip ?_
      refine X.seq ?_
      refine X.block ?_
      refine X.seq ?_
      refine X.rs 2 hτ hmix (by kernel_rfl) ?_
      obtain ⟨b4, hb4⟩ : ∃ b, s[Int.toNat v3]? = some b := ⟨_, getElem?_pos _ _ (by first | omega | (simp; done) | (simp; omega))⟩
      have hw5 := w8 b4
      refine CH.sidx hτ (s := s) (n := v3) b4 (by kernel_rfl) (by kernel_rfl) (by first | omega | (simp; done) | (simp; omega)) hb4 ?_
      refine CH.go 2 hτ (by kernel_rfl) ?_
      rcases Bool.eq_false_or_eq_true (decide (((b4.toNat : Int) : Int) ≥ 97)) with hb6 | hb6
      · refine CH.alt 13 (sV (.bool (decide (((b4.toNat : Int) : Int) ≥ 97)))) (sV (.bool true)) (by kernel_rfl) (by rw [hb6]) ?_
        refine CH.alt 14 (sV (.bool (decide (((b4.toNat : Int) : Int) ≥ 97)))) (sV (.bool true)) (by kernel_rfl) (by rw [hb6]) ?_
        replace hb6 := of_decide_eq_true (hb6)
        refine CH.go 2 hτ (by kernel_rfl) ?_
        refine CH.sidx hτ (s := s) (n := v3) b4 (by kernel_rfl) (by kernel_rfl) (by first | omega | (simp; done) | (simp; omega)) hb4 ?_
        refine CH.go 3 hτ (by kernel_rfl) ?_
        rcases Bool.eq_false_or_eq_true (decide (((b4.toNat : Int) : Int) ≤ 122)) with hb7 | hb7
        · refine CH.alt 18 (sV (.bool (decide (((b4.toNat : Int) : Int) ≤ 122)))) (sV (.bool true)) (by kernel_rfl) (by rw [hb7]) ?_
          refine CH.alt 19 (sV (.bool (decide (((b4.toNat : Int) : Int) ≤ 122)))) (sV (.bool true)) (by kernel_rfl) (by rw [hb7]) ?_
          refine CH.alt 20 (sV (.bool (decide (((b4.toNat : Int) : Int) ≤ 122)))) (sV (.bool true)) (by kernel_rfl) (by rw [hb7]) ?_
          replace hb7 := of_decide_eq_true (hb7)
          refine CH.go 12 hτ (by kernel_rfl) ?_
          refine CH.endk ⟨[(0, .e (.c (.d (.v (.string s))))), (3, iV v3), (32, bV false)], [], 528⟩ (by kernel_rfl) (by kernel_rfl) rfl ?_
          refine X.ifF (by kernel_rfl) ?_
          refine X.skip ?_
          refine X.rk ⟨[(0, .e (.c (.d (.v (.string s))))), (3, iV (wrap64 (v3 + 1)))], [], 576⟩ hτ hmix (by kernel_rfl) (by kernel_rfl) (s2 := ⟨[(0, .e (.c (.d (.v (.string s))))), (3, iV (v3 + 1))], [], 576⟩) (congrArg (fun z : Int => (⟨[(0, .e (.c (.d (.v (.string s))))), (3, iV z)], [], 576⟩ : St)) (show wrap64 (v3 + 1) = (v3 + 1) by rw [w64 (n := (v3 + 1)) (by omega) (by omega)])) ?_
          refine ⟨⟨(v3 + 1), ⟨by first | omega | (dsimp only; omega), by first | omega | (dsimp only; omega), upto_nx (by first | omega | (dsimp only; omega)) hA ‹_› (by unfold chR; omega)⟩⟩, by first | exact rfl | omega | (dsimp only; omega) | (simp only [List.length_append, List.length_cons, List.length_nil, List.length_set]; omega) | (simp; done) | (simp; omega), Wk.mk' [] (by kernel_rfl) (by kernel_rfl) (by kernel_rfl)⟩
        · refine CH.alt 18 (sV (.bool (decide (((b4.toNat : Int) : Int) ≤ 122)))) (sV (.bool false)) (by kernel_rfl) (by rw [hb7]) ?_
          refine CH.alt 19 (sV (.bool (decide (((b4.toNat : Int) : Int) ≤ 122)))) (sV (.bool false)) (by kernel_rfl) (by rw [hb7]) ?_
          refine CH.alt 20 (sV (.bool (decide (((b4.toNat : Int) : Int) ≤ 122)))) (sV (.bool false)) (by kernel_rfl) (by rw [hb7]) ?_
          replace hb7 := of_decide_eq_false (hb7)
          refine CH.go 2 hτ (by kernel_rfl) ?_
          refine CH.sidx hτ (s := s) (n := v3) b4 (by kernel_rfl) (by kernel_rfl) (by first | omega | (simp; done) | (simp; omega)) hb4 ?_
          refine CH.go 2 hτ (by kernel_rfl) ?_
          rcases Bool.eq_false_or_eq_true (decide (((b4.toNat : Int) : Int) ≥ 48)) with hb8 | hb8
          · refine CH.alt 24 (sV (.bool (decide (((b4.toNat : Int) : Int) ≥ 48)))) (sV (.bool true)) (by kernel_rfl) (by rw [hb8]) ?_
            refine CH.alt 25 (sV (.bool (decide (((b4.toNat : Int) : Int) ≥ 48)))) (sV (.bool true)) (by kernel_rfl) (by rw [hb8]) ?_
            replace hb8 := of_decide_eq_true (hb8)
            refine CH.go 2 hτ (by kernel_rfl) ?_
            refine CH.sidx hτ (s := s) (n := v3) b4 (by kernel_rfl) (by kernel_rfl) (by first | omega | (simp; done) | (simp; omega)) hb4 ?_
            refine CH.go 4 hτ (by kernel_rfl) ?_
            refine CH.endk ⟨[(0, .e (.c (.d (.v (.string s))))), (3, iV v3), (32, bV (!(decide (((b4.toNat : Int) : Int) ≤ 57))))], [], 528⟩ (by kernel_rfl) (by kernel_rfl) rfl ?_
            refine X.if_ (b := !(decide (((b4.toNat : Int) : Int) ≤ 57))) (by kernel_rfl) (fun hb9 => ?_) (fun hb9 => ?_)
            · replace hb9 := of_decide_eq_false (bnot_yes (hb9))
              refine X.seq ?_
              refine X.rk ⟨[(2, bV false)], [], 544⟩ hτ hmix (by kernel_rfl) (by kernel_rfl) rfl ?_
              refine X.ret ?_
              exact ⟨trivial, _, _, ⟨false, (by first | exact (fls (fun h => upto_no (by omega) (by omega) ‹_› (fun hr => by first | (unfold chR at hr; omega)) h.1)) | exact (dcd (by rw [inR_iff]; exact ⟨fun h => ⟨upto_all hA (by omega), h⟩, fun h => h.2⟩))), rfl, rfl⟩, .inl (Ret.mk' [] (by kernel_rfl) (by kernel_rfl) (by kernel_rfl))⟩
            · replace hb9 := of_decide_eq_true (bnot_no (hb9))
              refine X.skip ?_
              refine X.rk ⟨[(0, .e (.c (.d (.v (.string s))))), (3, iV (wrap64 (v3 + 1)))], [], 576⟩ hτ hmix (by kernel_rfl) (by kernel_rfl) (s2 := ⟨[(0, .e (.c (.d (.v (.string s))))), (3, iV (v3 + 1))], [], 576⟩) (congrArg (fun z : Int => (⟨[(0, .e (.c (.d (.v (.string s))))), (3, iV z)], [], 576⟩ : St)) (show wrap64 (v3 + 1) = (v3 + 1) by rw [w64 (n := (v3 + 1)) (by omega) (by omega)])) ?_
              refine ⟨⟨(v3 + 1), ⟨by first | omega | (dsimp only; omega), by first | omega | (dsimp only; omega), upto_nx (by first | omega | (dsimp only; omega)) hA ‹_› (by unfold chR; omega)⟩⟩, by first | exact rfl | omega | (dsimp only; omega) | (simp only [List.length_append, List.length_cons, List.length_nil, List.length_set]; omega) | (simp; done) | (simp; omega), Wk.mk' [] (by kernel_rfl) (by kernel_rfl) (by kernel_rfl)⟩
          · refine CH.alt 24 (sV (.bool (decide (((b4.toNat : Int) : Int) ≥ 48)))) (sV (.bool false)) (by kernel_rfl) (by rw [hb8]) ?_
            refine CH.alt 25 (sV (.bool (decide (((b4.toNat : Int) : Int) ≥ 48)))) (sV (.bool false)) (by kernel_rfl) (by rw [hb8]) ?_
            replace hb8 := of_decide_eq_false (hb8)
            refine CH.go 7 hτ (by kernel_rfl) ?_
            refine CH.endk ⟨[(0, .e (.c (.d (.v (.string s))))), (3, iV v3), (32, bV true)], [], 528⟩ (by kernel_rfl) (by kernel_rfl) rfl ?_
            refine X.ifT (by kernel_rfl) ?_
            refine X.seq ?_
            refine X.rk ⟨[(2, bV false)], [], 544⟩ hτ hmix (by kernel_rfl) (by kernel_rfl) rfl ?_
            refine X.ret ?_
            exact ⟨trivial, _, _, ⟨false, (by first | exact (fls (fun h => upto_no (by omega) (by omega) ‹_› (fun hr => by first | (unfold chR at hr; omega)) h.1)) | exact (dcd (by rw [inR_iff]; exact ⟨fun h => ⟨upto_all hA (by omega), h⟩, fun h => h.2⟩))), rfl, rfl⟩, .inl (Ret.mk' [] (by kernel_rfl) (by kernel_rfl) (by kernel_rfl))⟩
      · refine CH.alt 13 (sV (.bool (decide (((b4.toNat : Int) : Int) ≥ 97)))) (sV (.bool false)) (by kernel_rfl) (by rw [hb6]) ?_
        refine CH.alt 14 (sV (.bool (decide (((b4.toNat : Int) : Int) ≥ 97)))) (sV (.bool false)) (by kernel_rfl) (by rw [hb6]) ?_
        replace hb6 := of_decide_eq_false (hb6)
        refine CH.go 8 hτ (by kernel_rfl) ?_
        refine CH.sidx hτ (s := s) (n := v3) b4 (by kernel_rfl) (by kernel_rfl) (by first | omega | (simp; done) | (simp; omega)) hb4 ?_
        refine CH.go 2 hτ (by kernel_rfl) ?_
        rcases Bool.eq_false_or_eq_true (decide (((b4.toNat : Int) : Int) ≥ 48)) with hb10 | hb10
        · refine CH.alt 24 (sV (.bool (decide (((b4.toNat : Int) : Int) ≥ 48)))) (sV (.bool true)) (by kernel_rfl) (by rw [hb10]) ?_
          refine CH.alt 25 (sV (.bool (decide (((b4.toNat : Int) : Int) ≥ 48)))) (sV (.bool true)) (by kernel_rfl) (by rw [hb10]) ?_
          replace hb10 := of_decide_eq_true (hb10)
          refine CH.go 2 hτ (by kernel_rfl) ?_
          refine CH.sidx hτ (s := s) (n := v3) b4 (by kernel_rfl) (by kernel_rfl) (by first | omega | (simp; done) | (simp; omega)) hb4 ?_
          refine CH.go 4 hτ (by kernel_rfl) ?_
          refine CH.endk ⟨[(0, .e (.c (.d (.v (.string s))))), (3, iV v3), (32, bV (!(decide (((b4.toNat : Int) : Int) ≤ 57))))], [], 528⟩ (by kernel_rfl) (by kernel_rfl) rfl ?_
          refine X.if_ (b := !(decide (((b4.toNat : Int) : Int) ≤ 57))) (by kernel_rfl) (fun hb11 => ?_) (fun hb11 => ?_)
          · replace hb11 := of_decide_eq_false (bnot_yes (hb11))
            refine X.seq ?_
            refine X.rk ⟨[(2, bV false)], [], 544⟩ hτ hmix (by kernel_rfl) (by kernel_rfl) rfl ?_
            refine X.ret ?_
            exact ⟨trivial, _, _, ⟨false, (by first | exact (fls (fun h => upto_no (by omega) (by omega) ‹_› (fun hr => by first | (unfold chR at hr; omega)) h.1)) | exact (dcd (by rw [inR_iff]; exact ⟨fun h => ⟨upto_all hA (by omega), h⟩, fun h => h.2⟩))), rfl, rfl⟩, .inl (Ret.mk' [] (by kernel_rfl) (by kernel_rfl) (by kernel_rfl))⟩
          · replace hb11 := of_decide_eq_true (bnot_no (hb11))
            refine X.skip ?_
            refine X.rk ⟨[(0, .e (.c (.d (.v (.string s))))), (3, iV (wrap64 (v3 + 1)))], [], 576⟩ hτ hmix (by kernel_rfl) (by kernel_rfl) (s2 := ⟨[(0, .e (.c (.d (.v (.string s))))), (3, iV (v3 + 1))], [], 576⟩) (congrArg (fun z : Int => (⟨[(0, .e (.c (.d (.v (.string s))))), (3, iV z)], [], 576⟩ : St)) (show wrap64 (v3 + 1) = (v3 + 1) by rw [w64 (n := (v3 + 1)) (by omega) (by omega)])) ?_
            refine ⟨⟨(v3 + 1), ⟨by first | omega | (dsimp only; omega), by first | omega | (dsimp only; omega), upto_nx (by first | omega | (dsimp only; omega)) hA ‹_› (by unfold chR; omega)⟩⟩, by first | exact rfl | omega | (dsimp only; omega) | (simp only [List.length_append, List.length_cons, List.length_nil, List.length_set]; omega) | (simp; done) | (simp; omega), Wk.mk' [] (by kernel_rfl) (by kernel_rfl) (by kernel_rfl)⟩
        · refine CH.alt 24 (sV (.bool (decide (((b4.toNat : Int) : Int) ≥ 48)))) (sV (.bool false)) (by kernel_rfl) (by rw [hb10]) ?_
          refine CH.alt 25 (sV (.bool (decide (((b4.toNat : Int) : Int) ≥ 48)))) (sV (.bool false)) (by kernel_rfl) (by rw [hb10]) ?_
          replace hb10 := of_decide_eq_false (hb10)
          refine CH.go 7 hτ (by kernel_rfl) ?_
          refine CH.endk ⟨[(0, .e (.c (.d (.v (.string s))))), (3, iV v3), (32, bV true)], [], 528⟩ (by kernel_rfl) (by kernel_rfl) rfl ?_
          refine X.ifT (by kernel_rfl) ?_
          refine X.seq ?_
          refine X.rk ⟨[(2, bV false)], [], 544⟩ hτ hmix (by kernel_rfl) (by kernel_rfl) rfl ?_
          refine X.ret ?_
          exact ⟨trivial, _, _, ⟨false, (by first | exact (fls (fun h => upto_no (by omega) (by omega) ‹_› (fun hr => by first | (unfold chR at hr; omega)) h.1)) | exact (dcd (by rw [inR_iff]; exact ⟨fun h => ⟨upto_all hA (by omega), h⟩, fun h => h.2⟩))), rfl, rfl⟩, .inl (Ret.mk' [] (by kernel_rfl) (by kernel_rfl) (by kernel_rfl))⟩
    · replace hb3 := of_decide_eq_false (hb3)
      refine X.exit ?_
      refine X.seq ?_
      refine X.rs 2 hτ hmix (by kernel_rfl) ?_
      obtain ⟨r12, hr14, hf13⟩ := i_inRange (s.size : Int) 1 8
      replace hr14 := hr14.symm; subst hr14
      refine CH.call hf13 Try.func72 ⟨rfl, rfl⟩ [] (by kernel_rfl) (by kernel_rfl) (by kernel_rfl) (by kernel_rfl) ?_
      refine CH.go 1 hτ (by kernel_rfl) ?_
      refine CH.endk ⟨[(2, bV (inR (s.size : Int) 1 8))], [], 224⟩ (by kernel_rfl) (by kernel_rfl) rfl ?_
      refine X.ret ?_
      exact ⟨trivial, _, _, ⟨(inR (s.size : Int) 1 8), (by first | exact (fls (fun h => upto_no (by omega) (by omega) ‹_› (fun hr => by first | (unfold chR at hr; omega)) h.1)) | exact (dcd (by rw [inR_iff]; exact ⟨fun h => ⟨upto_all hA (by omega), h⟩, fun h => h.2⟩))), rfl, rfl⟩, .inl (Ret.mk' [] (by kernel_rfl) (by kernel_rfl) (by kernel_rfl))⟩
  obtain ⟨_, _, ⟨r0, q1, rfl, rfl⟩, hf⟩ := key
  exact ⟨r0, q1, hf⟩

theorem s_TxOk (t : S26) (ht : Sm26 t) : ∃ r0 : Bool, (r0 = txOk t) ∧ Fn Try.prog 70 [.e (.agg (cD (d26 t)))] (lookH []) (bV r0) (lookH []) := by
  have key : ∃ x' h', ((fun x' h' => ∃ r0 : Bool, (r0 = txOk t) ∧ x' = bV r0 ∧ h' = [])) x' h' ∧ Fn Try.prog 70 [.e (.agg (cD (d26 t)))] (lookH []) x' (lookH h') := by
    refine Fn.bodyX (N := 33) hτ Try.func70 rfl rfl rfl rfl ?_
    refine X.seq ?_
    refine X.rk ⟨[(1, .pt 64 0 0)], [(64, some (.box (cD (d26 t))))], 96⟩ hτ hmix (by kernel_rfl) (by kernel_rfl) rfl ?_
    refine X.seq ?_
    refine X.seq ?_
    refine X.rs 2 hτ hmix (by kernel_rfl) ?_
    obtain ⟨r1, hr3, hf2⟩ := s_NameOk t.f1 (by exact ht.1)
    replace hr3 := hr3.symm; subst hr3
    refine CH.call hf2 Try.func67 ⟨rfl, rfl⟩ [] (by kernel_rfl) (by kernel_rfl) (by kernel_rfl) (by kernel_rfl) ?_
    refine CH.go 2 hτ (by kernel_rfl) ?_
    rcases Bool.eq_false_or_eq_true (!(nameOk t.f1)) with hb5 | hb5
    · refine CH.alt 6 (sV (.bool (!(nameOk t.f1)))) (sV (.bool true)) (by kernel_rfl) (by rw [hb5]) ?_
      refine CH.alt 7 (sV (.bool (!(nameOk t.f1)))) (sV (.bool true)) (by kernel_rfl) (by rw [hb5]) ?_
      replace hb5 := bnot_yes (hb5)
      refine CH.go 11 hτ (by kernel_rfl) ?_
      refine CH.endk ⟨[(1, .pt 64 0 0), (18, bV true)], [(64, some (.box (cD (d26 t))))], 352⟩ (by kernel_rfl) (by kernel_rfl) rfl ?_
      refine X.ifT (by kernel_rfl) ?_
      refine X.seq ?_
      refine X.rk ⟨[(2, bV false)], [], 368⟩ hτ hmix (by kernel_rfl) (by kernel_rfl) rfl ?_
      refine X.ret ?_
      exact ⟨trivial, _, _, ⟨false, (by rw [Bool.eq_iff_iff]; simp only [txOk, Bool.and_eq_true, Bool.or_eq_true, inR_iff, decide_eq_true_eq, beq_iff_eq, Bool.false_eq_true, false_iff, true_iff, List.length_map]; first | (intro h; omega) | (intro h; simp_all; done) | (simp_all; done) | (simp_all; omega) | (constructor <;> intro h <;> (first | (simp_all; done) | (simp_all; omega) | omega))), rfl, rfl⟩, .inl (Ret.mk' [] (by kernel_rfl) (by kernel_rfl) (by kernel_rfl))⟩
    · refine CH.alt 6 (sV (.bool (!(nameOk t.f1)))) (sV (.bool false)) (by kernel_rfl) (by rw [hb5]) ?_
      refine CH.alt 7 (sV (.bool (!(nameOk t.f1)))) (sV (.bool false)) (by kernel_rfl) (by rw [hb5]) ?_
      replace hb5 := bnot_no (hb5)
      refine CH.go 2 hτ (by kernel_rfl) ?_
      obtain ⟨r6, hr8, hf7⟩ := s_l1In t.f3 1 1000000
      replace hr8 := hr8.symm; subst hr8
      refine CH.call hf7 Try.func66 ⟨rfl, rfl⟩ [] (by kernel_rfl) (by kernel_rfl) (by kernel_rfl) (by kernel_rfl) ?_
      refine CH.go 3 hτ (by kernel_rfl) ?_
      rcases Bool.eq_false_or_eq_true (!(inR t.f3 1 1000000)) with hb10 | hb10
      · refine CH.alt 11 (sV (.bool (!(inR t.f3 1 1000000)))) (sV (.bool true)) (by kernel_rfl) (by rw [hb10]) ?_
        refine CH.alt 12 (sV (.bool (!(inR t.f3 1 1000000)))) (sV (.bool true)) (by kernel_rfl) (by rw [hb10]) ?_
        refine CH.alt 13 (sV (.bool (!(inR t.f3 1 1000000)))) (sV (.bool true)) (by kernel_rfl) (by rw [hb10]) ?_
        replace hb10 := inR_no (bnot_yes (hb10))
        refine CH.go 5 hτ (by kernel_rfl) ?_
        refine CH.endk ⟨[(1, .pt 64 0 0), (18, bV true)], [(64, some (.box (cD (d26 t))))], 352⟩ (by kernel_rfl) (by kernel_rfl) rfl ?_
        refine X.ifT (by kernel_rfl) ?_
        refine X.seq ?_
        refine X.rk ⟨[(2, bV false)], [], 368⟩ hτ hmix (by kernel_rfl) (by kernel_rfl) rfl ?_
        refine X.ret ?_
        exact ⟨trivial, _, _, ⟨false, (by rw [Bool.eq_iff_iff]; simp only [txOk, Bool.and_eq_true, Bool.or_eq_true, inR_iff, decide_eq_true_eq, beq_iff_eq, Bool.false_eq_true, false_iff, true_iff, List.length_map]; first | (intro h; omega) | (intro h; simp_all; done) | (simp_all; done) | (simp_all; omega) | (constructor <;> intro h <;> (first | (simp_all; done) | (simp_all; omega) | omega))), rfl, rfl⟩, .inl (Ret.mk' [] (by kernel_rfl) (by kernel_rfl) (by kernel_rfl))⟩
      · refine CH.alt 11 (sV (.bool (!(inR t.f3 1 1000000)))) (sV (.bool false)) (by kernel_rfl) (by rw [hb10]) ?_
        refine CH.alt 12 (sV (.bool (!(inR t.f3 1 1000000)))) (sV (.bool false)) (by kernel_rfl) (by rw [hb10]) ?_
        refine CH.alt 13 (sV (.bool (!(inR t.f3 1 1000000)))) (sV (.bool false)) (by kernel_rfl) (by rw [hb10]) ?_
        replace hb10 := inR_yes (bnot_no (hb10))
        refine CH.go 2 hτ (by kernel_rfl) ?_
        obtain ⟨r11, hr13, hf12⟩ := s_l1In t.f4 0 10000
        replace hr13 := hr13.symm; subst hr13
        refine CH.call hf12 Try.func66 ⟨rfl, rfl⟩ [] (by kernel_rfl) (by kernel_rfl) (by kernel_rfl) (by kernel_rfl) ?_
        refine CH.go 2 hτ (by kernel_rfl) ?_
        refine CH.endk ⟨[(1, .pt 64 0 0), (18, bV (!(inR t.f4 0 10000)))], [(64, some (.box (cD (d26 t))))], 352⟩ (by kernel_rfl) (by kernel_rfl) rfl ?_
        refine X.if_ (b := !(inR t.f4 0 10000)) (by kernel_rfl) (fun hb15 => ?_) (fun hb15 => ?_)
        · replace hb15 := inR_no (bnot_yes (hb15))
          refine X.seq ?_
          refine X.rk ⟨[(2, bV false)], [], 368⟩ hτ hmix (by kernel_rfl) (by kernel_rfl) rfl ?_
          refine X.ret ?_
          exact ⟨trivial, _, _, ⟨false, (by rw [Bool.eq_iff_iff]; simp only [txOk, Bool.and_eq_true, Bool.or_eq_true, inR_iff, decide_eq_true_eq, beq_iff_eq, Bool.false_eq_true, false_iff, true_iff, List.length_map]; first | (intro h; omega) | (intro h; simp_all; done) | (simp_all; done) | (simp_all; omega) | (constructor <;> intro h <;> (first | (simp_all; done) | (simp_all; omega) | omega))), rfl, rfl⟩, .inl (Ret.mk' [] (by kernel_rfl) (by kernel_rfl) (by kernel_rfl))⟩
        · replace hb15 := inR_yes (bnot_no (hb15))
          refine X.skip ?_
          refine X.seq ?_
          refine X.seq ?_
          refine X.rk ⟨[(1, .pt 64 0 0), (21, bV (t.f0 == 1))], [(64, some (.box (cD (d26 t))))], 400⟩ hτ hmix (by kernel_rfl) (by kernel_rfl) rfl ?_
          refine X.if_ (b := (t.f0 == 1)) (by kernel_rfl) (fun hb16 => ?_) (fun hb16 => ?_)
          · replace hb16 := eq_of_beq (hb16)
            refine X.seq ?_
            refine X.rs 2 hτ hmix (by kernel_rfl) ?_
            obtain ⟨r17, hr19, hf18⟩ := s_NameOk t.f2 (by exact ht.2)
            replace hr19 := hr19.symm; subst hr19
            refine CH.call hf18 Try.func67 ⟨rfl, rfl⟩ [] (by kernel_rfl) (by kernel_rfl) (by kernel_rfl) (by kernel_rfl) ?_
            refine CH.go 1 hτ (by kernel_rfl) ?_
            refine CH.endk ⟨[(2, bV (nameOk t.f2))], [], 464⟩ (by kernel_rfl) (by kernel_rfl) rfl ?_
            refine X.ret ?_
            exact ⟨trivial, _, _, ⟨(nameOk t.f2), (by rw [Bool.eq_iff_iff]; simp only [txOk, Bool.and_eq_true, Bool.or_eq_true, inR_iff, decide_eq_true_eq, beq_iff_eq, Bool.false_eq_true, false_iff, true_iff, List.length_map]; first | (intro h; omega) | (intro h; simp_all; done) | (simp_all; done) | (simp_all; omega) | (constructor <;> intro h <;> (first | (simp_all; done) | (simp_all; omega) | omega))), rfl, rfl⟩, .inl (Ret.mk' [] (by kernel_rfl) (by kernel_rfl) (by kernel_rfl))⟩
          · replace hb16 := beq_eq_false_iff_ne.1 (hb16)
            refine X.skip ?_
            refine X.seq ?_
            refine X.rs 2 hτ hmix (by kernel_rfl) ?_
            obtain ⟨r21, hr23, hf22⟩ := s_l1In t.f0 2 3
            replace hr23 := hr23.symm; subst hr23
            refine CH.call hf22 Try.func66 ⟨rfl, rfl⟩ [] (by kernel_rfl) (by kernel_rfl) (by kernel_rfl) (by kernel_rfl) ?_
            refine CH.go 1 hτ (by kernel_rfl) ?_
            rcases Bool.eq_false_or_eq_true ((inR t.f0 2 3)) with hb25 | hb25
            · refine CH.alt 27 (sV (.bool ((inR t.f0 2 3)))) (sV (.bool true)) (by kernel_rfl) (by rw [hb25]) ?_
              refine CH.alt 28 (sV (.bool ((inR t.f0 2 3)))) (sV (.bool true)) (by kernel_rfl) (by rw [hb25]) ?_
              replace hb25 := inR_yes (hb25)
              refine CH.go 5 hτ (by kernel_rfl) ?_
              refine CH.endk ⟨[(2, bV (t.f2.toList == (⟨#[]⟩ : ByteArray).toList))], [], 544⟩ (by kernel_rfl) (by kernel_rfl) rfl ?_
              refine X.ret ?_
              exact ⟨trivial, _, _, ⟨(t.f2.toList == (⟨#[]⟩ : ByteArray).toList), (by rw [Bool.eq_iff_iff]; simp only [txOk, Bool.and_eq_true, Bool.or_eq_true, inR_iff, decide_eq_true_eq, beq_iff_eq, Bool.false_eq_true, false_iff, true_iff, List.length_map]; first | (intro h; omega) | (intro h; simp_all; done) | (simp_all; done) | (simp_all; omega) | (constructor <;> intro h <;> (first | (simp_all; done) | (simp_all; omega) | omega))), rfl, rfl⟩, .inl (Ret.mk' [] (by kernel_rfl) (by kernel_rfl) (by kernel_rfl))⟩
            · refine CH.alt 27 (sV (.bool ((inR t.f0 2 3)))) (sV (.bool false)) (by kernel_rfl) (by rw [hb25]) ?_
              refine CH.alt 28 (sV (.bool ((inR t.f0 2 3)))) (sV (.bool false)) (by kernel_rfl) (by rw [hb25]) ?_
              replace hb25 := inR_no (hb25)
              refine CH.go 5 hτ (by kernel_rfl) ?_
              refine CH.endk ⟨[(2, bV false)], [], 544⟩ (by kernel_rfl) (by kernel_rfl) rfl ?_
              refine X.ret ?_
              exact ⟨trivial, _, _, ⟨false, (by rw [Bool.eq_iff_iff]; simp only [txOk, Bool.and_eq_true, Bool.or_eq_true, inR_iff, decide_eq_true_eq, beq_iff_eq, Bool.false_eq_true, false_iff, true_iff, List.length_map]; first | (intro h; omega) | (intro h; simp_all; done) | (simp_all; done) | (simp_all; omega) | (constructor <;> intro h <;> (first | (simp_all; done) | (simp_all; omega) | omega))), rfl, rfl⟩, .inl (Ret.mk' [] (by kernel_rfl) (by kernel_rfl) (by kernel_rfl))⟩
  obtain ⟨_, _, ⟨r0, q1, rfl, rfl⟩, hf⟩ := key
  exact ⟨r0, q1, hf⟩

theorem i_TxOk (t : S26) (ht : Sm26 t) : ∃ r0 : Bool, (r0 = txOk t) ∧ Fn Try.prog 57 [.e (.agg (cD (d26 t)))] (lookH []) (bV r0) (lookH []) := by
  have key : ∃ x' h', ((fun x' h' => ∃ r0 : Bool, (r0 = txOk t) ∧ x' = bV r0 ∧ h' = [])) x' h' ∧ Fn Try.prog 57 [.e (.agg (cD (d26 t)))] (lookH []) x' (lookH h') := by
    refine Fn.bodyX (N := 34) hτ Try.func57 rfl rfl rfl rfl ?_
    refine X.seq ?_
    refine X.rk ⟨[(1, .pt 64 0 0)], [(64, some (.box (cD (d26 t))))], 96⟩ hτ hmix (by kernel_rfl) (by kernel_rfl) rfl ?_
    refine X.seq ?_
    refine X.seq ?_
    refine X.rs 2 hτ hmix (by kernel_rfl) ?_
    obtain ⟨r1, hr3, hf2⟩ := i_inRange t.f0 1 3
    replace hr3 := hr3.symm; subst hr3
    refine CH.call hf2 Try.func72 ⟨rfl, rfl⟩ [] (by kernel_rfl) (by kernel_rfl) (by kernel_rfl) (by kernel_rfl) ?_
    refine CH.go 2 hτ (by kernel_rfl) ?_
    rcases Bool.eq_false_or_eq_true (!(inR t.f0 1 3)) with hb5 | hb5
    · refine CH.alt 6 (sV (.bool (!(inR t.f0 1 3)))) (sV (.bool true)) (by kernel_rfl) (by rw [hb5]) ?_
      refine CH.alt 7 (sV (.bool (!(inR t.f0 1 3)))) (sV (.bool true)) (by kernel_rfl) (by rw [hb5]) ?_
      replace hb5 := inR_no (bnot_yes (hb5))
      refine CH.go 17 hτ (by kernel_rfl) ?_
      refine CH.endk ⟨[(1, .pt 64 0 0), (24, bV true)], [(64, some (.box (cD (d26 t))))], 448⟩ (by kernel_rfl) (by kernel_rfl) rfl ?_
      refine X.ifT (by kernel_rfl) ?_
      refine X.seq ?_
      refine X.rk ⟨[(2, bV false)], [], 464⟩ hτ hmix (by kernel_rfl) (by kernel_rfl) rfl ?_
      refine X.ret ?_
      exact ⟨trivial, _, _, ⟨false, (by rw [Bool.eq_iff_iff]; simp only [txOk, Bool.and_eq_true, Bool.or_eq_true, inR_iff, decide_eq_true_eq, beq_iff_eq, Bool.false_eq_true, false_iff, true_iff, List.length_map]; first | (intro h; omega) | (intro h; simp_all; done) | (simp_all; done) | (simp_all; omega) | (constructor <;> intro h <;> (first | (simp_all; done) | (simp_all; omega) | omega))), rfl, rfl⟩, .inl (Ret.mk' [] (by kernel_rfl) (by kernel_rfl) (by kernel_rfl))⟩
    · refine CH.alt 6 (sV (.bool (!(inR t.f0 1 3)))) (sV (.bool false)) (by kernel_rfl) (by rw [hb5]) ?_
      refine CH.alt 7 (sV (.bool (!(inR t.f0 1 3)))) (sV (.bool false)) (by kernel_rfl) (by rw [hb5]) ?_
      replace hb5 := inR_yes (bnot_no (hb5))
      refine CH.go 2 hτ (by kernel_rfl) ?_
      obtain ⟨r6, hr8, hf7⟩ := i_NameOk t.f1 (by exact ht.1)
      replace hr8 := hr8.symm; subst hr8
      refine CH.call hf7 Try.func73 ⟨rfl, rfl⟩ [] (by kernel_rfl) (by kernel_rfl) (by kernel_rfl) (by kernel_rfl) ?_
      refine CH.go 3 hτ (by kernel_rfl) ?_
      rcases Bool.eq_false_or_eq_true (!(nameOk t.f1)) with hb10 | hb10
      · refine CH.alt 11 (sV (.bool (!(nameOk t.f1)))) (sV (.bool true)) (by kernel_rfl) (by rw [hb10]) ?_
        refine CH.alt 12 (sV (.bool (!(nameOk t.f1)))) (sV (.bool true)) (by kernel_rfl) (by rw [hb10]) ?_
        refine CH.alt 13 (sV (.bool (!(nameOk t.f1)))) (sV (.bool true)) (by kernel_rfl) (by rw [hb10]) ?_
        replace hb10 := bnot_yes (hb10)
        refine CH.go 11 hτ (by kernel_rfl) ?_
        refine CH.endk ⟨[(1, .pt 64 0 0), (24, bV true)], [(64, some (.box (cD (d26 t))))], 448⟩ (by kernel_rfl) (by kernel_rfl) rfl ?_
        refine X.ifT (by kernel_rfl) ?_
        refine X.seq ?_
        refine X.rk ⟨[(2, bV false)], [], 464⟩ hτ hmix (by kernel_rfl) (by kernel_rfl) rfl ?_
        refine X.ret ?_
        exact ⟨trivial, _, _, ⟨false, (by rw [Bool.eq_iff_iff]; simp only [txOk, Bool.and_eq_true, Bool.or_eq_true, inR_iff, decide_eq_true_eq, beq_iff_eq, Bool.false_eq_true, false_iff, true_iff, List.length_map]; first | (intro h; omega) | (intro h; simp_all; done) | (simp_all; done) | (simp_all; omega) | (constructor <;> intro h <;> (first | (simp_all; done) | (simp_all; omega) | omega))), rfl, rfl⟩, .inl (Ret.mk' [] (by kernel_rfl) (by kernel_rfl) (by kernel_rfl))⟩
      · refine CH.alt 11 (sV (.bool (!(nameOk t.f1)))) (sV (.bool false)) (by kernel_rfl) (by rw [hb10]) ?_
        refine CH.alt 12 (sV (.bool (!(nameOk t.f1)))) (sV (.bool false)) (by kernel_rfl) (by rw [hb10]) ?_
        refine CH.alt 13 (sV (.bool (!(nameOk t.f1)))) (sV (.bool false)) (by kernel_rfl) (by rw [hb10]) ?_
        replace hb10 := bnot_no (hb10)
        refine CH.go 2 hτ (by kernel_rfl) ?_
        obtain ⟨r11, hr13, hf12⟩ := i_inRange t.f3 1 1000000
        replace hr13 := hr13.symm; subst hr13
        refine CH.call hf12 Try.func72 ⟨rfl, rfl⟩ [] (by kernel_rfl) (by kernel_rfl) (by kernel_rfl) (by kernel_rfl) ?_
        refine CH.go 3 hτ (by kernel_rfl) ?_
        rcases Bool.eq_false_or_eq_true (!(inR t.f3 1 1000000)) with hb15 | hb15
        · refine CH.alt 17 (sV (.bool (!(inR t.f3 1 1000000)))) (sV (.bool true)) (by kernel_rfl) (by rw [hb15]) ?_
          refine CH.alt 18 (sV (.bool (!(inR t.f3 1 1000000)))) (sV (.bool true)) (by kernel_rfl) (by rw [hb15]) ?_
          refine CH.alt 19 (sV (.bool (!(inR t.f3 1 1000000)))) (sV (.bool true)) (by kernel_rfl) (by rw [hb15]) ?_
          replace hb15 := inR_no (bnot_yes (hb15))
          refine CH.go 5 hτ (by kernel_rfl) ?_
          refine CH.endk ⟨[(1, .pt 64 0 0), (24, bV true)], [(64, some (.box (cD (d26 t))))], 448⟩ (by kernel_rfl) (by kernel_rfl) rfl ?_
          refine X.ifT (by kernel_rfl) ?_
          refine X.seq ?_
          refine X.rk ⟨[(2, bV false)], [], 464⟩ hτ hmix (by kernel_rfl) (by kernel_rfl) rfl ?_
          refine X.ret ?_
          exact ⟨trivial, _, _, ⟨false, (by rw [Bool.eq_iff_iff]; simp only [txOk, Bool.and_eq_true, Bool.or_eq_true, inR_iff, decide_eq_true_eq, beq_iff_eq, Bool.false_eq_true, false_iff, true_iff, List.length_map]; first | (intro h; omega) | (intro h; simp_all; done) | (simp_all; done) | (simp_all; omega) | (constructor <;> intro h <;> (first | (simp_all; done) | (simp_all; omega) | omega))), rfl, rfl⟩, .inl (Ret.mk' [] (by kernel_rfl) (by kernel_rfl) (by kernel_rfl))⟩
        · refine CH.alt 17 (sV (.bool (!(inR t.f3 1 1000000)))) (sV (.bool false)) (by kernel_rfl) (by rw [hb15]) ?_
          refine CH.alt 18 (sV (.bool (!(inR t.f3 1 1000000)))) (sV (.bool false)) (by kernel_rfl) (by rw [hb15]) ?_
          refine CH.alt 19 (sV (.bool (!(inR t.f3 1 1000000)))) (sV (.bool false)) (by kernel_rfl) (by rw [hb15]) ?_
          replace hb15 := inR_yes (bnot_no (hb15))
          refine CH.go 2 hτ (by kernel_rfl) ?_
          obtain ⟨r16, hr18, hf17⟩ := i_inRange t.f4 0 10000
          replace hr18 := hr18.symm; subst hr18
          refine CH.call hf17 Try.func72 ⟨rfl, rfl⟩ [] (by kernel_rfl) (by kernel_rfl) (by kernel_rfl) (by kernel_rfl) ?_
          refine CH.go 2 hτ (by kernel_rfl) ?_
          refine CH.endk ⟨[(1, .pt 64 0 0), (24, bV (!(inR t.f4 0 10000)))], [(64, some (.box (cD (d26 t))))], 448⟩ (by kernel_rfl) (by kernel_rfl) rfl ?_
          refine X.if_ (b := !(inR t.f4 0 10000)) (by kernel_rfl) (fun hb20 => ?_) (fun hb20 => ?_)
          · replace hb20 := inR_no (bnot_yes (hb20))
            refine X.seq ?_
            refine X.rk ⟨[(2, bV false)], [], 464⟩ hτ hmix (by kernel_rfl) (by kernel_rfl) rfl ?_
            refine X.ret ?_
            exact ⟨trivial, _, _, ⟨false, (by rw [Bool.eq_iff_iff]; simp only [txOk, Bool.and_eq_true, Bool.or_eq_true, inR_iff, decide_eq_true_eq, beq_iff_eq, Bool.false_eq_true, false_iff, true_iff, List.length_map]; first | (intro h; omega) | (intro h; simp_all; done) | (simp_all; done) | (simp_all; omega) | (constructor <;> intro h <;> (first | (simp_all; done) | (simp_all; omega) | omega))), rfl, rfl⟩, .inl (Ret.mk' [] (by kernel_rfl) (by kernel_rfl) (by kernel_rfl))⟩
          · replace hb20 := inR_yes (bnot_no (hb20))
            refine X.skip ?_
            refine X.seq ?_
            refine X.seq ?_
            refine X.rk ⟨[(1, .pt 64 0 0), (27, bV (t.f0 == 1))], [(64, some (.box (cD (d26 t))))], 496⟩ hτ hmix (by kernel_rfl) (by kernel_rfl) rfl ?_
            refine X.if_ (b := (t.f0 == 1)) (by kernel_rfl) (fun hb21 => ?_) (fun hb21 => ?_)
            · replace hb21 := eq_of_beq (hb21)
              refine X.seq ?_
              refine X.rs 2 hτ hmix (by kernel_rfl) ?_
              obtain ⟨r22, hr24, hf23⟩ := i_NameOk t.f2 (by exact ht.2)
              replace hr24 := hr24.symm; subst hr24
              refine CH.call hf23 Try.func73 ⟨rfl, rfl⟩ [] (by kernel_rfl) (by kernel_rfl) (by kernel_rfl) (by kernel_rfl) ?_
              refine CH.go 1 hτ (by kernel_rfl) ?_
              refine CH.endk ⟨[(2, bV (nameOk t.f2))], [], 560⟩ (by kernel_rfl) (by kernel_rfl) rfl ?_
              refine X.ret ?_
              exact ⟨trivial, _, _, ⟨(nameOk t.f2), (by rw [Bool.eq_iff_iff]; simp only [txOk, Bool.and_eq_true, Bool.or_eq_true, inR_iff, decide_eq_true_eq, beq_iff_eq, Bool.false_eq_true, false_iff, true_iff, List.length_map]; first | (intro h; omega) | (intro h; simp_all; done) | (simp_all; done) | (simp_all; omega) | (constructor <;> intro h <;> (first | (simp_all; done) | (simp_all; omega) | omega))), rfl, rfl⟩, .inl (Ret.mk' [] (by kernel_rfl) (by kernel_rfl) (by kernel_rfl))⟩
            · replace hb21 := beq_eq_false_iff_ne.1 (hb21)
              refine X.skip ?_
              refine X.seq ?_
              refine X.rk ⟨[(2, bV (t.f2.toList == (⟨#[]⟩ : ByteArray).toList))], [], 560⟩ hτ hmix (by kernel_rfl) (by kernel_rfl) rfl ?_
              refine X.ret ?_
              exact ⟨trivial, _, _, ⟨(t.f2.toList == (⟨#[]⟩ : ByteArray).toList), (by rw [Bool.eq_iff_iff]; simp only [txOk, Bool.and_eq_true, Bool.or_eq_true, inR_iff, decide_eq_true_eq, beq_iff_eq, Bool.false_eq_true, false_iff, true_iff, List.length_map]; first | (intro h; omega) | (intro h; simp_all; done) | (simp_all; done) | (simp_all; omega) | (constructor <;> intro h <;> (first | (simp_all; done) | (simp_all; omega) | omega))), rfl, rfl⟩, .inl (Ret.mk' [] (by kernel_rfl) (by kernel_rfl) (by kernel_rfl))⟩
  obtain ⟨_, _, ⟨r0, q1, rfl, rfl⟩, hf⟩ := key
  exact ⟨r0, q1, hf⟩

end Go.Proofs.Ytnieghbgcjbnhaa.Av
