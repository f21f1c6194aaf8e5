/-
What functions of the program come to, walked one by one.
Conditions: none beside those that each theorem names.
-/
import Derived.Test.YtnieghbgcjbnhaaAvA
set_option linter.unusedVariables false
set_option linter.unusedSimpArgs false
namespace Go.Proofs.Ytnieghbgcjbnhaa.Av
open Go.RowKit
set_option maxRecDepth 20000
set_option maxHeartbeats 4000000

section
variable {l : List S49} {i : Int} {x p : S49}
end
theorem s_l1In (x : Int) (lo : Int) (hi : Int) : ∃ r0 : Bool, (r0 = inR x lo hi) ∧ Fn Try.prog 66 [iV x, iV lo, iV hi] (lookH []) (bV r0) (lookH []) := by
 have key : ∃ x' h', ((fun x' h' => ∃ r0 : Bool, (r0 = inR x lo hi) ∧ x' = bV r0 ∧ h' = [])) x' h' ∧ Fn Try.prog 66 [iV x, iV lo, iV hi] (lookH []) x' (lookH h') := by
  refine Fn.bodyX (N := 15) hτ Try.func66 rfl rfl rfl rfl ?_
  refine X.seq ?_
  refine X.rk ⟨[(0, iV x), (1, iV lo), (2, iV hi)], [], 80⟩ hτ hmix (by kernel_rfl) (by kernel_rfl) rfl ?_
  refine X.seq ?_
  refine X.rs 4 hτ hmix (by kernel_rfl) ?_
  rcases Bool.eq_false_or_eq_true (decide ((x : Int) ≥ lo)) with hb1 | hb1
  ·refine CH.alt 9 (sV (.bool (decide ((x : Int) ≥ lo)))) (sV (.bool true)) (by kernel_rfl) (by rw [hb1]) ?_
   refine CH.alt 10 (sV (.bool (decide ((x : Int) ≥ lo)))) (sV (.bool true)) (by kernel_rfl) (by rw [hb1]) ?_
   replace hb1 := of_decide_eq_true (hb1)
   refine CH.go 5 hτ (by kernel_rfl) ?_
   refine CH.endk ⟨[(6, bV (decide ((x : Int) ≤ hi)))], [], 224⟩ (by kernel_rfl) (by kernel_rfl) rfl ?_
   refine X.ret ?_
   exact ⟨trivial, _, _, ⟨decide ((x : Int) ≤ hi), (by simp [inR, *]), rfl, rfl⟩, .inl (Ret.mk' [] (by kernel_rfl) (by kernel_rfl) (by kernel_rfl))⟩
  ·refine CH.alt 9 (sV (.bool (decide ((x : Int) ≥ lo)))) (sV (.bool false)) (by kernel_rfl) (by rw [hb1]) ?_
   refine CH.alt 10 (sV (.bool (decide ((x : Int) ≥ lo)))) (sV (.bool false)) (by kernel_rfl) (by rw [hb1]) ?_
   replace hb1 := of_decide_eq_false (hb1)
   refine CH.go 5 hτ (by kernel_rfl) ?_
   refine CH.endk ⟨[(6, bV false)], [], 224⟩ (by kernel_rfl) (by kernel_rfl) rfl ?_
   refine X.ret ?_
   exact ⟨trivial, _, _, ⟨false, (by simp [inR, *]), rfl, rfl⟩, .inl (Ret.mk' [] (by kernel_rfl) (by kernel_rfl) (by kernel_rfl))⟩
 obtain ⟨_, _, ⟨r0, h1_, rfl, rfl⟩, hf⟩ := key
 exact ⟨r0, h1_, hf⟩

theorem i_inRange (x : Int) (lo : Int) (hi : Int) : ∃ r0 : Bool, (r0 = inR x lo hi) ∧ Fn Try.prog 72 [iV x, iV lo, iV hi] (lookH []) (bV r0) (lookH []) := by
 have key : ∃ x' h', ((fun x' h' => ∃ r0 : Bool, (r0 = inR x lo hi) ∧ x' = bV r0 ∧ h' = [])) x' h' ∧ Fn Try.prog 72 [iV x, iV lo, iV hi] (lookH []) x' (lookH h') := by
  refine Fn.bodyX (N := 15) hτ Try.func72 rfl rfl rfl rfl ?_
  refine X.seq ?_
  refine X.rk ⟨[(0, iV x), (1, iV lo), (2, iV hi)], [], 80⟩ hτ hmix (by kernel_rfl) (by kernel_rfl) rfl ?_
  refine X.seq ?_
  refine X.rs 4 hτ hmix (by kernel_rfl) ?_
  rcases Bool.eq_false_or_eq_true (decide ((x : Int) ≥ lo)) with hb1 | hb1
  ·refine CH.alt 9 (sV (.bool (decide ((x : Int) ≥ lo)))) (sV (.bool true)) (by kernel_rfl) (by rw [hb1]) ?_
   refine CH.alt 10 (sV (.bool (decide ((x : Int) ≥ lo)))) (sV (.bool true)) (by kernel_rfl) (by rw [hb1]) ?_
   replace hb1 := of_decide_eq_true (hb1)
   refine CH.go 5 hτ (by kernel_rfl) ?_
   refine CH.endk ⟨[(6, bV (decide ((x : Int) ≤ hi)))], [], 224⟩ (by kernel_rfl) (by kernel_rfl) rfl ?_
   refine X.ret ?_
   exact ⟨trivial, _, _, ⟨decide ((x : Int) ≤ hi), (by simp [inR, *]), rfl, rfl⟩, .inl (Ret.mk' [] (by kernel_rfl) (by kernel_rfl) (by kernel_rfl))⟩
  ·refine CH.alt 9 (sV (.bool (decide ((x : Int) ≥ lo)))) (sV (.bool false)) (by kernel_rfl) (by rw [hb1]) ?_
   refine CH.alt 10 (sV (.bool (decide ((x : Int) ≥ lo)))) (sV (.bool false)) (by kernel_rfl) (by rw [hb1]) ?_
   replace hb1 := of_decide_eq_false (hb1)
   refine CH.go 5 hτ (by kernel_rfl) ?_
   refine CH.endk ⟨[(6, bV false)], [], 224⟩ (by kernel_rfl) (by kernel_rfl) rfl ?_
   refine X.ret ?_
   exact ⟨trivial, _, _, ⟨false, (by simp [inR, *]), rfl, rfl⟩, .inl (Ret.mk' [] (by kernel_rfl) (by kernel_rfl) (by kernel_rfl))⟩
 obtain ⟨_, _, ⟨r0, h1_, rfl, rfl⟩, hf⟩ := key
 exact ⟨r0, h1_, hf⟩

theorem s_NameOk (s : ByteArray) (hs : SmS s) : ∃ r0 : Bool, (r0 = nameOk s) ∧ Fn Try.prog 67 [.e (.c (.d (.v (.string s))))] (lookH []) (bV r0) (lookH []) := by
 have key : ∃ x' h', ((fun x' h' => ∃ r0 : Bool, (r0 = nameOk s) ∧ x' = bV r0 ∧ h' = [])) x' h' ∧ Fn Try.prog 67 [.e (.c (.d (.v (.string s))))] (lookH []) x' (lookH h') := by
  refine Fn.bodyX (N := 27) hτ Try.func67 rfl rfl rfl rfl ?_
  refine X.seq ?_
  refine X.rk ⟨[(0, .e (.c (.d (.v (.string s)))))], [], 80⟩ hτ hmix (by kernel_rfl) (by kernel_rfl) rfl ?_
  refine X.seq ?_
  refine X.seq ?_
  refine X.rk ⟨[(0, .e (.c (.d (.v (.string s))))), (3, iV 0)], [], 96⟩ hτ hmix (by kernel_rfl) (by kernel_rfl) rfl ?_
  refine X.block ?_
  -- 2: v3 : Int
  refine X.loop (σ := { g : Int // (fun (v3 : Int) => 0 ≤ v3 ∧ v3 ≤ s.size ∧ Upto (chR) (fun n => s[n]?) v3) g }) (fun g => (fun (v3 : Int) => ⟨[(0, .e (.c (.d (.v (.string s))))), (3, iV v3)], [], 96⟩) g.1) (fun g => (fun (v3 : Int) => (s.size - v3).toNat) g.1) ⟨0, ⟨by first | omega | (dsimp only; omega), by first | omega | (dsimp only; omega), upto_zero⟩⟩ (Wk.less (by kernel_rfl)) (fun g => ?_)
  obtain ⟨v3, hg2⟩ := g
  have hg2 : 0 ≤ v3 ∧ v3 ≤ s.size ∧ Upto (chR) (fun n => s[n]?) v3 := hg2
  obtain ⟨_, _, hA⟩ := hg2
  refine X.seq ?_
  refine X.seq ?_
  have hm : s.size ≤ 2000000 := hs
  refine X.rk ⟨[(0, .e (.c (.d (.v (.string s))))), (3, iV v3), (7, bV (decide ((v3 : Int) < (s.size : Int))))], [], 160⟩ hτ hmix (by kernel_rfl) (by kernel_rfl) rfl ?_
  refine X.if_ (b := decide ((v3 : Int) < (s.size : Int))) (by kernel_rfl) (fun hb3 => ?_) (fun hb3 => ?_)
  ·replace hb3 := of_decide_eq_true (hb3)
   refine X.skip ?_
   refine X.seq ?_
   refine X.block ?_
   refine X.seq ?_
   refine X.rs 2 hτ hmix (by kernel_rfl) ?_
   obtain ⟨b4, hb4⟩ : ∃ b, s[Int.toNat v3]? = some b := ⟨_, getElem?_pos _ _ (by first | omega | (simp; done) | (simp; omega))⟩
   have hw5 := w8 b4
   refine CH.sidx hτ (s := s) (n := v3) b4 (by kernel_rfl) (by kernel_rfl) (by first | omega | (simp; done) | (simp; omega)) hb4 ?_
   refine CH.go 1 hτ (by kernel_rfl) ?_
   obtain ⟨r6, hr8, hf7⟩ := s_l1In (wr .i64 ((b4.toNat : Int))) 97 122
   replace hr8 := hr8.symm; subst hr8
   refine CH.call hf7 Try.func66 ⟨rfl, rfl⟩ [] (by kernel_rfl) (by kernel_rfl) (by kernel_rfl) (by kernel_rfl) ?_
   refine CH.go 2 hτ (by kernel_rfl) ?_
   rcases Bool.eq_false_or_eq_true (!(inR (wr .i64 ((b4.toNat : Int))) 97 122)) with hb10 | hb10
   ·refine CH.alt 15 (sV (.bool (!(inR (wr .i64 ((b4.toNat : Int))) 97 122)))) (sV (.bool true)) (by kernel_rfl) (by rw [hb10]) ?_
    refine CH.alt 16 (sV (.bool (!(inR (wr .i64 ((b4.toNat : Int))) 97 122)))) (sV (.bool true)) (by kernel_rfl) (by rw [hb10]) ?_
    replace hb10 := inR_no (bnot_yes (hb10))
    refine CH.go 2 hτ (by kernel_rfl) ?_
    refine CH.sidx hτ (s := s) (n := v3) b4 (by kernel_rfl) (by kernel_rfl) (by first | omega | (simp; done) | (simp; omega)) hb4 ?_
    refine CH.go 1 hτ (by kernel_rfl) ?_
    obtain ⟨r11, hr13, hf12⟩ := s_l1In (wr .i64 ((b4.toNat : Int))) 48 57
    replace hr13 := hr13.symm; subst hr13
    refine CH.call hf12 Try.func66 ⟨rfl, rfl⟩ [] (by kernel_rfl) (by kernel_rfl) (by kernel_rfl) (by kernel_rfl) ?_
    refine CH.go 2 hτ (by kernel_rfl) ?_
    refine CH.endk ⟨[(0, .e (.c (.d (.v (.string s))))), (3, iV v3), (23, bV (!(inR (wr .i64 ((b4.toNat : Int))) 48 57)))], [], 384⟩ (by kernel_rfl) (by kernel_rfl) rfl ?_
    refine X.if_ (b := !(inR (wr .i64 ((b4.toNat : Int))) 48 57)) (by kernel_rfl) (fun hb15 => ?_) (fun hb15 => ?_)
    ·replace hb15 := inR_no (bnot_yes (hb15))
     refine X.seq ?_
     refine X.rk ⟨[(2, bV false)], [], 400⟩ hτ hmix (by kernel_rfl) (by kernel_rfl) rfl ?_
     refine X.ret ?_
     exact ⟨trivial, _, _, ⟨false, (by first | exact (fls (fun h => upto_no (by omega) (by omega) ‹_› (fun hr => by first | (unfold chR at hr; omega)) h.1)) | exact (dcd (by rw [inR_iff]; exact ⟨fun h => ⟨upto_all hA (by omega), h⟩, fun h => h.2⟩))), rfl, rfl⟩, .inl (Ret.mk' [] (by kernel_rfl) (by kernel_rfl) (by kernel_rfl))⟩
    ·replace hb15 := inR_yes (bnot_no (hb15))
     refine X.skip ?_
     refine X.rk ⟨[(0, .e (.c (.d (.v (.string s))))), (3, iV (wrap64 (v3 + 1)))], [], 432⟩ hτ hmix (by kernel_rfl) (by kernel_rfl) (s2 := ⟨[(0, .e (.c (.d (.v (.string s))))), (3, iV (v3 + 1))], [], 432⟩) (congrArg (fun z : Int => (⟨[(0, .e (.c (.d (.v (.string s))))), (3, iV z)], [], 432⟩ : St)) (show wrap64 (v3 + 1) = (v3 + 1) by rw [w64 (n := (v3 + 1)) (by omega) (by omega)])) ?_
     refine ⟨⟨(v3 + 1), ⟨by first | omega | (dsimp only; omega), by first | omega | (dsimp only; omega), upto_nx (by first | omega | (dsimp only; omega)) hA ‹_› (by unfold chR; omega)⟩⟩, by first | exact rfl | omega | (dsimp only; omega) | (simp only [List.length_append, List.length_cons, List.length_nil, List.length_set]; omega) | (simp; done) | (simp; omega), Wk.mk' [] (by kernel_rfl) (by kernel_rfl) (by kernel_rfl)⟩
   ·refine CH.alt 15 (sV (.bool (!(inR (wr .i64 ((b4.toNat : Int))) 97 122)))) (sV (.bool false)) (by kernel_rfl) (by rw [hb10]) ?_
    refine CH.alt 16 (sV (.bool (!(inR (wr .i64 ((b4.toNat : Int))) 97 122)))) (sV (.bool false)) (by kernel_rfl) (by rw [hb10]) ?_
    replace hb10 := inR_yes (bnot_no (hb10))
    refine CH.go 7 hτ (by kernel_rfl) ?_
    refine CH.endk ⟨[(0, .e (.c (.d (.v (.string s))))), (3, iV v3), (23, bV false)], [], 384⟩ (by kernel_rfl) (by kernel_rfl) rfl ?_
    refine X.ifF (by kernel_rfl) ?_
    refine X.skip ?_
    refine X.rk ⟨[(0, .e (.c (.d (.v (.string s))))), (3, iV (wrap64 (v3 + 1)))], [], 432⟩ hτ hmix (by kernel_rfl) (by kernel_rfl) (s2 := ⟨[(0, .e (.c (.d (.v (.string s))))), (3, iV (v3 + 1))], [], 432⟩) (congrArg (fun z : Int => (⟨[(0, .e (.c (.d (.v (.string s))))), (3, iV z)], [], 432⟩ : St)) (show wrap64 (v3 + 1) = (v3 + 1) by rw [w64 (n := (v3 + 1)) (by omega) (by omega)])) ?_
    refine ⟨⟨(v3 + 1), ⟨by first | omega | (dsimp only; omega), by first | omega | (dsimp only; omega), upto_nx (by first | omega | (dsimp only; omega)) hA ‹_› (by unfold chR; omega)⟩⟩, by first | exact rfl | omega | (dsimp only; omega) | (simp only [List.length_append, List.length_cons, List.length_nil, List.length_set]; omega) | (simp; done) | (simp; omega), Wk.mk' [] (by kernel_rfl) (by kernel_rfl) (by kernel_rfl)⟩
  ·replace hb3 := of_decide_eq_false (hb3)
   refine X.exit ?_
   refine X.seq ?_
   refine X.rs 2 hτ hmix (by kernel_rfl) ?_
   obtain ⟨r16, hr18, hf17⟩ := s_l1In (s.size : Int) 1 8
   replace hr18 := hr18.symm; subst hr18
   refine CH.call hf17 Try.func66 ⟨rfl, rfl⟩ [] (by kernel_rfl) (by kernel_rfl) (by kernel_rfl) (by kernel_rfl) ?_
   refine CH.go 1 hτ (by kernel_rfl) ?_
   refine CH.endk ⟨[(2, bV (inR (s.size : Int) 1 8))], [], 224⟩ (by kernel_rfl) (by kernel_rfl) rfl ?_
   refine X.ret ?_
   exact ⟨trivial, _, _, ⟨(inR (s.size : Int) 1 8), (by first | exact (fls (fun h => upto_no (by omega) (by omega) ‹_› (fun hr => by first | (unfold chR at hr; omega)) h.1)) | exact (dcd (by rw [inR_iff]; exact ⟨fun h => ⟨upto_all hA (by omega), h⟩, fun h => h.2⟩))), rfl, rfl⟩, .inl (Ret.mk' [] (by kernel_rfl) (by kernel_rfl) (by kernel_rfl))⟩
 obtain ⟨_, _, ⟨r0, h1_, rfl, rfl⟩, hf⟩ := key
 exact ⟨r0, h1_, hf⟩

theorem i_NameOk (s : ByteArray) (hs : SmS s) : ∃ r0 : Bool, (r0 = nameOk s) ∧ Fn Try.prog 73 [.e (.c (.d (.v (.string s))))] (lookH []) (bV r0) (lookH []) := by
 have key : ∃ x' h', ((fun x' h' => ∃ r0 : Bool, (r0 = nameOk s) ∧ x' = bV r0 ∧ h' = [])) x' h' ∧ Fn Try.prog 73 [.e (.c (.d (.v (.string s))))] (lookH []) x' (lookH h') := by
  refine Fn.bodyX (N := 36) hτ Try.func73 rfl rfl rfl rfl ?_
  refine X.seq ?_
  refine X.rk ⟨[(0, .e (.c (.d (.v (.string s)))))], [], 80⟩ hτ hmix (by kernel_rfl) (by kernel_rfl) rfl ?_
  refine X.seq ?_
  refine X.seq ?_
  refine X.rk ⟨[(0, .e (.c (.d (.v (.string s))))), (3, iV 0)], [], 96⟩ hτ hmix (by kernel_rfl) (by kernel_rfl) rfl ?_
  refine X.block ?_
  -- 2: v3 : Int
  refine X.loop (σ := { g : Int // (fun (v3 : Int) => 0 ≤ v3 ∧ v3 ≤ s.size ∧ Upto (chR) (fun n => s[n]?) v3) g }) (fun g => (fun (v3 : Int) => ⟨[(0, .e (.c (.d (.v (.string s))))), (3, iV v3)], [], 96⟩) g.1) (fun g => (fun (v3 : Int) => (s.size - v3).toNat) g.1) ⟨0, ⟨by first | omega | (dsimp only; omega), by first | omega | (dsimp only; omega), upto_zero⟩⟩ (Wk.less (by kernel_rfl)) (fun g => ?_)
  obtain ⟨v3, hg2⟩ := g
  have hg2 : 0 ≤ v3 ∧ v3 ≤ s.size ∧ Upto (chR) (fun n => s[n]?) v3 := hg2
  obtain ⟨_, _, hA⟩ := hg2
  refine X.seq ?_
  refine X.seq ?_
  have hm : s.size ≤ 2000000 := hs
  refine X.rk ⟨[(0, .e (.c (.d (.v (.string s))))), (3, iV v3), (7, bV (decide ((v3 : Int) < (s.size : Int))))], [], 160⟩ hτ hmix (by kernel_rfl) (by kernel_rfl) rfl ?_
  refine X.if_ (b := decide ((v3 : Int) < (s.size : Int))) (by kernel_rfl) (fun hb3 => ?_) (fun hb3 => ?_)
  ·replace hb3 := of_decide_eq_true (hb3)
   refine X.skip ?_
   refine X.seq ?_
   refine X.block ?_
   refine X.seq ?_
   refine X.rs 2 hτ hmix (by kernel_rfl) ?_
   obtain ⟨b4, hb4⟩ : ∃ b, s[Int.toNat v3]? = some b := ⟨_, getElem?_pos _ _ (by first | omega | (simp; done) | (simp; omega))⟩
   have hw5 := w8 b4
   refine CH.sidx hτ (s := s) (n := v3) b4 (by kernel_rfl) (by kernel_rfl) (by first | omega | (simp; done) | (simp; omega)) hb4 ?_
   refine CH.go 2 hτ (by kernel_rfl) ?_
   rcases Bool.eq_false_or_eq_true (decide (((b4.toNat : Int) : Int) ≥ 97)) with hb6 | hb6
   ·refine CH.alt 13 (sV (.bool (decide (((b4.toNat : Int) : Int) ≥ 97)))) (sV (.bool true)) (by kernel_rfl) (by rw [hb6]) ?_
    refine CH.alt 14 (sV (.bool (decide (((b4.toNat : Int) : Int) ≥ 97)))) (sV (.bool true)) (by kernel_rfl) (by rw [hb6]) ?_
    replace hb6 := of_decide_eq_true (hb6)
    refine CH.go 2 hτ (by kernel_rfl) ?_
    refine CH.sidx hτ (s := s) (n := v3) b4 (by kernel_rfl) (by kernel_rfl) (by first | omega | (simp; done) | (simp; omega)) hb4 ?_
    refine CH.go 3 hτ (by kernel_rfl) ?_
    rcases Bool.eq_false_or_eq_true (decide (((b4.toNat : Int) : Int) ≤ 122)) with hb7 | hb7
    ·refine CH.alt 18 (sV (.bool (decide (((b4.toNat : Int) : Int) ≤ 122)))) (sV (.bool true)) (by kernel_rfl) (by rw [hb7]) ?_
     refine CH.alt 19 (sV (.bool (decide (((b4.toNat : Int) : Int) ≤ 122)))) (sV (.bool true)) (by kernel_rfl) (by rw [hb7]) ?_
     refine CH.alt 20 (sV (.bool (decide (((b4.toNat : Int) : Int) ≤ 122)))) (sV (.bool true)) (by kernel_rfl) (by rw [hb7]) ?_
     replace hb7 := of_decide_eq_true (hb7)
     refine CH.go 12 hτ (by kernel_rfl) ?_
     refine CH.endk ⟨[(0, .e (.c (.d (.v (.string s))))), (3, iV v3), (32, bV false)], [], 528⟩ (by kernel_rfl) (by kernel_rfl) rfl ?_
     refine X.ifF (by kernel_rfl) ?_
     refine X.skip ?_
     refine X.rk ⟨[(0, .e (.c (.d (.v (.string s))))), (3, iV (wrap64 (v3 + 1)))], [], 576⟩ hτ hmix (by kernel_rfl) (by kernel_rfl) (s2 := ⟨[(0, .e (.c (.d (.v (.string s))))), (3, iV (v3 + 1))], [], 576⟩) (congrArg (fun z : Int => (⟨[(0, .e (.c (.d (.v (.string s))))), (3, iV z)], [], 576⟩ : St)) (show wrap64 (v3 + 1) = (v3 + 1) by rw [w64 (n := (v3 + 1)) (by omega) (by omega)])) ?_
     refine ⟨⟨(v3 + 1), ⟨by first | omega | (dsimp only; omega), by first | omega | (dsimp only; omega), upto_nx (by first | omega | (dsimp only; omega)) hA ‹_› (by unfold chR; omega)⟩⟩, by first | exact rfl | omega | (dsimp only; omega) | (simp only [List.length_append, List.length_cons, List.length_nil, List.length_set]; omega) | (simp; done) | (simp; omega), Wk.mk' [] (by kernel_rfl) (by kernel_rfl) (by kernel_rfl)⟩
    ·refine CH.alt 18 (sV (.bool (decide (((b4.toNat : Int) : Int) ≤ 122)))) (sV (.bool false)) (by kernel_rfl) (by rw [hb7]) ?_
     refine CH.alt 19 (sV (.bool (decide (((b4.toNat : Int) : Int) ≤ 122)))) (sV (.bool false)) (by kernel_rfl) (by rw [hb7]) ?_
     refine CH.alt 20 (sV (.bool (decide (((b4.toNat : Int) : Int) ≤ 122)))) (sV (.bool false)) (by kernel_rfl) (by rw [hb7]) ?_
     replace hb7 := of_decide_eq_false (hb7)
     refine CH.go 2 hτ (by kernel_rfl) ?_
     refine CH.sidx hτ (s := s) (n := v3) b4 (by kernel_rfl) (by kernel_rfl) (by first | omega | (simp; done) | (simp; omega)) hb4 ?_
     refine CH.go 2 hτ (by kernel_rfl) ?_
     rcases Bool.eq_false_or_eq_true (decide (((b4.toNat : Int) : Int) ≥ 48)) with hb8 | hb8
     ·refine CH.alt 24 (sV (.bool (decide (((b4.toNat : Int) : Int) ≥ 48)))) (sV (.bool true)) (by kernel_rfl) (by rw [hb8]) ?_
      refine CH.alt 25 (sV (.bool (decide (((b4.toNat : Int) : Int) ≥ 48)))) (sV (.bool true)) (by kernel_rfl) (by rw [hb8]) ?_
      replace hb8 := of_decide_eq_true (hb8)
      refine CH.go 2 hτ (by kernel_rfl) ?_
      refine CH.sidx hτ (s := s) (n := v3) b4 (by kernel_rfl) (by kernel_rfl) (by first | omega | (simp; done) | (simp; omega)) hb4 ?_
      refine CH.go 4 hτ (by kernel_rfl) ?_
      refine CH.endk ⟨[(0, .e (.c (.d (.v (.string s))))), (3, iV v3), (32, bV (!(decide (((b4.toNat : Int) : Int) ≤ 57))))], [], 528⟩ (by kernel_rfl) (by kernel_rfl) rfl ?_
      refine X.if_ (b := !(decide (((b4.toNat : Int) : Int) ≤ 57))) (by kernel_rfl) (fun hb9 => ?_) (fun hb9 => ?_)
      ·replace hb9 := of_decide_eq_false (bnot_yes (hb9))
       refine X.seq ?_
       refine X.rk ⟨[(2, bV false)], [], 544⟩ hτ hmix (by kernel_rfl) (by kernel_rfl) rfl ?_
       refine X.ret ?_
       exact ⟨trivial, _, _, ⟨false, (by first | exact (fls (fun h => upto_no (by omega) (by omega) ‹_› (fun hr => by first | (unfold chR at hr; omega)) h.1)) | exact (dcd (by rw [inR_iff]; exact ⟨fun h => ⟨upto_all hA (by omega), h⟩, fun h => h.2⟩))), rfl, rfl⟩, .inl (Ret.mk' [] (by kernel_rfl) (by kernel_rfl) (by kernel_rfl))⟩
      ·replace hb9 := of_decide_eq_true (bnot_no (hb9))
       refine X.skip ?_
       refine X.rk ⟨[(0, .e (.c (.d (.v (.string s))))), (3, iV (wrap64 (v3 + 1)))], [], 576⟩ hτ hmix (by kernel_rfl) (by kernel_rfl) (s2 := ⟨[(0, .e (.c (.d (.v (.string s))))), (3, iV (v3 + 1))], [], 576⟩) (congrArg (fun z : Int => (⟨[(0, .e (.c (.d (.v (.string s))))), (3, iV z)], [], 576⟩ : St)) (show wrap64 (v3 + 1) = (v3 + 1) by rw [w64 (n := (v3 + 1)) (by omega) (by omega)])) ?_
       refine ⟨⟨(v3 + 1), ⟨by first | omega | (dsimp only; omega), by first | omega | (dsimp only; omega), upto_nx (by first | omega | (dsimp only; omega)) hA ‹_› (by unfold chR; omega)⟩⟩, by first | exact rfl | omega | (dsimp only; omega) | (simp only [List.length_append, List.length_cons, List.length_nil, List.length_set]; omega) | (simp; done) | (simp; omega), Wk.mk' [] (by kernel_rfl) (by kernel_rfl) (by kernel_rfl)⟩
     ·refine CH.alt 24 (sV (.bool (decide (((b4.toNat : Int) : Int) ≥ 48)))) (sV (.bool false)) (by kernel_rfl) (by rw [hb8]) ?_
      refine CH.alt 25 (sV (.bool (decide (((b4.toNat : Int) : Int) ≥ 48)))) (sV (.bool false)) (by kernel_rfl) (by rw [hb8]) ?_
      replace hb8 := of_decide_eq_false (hb8)
      refine CH.go 7 hτ (by kernel_rfl) ?_
      refine CH.endk ⟨[(0, .e (.c (.d (.v (.string s))))), (3, iV v3), (32, bV true)], [], 528⟩ (by kernel_rfl) (by kernel_rfl) rfl ?_
      refine X.ifT (by kernel_rfl) ?_
      refine X.seq ?_
      refine X.rk ⟨[(2, bV false)], [], 544⟩ hτ hmix (by kernel_rfl) (by kernel_rfl) rfl ?_
      refine X.ret ?_
      exact ⟨trivial, _, _, ⟨false, (by first | exact (fls (fun h => upto_no (by omega) (by omega) ‹_› (fun hr => by first | (unfold chR at hr; omega)) h.1)) | exact (dcd (by rw [inR_iff]; exact ⟨fun h => ⟨upto_all hA (by omega), h⟩, fun h => h.2⟩))), rfl, rfl⟩, .inl (Ret.mk' [] (by kernel_rfl) (by kernel_rfl) (by kernel_rfl))⟩
   ·refine CH.alt 13 (sV (.bool (decide (((b4.toNat : Int) : Int) ≥ 97)))) (sV (.bool false)) (by kernel_rfl) (by rw [hb6]) ?_
    refine CH.alt 14 (sV (.bool (decide (((b4.toNat : Int) : Int) ≥ 97)))) (sV (.bool false)) (by kernel_rfl) (by rw [hb6]) ?_
    replace hb6 := of_decide_eq_false (hb6)
    refine CH.go 8 hτ (by kernel_rfl) ?_
    refine CH.sidx hτ (s := s) (n := v3) b4 (by kernel_rfl) (by kernel_rfl) (by first | omega | (simp; done) | (simp; omega)) hb4 ?_
    refine CH.go 2 hτ (by kernel_rfl) ?_
    rcases Bool.eq_false_or_eq_true (decide (((b4.toNat : Int) : Int) ≥ 48)) with hb10 | hb10
    ·refine CH.alt 24 (sV (.bool (decide (((b4.toNat : Int) : Int) ≥ 48)))) (sV (.bool true)) (by kernel_rfl) (by rw [hb10]) ?_
     refine CH.alt 25 (sV (.bool (decide (((b4.toNat : Int) : Int) ≥ 48)))) (sV (.bool true)) (by kernel_rfl) (by rw [hb10]) ?_
     replace hb10 := of_decide_eq_true (hb10)
     refine CH.go 2 hτ (by kernel_rfl) ?_
     refine CH.sidx hτ (s := s) (n := v3) b4 (by kernel_rfl) (by kernel_rfl) (by first | omega | (simp; done) | (simp; omega)) hb4 ?_
     refine CH.go 4 hτ (by kernel_rfl) ?_
     refine CH.endk ⟨[(0, .e (.c (.d (.v (.string s))))), (3, iV v3), (32, bV (!(decide (((b4.toNat : Int) : Int) ≤ 57))))], [], 528⟩ (by kernel_rfl) (by kernel_rfl) rfl ?_
     refine X.if_ (b := !(decide (((b4.toNat : Int) : Int) ≤ 57))) (by kernel_rfl) (fun hb11 => ?_) (fun hb11 => ?_)
     ·replace hb11 := of_decide_eq_false (bnot_yes (hb11))
      refine X.seq ?_
      refine X.rk ⟨[(2, bV false)], [], 544⟩ hτ hmix (by kernel_rfl) (by kernel_rfl) rfl ?_
      refine X.ret ?_
      exact ⟨trivial, _, _, ⟨false, (by first | exact (fls (fun h => upto_no (by omega) (by omega) ‹_› (fun hr => by first | (unfold chR at hr; omega)) h.1)) | exact (dcd (by rw [inR_iff]; exact ⟨fun h => ⟨upto_all hA (by omega), h⟩, fun h => h.2⟩))), rfl, rfl⟩, .inl (Ret.mk' [] (by kernel_rfl) (by kernel_rfl) (by kernel_rfl))⟩
     ·replace hb11 := of_decide_eq_true (bnot_no (hb11))
      refine X.skip ?_
      refine X.rk ⟨[(0, .e (.c (.d (.v (.string s))))), (3, iV (wrap64 (v3 + 1)))], [], 576⟩ hτ hmix (by kernel_rfl) (by kernel_rfl) (s2 := ⟨[(0, .e (.c (.d (.v (.string s))))), (3, iV (v3 + 1))], [], 576⟩) (congrArg (fun z : Int => (⟨[(0, .e (.c (.d (.v (.string s))))), (3, iV z)], [], 576⟩ : St)) (show wrap64 (v3 + 1) = (v3 + 1) by rw [w64 (n := (v3 + 1)) (by omega) (by omega)])) ?_
      refine ⟨⟨(v3 + 1), ⟨by first | omega | (dsimp only; omega), by first | omega | (dsimp only; omega), upto_nx (by first | omega | (dsimp only; omega)) hA ‹_› (by unfold chR; omega)⟩⟩, by first | exact rfl | omega | (dsimp only; omega) | (simp only [List.length_append, List.length_cons, List.length_nil, List.length_set]; omega) | (simp; done) | (simp; omega), Wk.mk' [] (by kernel_rfl) (by kernel_rfl) (by kernel_rfl)⟩
    ·refine CH.alt 24 (sV (.bool (decide (((b4.toNat : Int) : Int) ≥ 48)))) (sV (.bool false)) (by kernel_rfl) (by rw [hb10]) ?_
     refine CH.alt 25 (sV (.bool (decide (((b4.toNat : Int) : Int) ≥ 48)))) (sV (.bool false)) (by kernel_rfl) (by rw [hb10]) ?_
     replace hb10 := of_decide_eq_false (hb10)
     refine CH.go 7 hτ (by kernel_rfl) ?_
     refine CH.endk ⟨[(0, .e (.c (.d (.v (.string s))))), (3, iV v3), (32, bV true)], [], 528⟩ (by kernel_rfl) (by kernel_rfl) rfl ?_
     refine X.ifT (by kernel_rfl) ?_
     refine X.seq ?_
     refine X.rk ⟨[(2, bV false)], [], 544⟩ hτ hmix (by kernel_rfl) (by kernel_rfl) rfl ?_
     refine X.ret ?_
     exact ⟨trivial, _, _, ⟨false, (by first | exact (fls (fun h => upto_no (by omega) (by omega) ‹_› (fun hr => by first | (unfold chR at hr; omega)) h.1)) | exact (dcd (by rw [inR_iff]; exact ⟨fun h => ⟨upto_all hA (by omega), h⟩, fun h => h.2⟩))), rfl, rfl⟩, .inl (Ret.mk' [] (by kernel_rfl) (by kernel_rfl) (by kernel_rfl))⟩
  ·replace hb3 := of_decide_eq_false (hb3)
   refine X.exit ?_
   refine X.seq ?_
   refine X.rs 2 hτ hmix (by kernel_rfl) ?_
   obtain ⟨r12, hr14, hf13⟩ := i_inRange (s.size : Int) 1 8
   replace hr14 := hr14.symm; subst hr14
   refine CH.call hf13 Try.func72 ⟨rfl, rfl⟩ [] (by kernel_rfl) (by kernel_rfl) (by kernel_rfl) (by kernel_rfl) ?_
   refine CH.go 1 hτ (by kernel_rfl) ?_
   refine CH.endk ⟨[(2, bV (inR (s.size : Int) 1 8))], [], 224⟩ (by kernel_rfl) (by kernel_rfl) rfl ?_
   refine X.ret ?_
   exact ⟨trivial, _, _, ⟨(inR (s.size : Int) 1 8), (by first | exact (fls (fun h => upto_no (by omega) (by omega) ‹_› (fun hr => by first | (unfold chR at hr; omega)) h.1)) | exact (dcd (by rw [inR_iff]; exact ⟨fun h => ⟨upto_all hA (by omega), h⟩, fun h => h.2⟩))), rfl, rfl⟩, .inl (Ret.mk' [] (by kernel_rfl) (by kernel_rfl) (by kernel_rfl))⟩
 obtain ⟨_, _, ⟨r0, h1_, rfl, rfl⟩, hf⟩ := key
 exact ⟨r0, h1_, hf⟩

theorem s_NamesOk (l : List ByteArray) (hl : SmN l) : ∃ r0 : Bool, (r0 = namesOk l) ∧ Fn Try.prog 130 [lV (l.map dS)] (lookH []) (bV r0) (lookH []) := by
 have key : ∃ x' h', ((fun x' h' => ∃ r0 : Bool, (r0 = namesOk l) ∧ x' = bV r0 ∧ h' = [])) x' h' ∧ Fn Try.prog 130 [lV (l.map dS)] (lookH []) x' (lookH h') := by
  refine Fn.bodyX (N := 35) hτ Try.func130 rfl rfl rfl rfl ?_
  refine X.seq ?_
  refine X.rk ⟨[(0, lV (l.map dS))], [], 80⟩ hτ hmix (by kernel_rfl) (by kernel_rfl) rfl ?_
  refine X.seq ?_
  refine X.seq ?_
  refine X.rk ⟨[(0, lV (l.map dS)), (3, iV 0)], [], 96⟩ hτ hmix (by kernel_rfl) (by kernel_rfl) rfl ?_
  refine X.block ?_
  -- 2: v3 : Int
  refine X.loop (σ := { g : Int // (fun (v3 : Int) => 0 ≤ v3 ∧ v3 ≤ l.length ∧ Upto (namesR l) (fun n => l[n]?) v3) g }) (fun g => (fun (v3 : Int) => ⟨[(0, lV (l.map dS)), (3, iV v3)], [], 96⟩) g.1) (fun g => (fun (v3 : Int) => (l.length - v3).toNat) g.1) ⟨0, ⟨by first | omega | (dsimp only; omega), by first | omega | (dsimp only; omega), upto_zero⟩⟩ (Wk.less (by kernel_rfl)) (fun g => ?_)
  obtain ⟨v3, hg2⟩ := g
  have hg2 : 0 ≤ v3 ∧ v3 ≤ l.length ∧ Upto (namesR l) (fun n => l[n]?) v3 := hg2
  obtain ⟨_, _, hA⟩ := hg2
  refine X.seq ?_
  refine X.seq ?_
  have hm := hl.1
  have el3 : (l.map dS).length = l.length := List.length_map ..
  refine X.rk ⟨[(0, lV (l.map dS)), (3, iV v3), (7, bV (decide ((v3 : Int) < ((l.map dS).length : Int))))], [], 160⟩ hτ hmix (by kernel_rfl) (by kernel_rfl) rfl ?_
  refine X.if_ (b := decide ((v3 : Int) < ((l.map dS).length : Int))) (by kernel_rfl) (fun hb4 => ?_) (fun hb4 => ?_)
  ·replace hb4 := of_decide_eq_true (hb4)
   refine X.skip ?_
   refine X.seq ?_
   refine X.block ?_
   refine X.seq ?_
   refine X.rs 2 hτ hmix (by kernel_rfl) ?_
   obtain ⟨x5, hx5⟩ : ∃ x, l[Int.toNat v3]? = some x := ⟨_, List.getElem?_eq_getElem (by first | omega | (simp; done) | (simp; omega))⟩
   refine CH.idx hτ (dS x5) (rows := (l.map dS)) (n := v3) (sz := 1) (by kernel_rfl) (by kernel_rfl) (by first | omega | (simp; done) | (simp; omega)) (by rw [List.getElem?_map, hx5]; rfl) (by kernel_rfl) ?_
   refine CH.go 1 hτ (by kernel_rfl) ?_
   obtain ⟨r6, hr8, hf7⟩ := s_NameOk x5 (by exact all_at hl.2 ‹_›)
   replace hr8 := hr8.symm; subst hr8
   refine CH.call hf7 Try.func67 ⟨rfl, rfl⟩ [] (by kernel_rfl) (by kernel_rfl) (by kernel_rfl) (by kernel_rfl) ?_
   refine CH.go 2 hτ (by kernel_rfl) ?_
   rcases Bool.eq_false_or_eq_true (!(nameOk x5)) with hb10 | hb10
   ·refine CH.alt 15 (sV (.bool (!(nameOk x5)))) (sV (.bool true)) (by kernel_rfl) (by rw [hb10]) ?_
    refine CH.alt 16 (sV (.bool (!(nameOk x5)))) (sV (.bool true)) (by kernel_rfl) (by rw [hb10]) ?_
    replace hb10 := bnot_yes (hb10)
    refine CH.go 15 hτ (by kernel_rfl) ?_
    refine CH.endk ⟨[(0, lV (l.map dS)), (3, iV v3), (31, bV true)], [], 512⟩ (by kernel_rfl) (by kernel_rfl) rfl ?_
    refine X.ifT (by kernel_rfl) ?_
    refine X.seq ?_
    refine X.rk ⟨[(2, bV false)], [], 528⟩ hτ hmix (by kernel_rfl) (by kernel_rfl) rfl ?_
    refine X.ret ?_
    exact ⟨trivial, _, _, ⟨false, (by first | exact (fls (fun h => upto_no (by omega) (by omega) ‹_› (fun hr => by first | exact tf hr.1 ‹_› | exact tf (hr.2 _ (by omega) ‹_›) ‹_›) h.1)) | exact (dcd (by simp only [decide_eq_true_eq, List.length_map]; exact ⟨fun h => ⟨upto_all hA (by omega), by omega⟩, fun h => by have := h.2; omega⟩))), rfl, rfl⟩, .inl (Ret.mk' [] (by kernel_rfl) (by kernel_rfl) (by kernel_rfl))⟩
   ·refine CH.alt 15 (sV (.bool (!(nameOk x5)))) (sV (.bool false)) (by kernel_rfl) (by rw [hb10]) ?_
    refine CH.alt 16 (sV (.bool (!(nameOk x5)))) (sV (.bool false)) (by kernel_rfl) (by rw [hb10]) ?_
    replace hb10 := bnot_no (hb10)
    refine CH.go 3 hτ (by kernel_rfl) ?_
    rcases Bool.eq_false_or_eq_true (decide ((v3 : Int) > 0)) with hb11 | hb11
    ·refine CH.alt 18 (sV (.bool (decide ((v3 : Int) > 0)))) (sV (.bool true)) (by kernel_rfl) (by rw [hb11]) ?_
     refine CH.alt 19 (sV (.bool (decide ((v3 : Int) > 0)))) (sV (.bool true)) (by kernel_rfl) (by rw [hb11]) ?_
     replace hb11 := of_decide_eq_true (hb11)
     refine CH.go 3 hτ (by kernel_rfl) ?_
     obtain ⟨x12, hx12⟩ : ∃ x, l[Int.toNat (v3 - 1)]? = some x := ⟨_, List.getElem?_eq_getElem (by first | omega | (simp; done) | (simp; omega))⟩
     refine CH.alt 22 (sV (.int .i64 (wrap64 (v3 - 1)))) (sV (.int .i64 ((v3 - 1)))) (by kernel_rfl) (by rw [w64 (n := (v3 - 1)) (by omega) (by omega)]) ?_
     refine CH.idx hτ (dS x12) (rows := (l.map dS)) (n := (v3 - 1)) (sz := 1) (by kernel_rfl) (by kernel_rfl) (by first | omega | (simp; done) | (simp; omega)) (by rw [List.getElem?_map, hx12]; rfl) (by kernel_rfl) ?_
     refine CH.go 3 hτ (by kernel_rfl) ?_
     refine CH.idx hτ (dS x5) (rows := (l.map dS)) (n := v3) (sz := 1) (by kernel_rfl) (by kernel_rfl) (by first | omega | (simp; done) | (simp; omega)) (by rw [List.getElem?_map, hx5]; rfl) (by kernel_rfl) ?_
     refine CH.go 4 hτ (by kernel_rfl) ?_
     refine CH.endk ⟨[(0, lV (l.map dS)), (3, iV v3), (31, bV (!(Op.bytesLess x12.toList x5.toList)))], [], 512⟩ (by kernel_rfl) (by kernel_rfl) rfl ?_
     refine X.if_ (b := !(Op.bytesLess x12.toList x5.toList)) (by kernel_rfl) (fun hb13 => ?_) (fun hb13 => ?_)
     ·replace hb13 := bnot_yes (hb13)
      refine X.seq ?_
      refine X.rk ⟨[(2, bV false)], [], 528⟩ hτ hmix (by kernel_rfl) (by kernel_rfl) rfl ?_
      refine X.ret ?_
      exact ⟨trivial, _, _, ⟨false, (by first | exact (fls (fun h => upto_no (by omega) (by omega) ‹_› (fun hr => by first | exact tf hr.1 ‹_› | exact tf (hr.2 _ (by omega) ‹_›) ‹_›) h.1)) | exact (dcd (by simp only [decide_eq_true_eq, List.length_map]; exact ⟨fun h => ⟨upto_all hA (by omega), by omega⟩, fun h => by have := h.2; omega⟩))), rfl, rfl⟩, .inl (Ret.mk' [] (by kernel_rfl) (by kernel_rfl) (by kernel_rfl))⟩
     ·replace hb13 := bnot_no (hb13)
      refine X.skip ?_
      refine X.rk ⟨[(0, lV (l.map dS)), (3, iV (wrap64 (v3 + 1)))], [], 560⟩ hτ hmix (by kernel_rfl) (by kernel_rfl) (s2 := ⟨[(0, lV (l.map dS)), (3, iV (v3 + 1))], [], 560⟩) (congrArg (fun z : Int => (⟨[(0, lV (l.map dS)), (3, iV z)], [], 560⟩ : St)) (show wrap64 (v3 + 1) = (v3 + 1) by rw [w64 (n := (v3 + 1)) (by omega) (by omega)])) ?_
      refine ⟨⟨(v3 + 1), ⟨by first | omega | (dsimp only; omega), by first | omega | (dsimp only; omega), upto_nx (by first | omega | (dsimp only; omega)) hA ‹_› (⟨‹_›, (by first | exact fun y h0 hy => absurd h0 (by first | omega | (dsimp only; omega)) | exact prev_fn ‹_› ‹_›)⟩)⟩⟩, by first | exact rfl | omega | (dsimp only; omega) | (simp only [List.length_append, List.length_cons, List.length_nil, List.length_set]; omega) | (simp; done) | (simp; omega), Wk.mk' [] (by kernel_rfl) (by kernel_rfl) (by kernel_rfl)⟩
    ·refine CH.alt 18 (sV (.bool (decide ((v3 : Int) > 0)))) (sV (.bool false)) (by kernel_rfl) (by rw [hb11]) ?_
     refine CH.alt 19 (sV (.bool (decide ((v3 : Int) > 0)))) (sV (.bool false)) (by kernel_rfl) (by rw [hb11]) ?_
     replace hb11 := of_decide_eq_false (hb11)
     refine CH.go 12 hτ (by kernel_rfl) ?_
     refine CH.endk ⟨[(0, lV (l.map dS)), (3, iV v3), (31, bV false)], [], 512⟩ (by kernel_rfl) (by kernel_rfl) rfl ?_
     refine X.ifF (by kernel_rfl) ?_
     refine X.skip ?_
     refine X.rk ⟨[(0, lV (l.map dS)), (3, iV (wrap64 (v3 + 1)))], [], 560⟩ hτ hmix (by kernel_rfl) (by kernel_rfl) (s2 := ⟨[(0, lV (l.map dS)), (3, iV (v3 + 1))], [], 560⟩) (congrArg (fun z : Int => (⟨[(0, lV (l.map dS)), (3, iV z)], [], 560⟩ : St)) (show wrap64 (v3 + 1) = (v3 + 1) by rw [w64 (n := (v3 + 1)) (by omega) (by omega)])) ?_
     refine ⟨⟨(v3 + 1), ⟨by first | omega | (dsimp only; omega), by first | omega | (dsimp only; omega), upto_nx (by first | omega | (dsimp only; omega)) hA ‹_› (⟨‹_›, (by first | exact fun y h0 hy => absurd h0 (by first | omega | (dsimp only; omega)) | exact prev_fn ‹_› ‹_›)⟩)⟩⟩, by first | exact rfl | omega | (dsimp only; omega) | (simp only [List.length_append, List.length_cons, List.length_nil, List.length_set]; omega) | (simp; done) | (simp; omega), Wk.mk' [] (by kernel_rfl) (by kernel_rfl) (by kernel_rfl)⟩
  ·replace hb4 := of_decide_eq_false (hb4)
   refine X.exit ?_
   refine X.seq ?_
   refine X.rk ⟨[(2, bV (decide ((((l.map dS).length : Int) : Int) ≤ 20)))], [], 224⟩ hτ hmix (by kernel_rfl) (by kernel_rfl) rfl ?_
   refine X.ret ?_
   exact ⟨trivial, _, _, ⟨decide ((((l.map dS).length : Int) : Int) ≤ 20), (by first | exact (fls (fun h => upto_no (by omega) (by omega) ‹_› (fun hr => by first | exact tf hr.1 ‹_› | exact tf (hr.2 _ (by omega) ‹_›) ‹_›) h.1)) | exact (dcd (by simp only [decide_eq_true_eq, List.length_map]; exact ⟨fun h => ⟨upto_all hA (by omega), by omega⟩, fun h => by have := h.2; omega⟩))), rfl, rfl⟩, .inl (Ret.mk' [] (by kernel_rfl) (by kernel_rfl) (by kernel_rfl))⟩
 obtain ⟨_, _, ⟨r0, h1_, rfl, rfl⟩, hf⟩ := key
 exact ⟨r0, h1_, hf⟩

theorem i_NamesOk (l : List ByteArray) (hl : SmN l) : ∃ r0 : Bool, (r0 = namesOk l) ∧ Fn Try.prog 133 [lV (l.map dS)] (lookH []) (bV r0) (lookH []) := by
 have key : ∃ x' h', ((fun x' h' => ∃ r0 : Bool, (r0 = namesOk l) ∧ x' = bV r0 ∧ h' = [])) x' h' ∧ Fn Try.prog 133 [lV (l.map dS)] (lookH []) x' (lookH h') := by
  refine Fn.bodyX (N := 32) hτ Try.func133 rfl rfl rfl rfl ?_
  refine X.seq ?_
  refine X.rk ⟨[(0, lV (l.map dS))], [], 80⟩ hτ hmix (by kernel_rfl) (by kernel_rfl) rfl ?_
  refine X.seq ?_
  refine X.seq ?_
  have el1 : (l.map dS).length = l.length := List.length_map ..
  refine X.rk ⟨[(0, lV (l.map dS)), (5, lV (l.map dS)), (6, iV ((l.map dS).length : Int)), (7, iV 0)], [], 128⟩ hτ hmix (by kernel_rfl) (by kernel_rfl) rfl ?_
  refine X.block ?_
  -- 2: v7 : Int
  refine X.loop (σ := { g : Int // (fun (v7 : Int) => 0 ≤ v7 ∧ v7 ≤ l.length ∧ Upto (namesR l) (fun n => l[n]?) v7) g }) (fun g => (fun (v7 : Int) => ⟨[(0, lV (l.map dS)), (5, lV (l.map dS)), (6, iV ((l.map dS).length : Int)), (7, iV v7)], [], 128⟩) g.1) (fun g => (fun (v7 : Int) => (l.length - v7).toNat) g.1) ⟨0, ⟨by first | omega | (dsimp only; omega), by first | omega | (dsimp only; omega), upto_zero⟩⟩ (Wk.less (by kernel_rfl)) (fun g => ?_)
  obtain ⟨v7, hg3⟩ := g
  have hg3 : 0 ≤ v7 ∧ v7 ≤ l.length ∧ Upto (namesR l) (fun n => l[n]?) v7 := hg3
  obtain ⟨_, _, hA⟩ := hg3
  refine X.seq ?_
  have hm := hl.1
  refine X.rk ⟨[(0, lV (l.map dS)), (5, lV (l.map dS)), (6, iV ((l.map dS).length : Int)), (7, iV v7), (8, bV (decide ((v7 : Int) < ((l.map dS).length : Int))))], [], 144⟩ hτ hmix (by kernel_rfl) (by kernel_rfl) rfl ?_
  refine X.seq ?_
  refine X.if_ (b := decide ((v7 : Int) < ((l.map dS).length : Int))) (by kernel_rfl) (fun hb4 => ?_) (fun hb4 => ?_)
  ·replace hb4 := of_decide_eq_true (hb4)
   refine X.skip ?_
   refine X.seq ?_
   refine X.block ?_
   refine X.seq ?_
   refine X.rs 1 hτ hmix (by kernel_rfl) ?_
   obtain ⟨x5, hx5⟩ : ∃ x, l[Int.toNat v7]? = some x := ⟨_, List.getElem?_eq_getElem (by first | omega | (simp; done) | (simp; omega))⟩
   refine CH.idx hτ (dS x5) (rows := (l.map dS)) (n := v7) (sz := 1) (by kernel_rfl) (by kernel_rfl) (by first | omega | (simp; done) | (simp; omega)) (by rw [List.getElem?_map, hx5]; rfl) (by kernel_rfl) ?_
   refine CH.go 3 hτ (by kernel_rfl) ?_
   refine CH.endk ⟨[(0, lV (l.map dS)), (3, iV v7), (4, .e (.c (.d (.v (.string x5))))), (5, lV (l.map dS)), (6, iV ((l.map dS).length : Int)), (7, iV v7)], [], 224⟩ (by kernel_rfl) (by kernel_rfl) rfl ?_
   refine X.seq ?_
   refine X.rs 1 hτ hmix (by kernel_rfl) ?_
   obtain ⟨r6, hr8, hf7⟩ := i_NameOk x5 (by exact all_at hl.2 ‹_›)
   replace hr8 := hr8.symm; subst hr8
   refine CH.call hf7 Try.func73 ⟨rfl, rfl⟩ [] (by kernel_rfl) (by kernel_rfl) (by kernel_rfl) (by kernel_rfl) ?_
   refine CH.go 2 hτ (by kernel_rfl) ?_
   rcases Bool.eq_false_or_eq_true (!(nameOk x5)) with hb10 | hb10
   ·refine CH.alt 14 (sV (.bool (!(nameOk x5)))) (sV (.bool true)) (by kernel_rfl) (by rw [hb10]) ?_
    refine CH.alt 15 (sV (.bool (!(nameOk x5)))) (sV (.bool true)) (by kernel_rfl) (by rw [hb10]) ?_
    replace hb10 := bnot_yes (hb10)
    refine CH.go 12 hτ (by kernel_rfl) ?_
    refine CH.endk ⟨[(0, lV (l.map dS)), (5, lV (l.map dS)), (6, iV ((l.map dS).length : Int)), (7, iV v7), (27, bV true)], [], 480⟩ (by kernel_rfl) (by kernel_rfl) rfl ?_
    refine X.ifT (by kernel_rfl) ?_
    refine X.seq ?_
    refine X.rk ⟨[(2, bV false)], [], 496⟩ hτ hmix (by kernel_rfl) (by kernel_rfl) rfl ?_
    refine X.ret ?_
    exact ⟨trivial, _, _, ⟨false, (by first | exact (fls (fun h => upto_no (by omega) (by omega) ‹_› (fun hr => by first | exact tf hr.1 ‹_› | exact tf (hr.2 _ (by omega) ‹_›) ‹_›) h.1)) | exact (dcd (by simp only [decide_eq_true_eq, List.length_map]; exact ⟨fun h => ⟨upto_all hA (by omega), by omega⟩, fun h => by have := h.2; omega⟩))), rfl, rfl⟩, .inl (Ret.mk' [] (by kernel_rfl) (by kernel_rfl) (by kernel_rfl))⟩
   ·refine CH.alt 14 (sV (.bool (!(nameOk x5)))) (sV (.bool false)) (by kernel_rfl) (by rw [hb10]) ?_
    refine CH.alt 15 (sV (.bool (!(nameOk x5)))) (sV (.bool false)) (by kernel_rfl) (by rw [hb10]) ?_
    replace hb10 := bnot_no (hb10)
    refine CH.go 3 hτ (by kernel_rfl) ?_
    rcases Bool.eq_false_or_eq_true (decide ((v7 : Int) > 0)) with hb11 | hb11
    ·refine CH.alt 17 (sV (.bool (decide ((v7 : Int) > 0)))) (sV (.bool true)) (by kernel_rfl) (by rw [hb11]) ?_
     refine CH.alt 18 (sV (.bool (decide ((v7 : Int) > 0)))) (sV (.bool true)) (by kernel_rfl) (by rw [hb11]) ?_
     replace hb11 := of_decide_eq_true (hb11)
     refine CH.go 4 hτ (by kernel_rfl) ?_
     obtain ⟨x12, hx12⟩ : ∃ x, l[Int.toNat (v7 - 1)]? = some x := ⟨_, List.getElem?_eq_getElem (by first | omega | (simp; done) | (simp; omega))⟩
     refine CH.alt 22 (sV (.int .i64 (wrap64 (v7 - 1)))) (sV (.int .i64 ((v7 - 1)))) (by kernel_rfl) (by rw [w64 (n := (v7 - 1)) (by omega) (by omega)]) ?_
     refine CH.idx hτ (dS x12) (rows := (l.map dS)) (n := (v7 - 1)) (sz := 1) (by kernel_rfl) (by kernel_rfl) (by first | omega | (simp; done) | (simp; omega)) (by rw [List.getElem?_map, hx12]; rfl) (by kernel_rfl) ?_
     refine CH.go 4 hτ (by kernel_rfl) ?_
     refine CH.endk ⟨[(0, lV (l.map dS)), (5, lV (l.map dS)), (6, iV ((l.map dS).length : Int)), (7, iV v7), (27, bV (Op.bytesLess x5.toList x12.toList || x5.toList == x12.toList))], [], 480⟩ (by kernel_rfl) (by kernel_rfl) rfl ?_
     refine X.if_ (b := (Op.bytesLess x5.toList x12.toList || x5.toList == x12.toList)) (by kernel_rfl) (fun hb13 => ?_) (fun hb13 => ?_)
     ·replace hb13 := leq_yes (hb13)
      refine X.seq ?_
      refine X.rk ⟨[(2, bV false)], [], 496⟩ hτ hmix (by kernel_rfl) (by kernel_rfl) rfl ?_
      refine X.ret ?_
      exact ⟨trivial, _, _, ⟨false, (by first | exact (fls (fun h => upto_no (by omega) (by omega) ‹_› (fun hr => by first | exact tf hr.1 ‹_› | exact tf (hr.2 _ (by omega) ‹_›) ‹_›) h.1)) | exact (dcd (by simp only [decide_eq_true_eq, List.length_map]; exact ⟨fun h => ⟨upto_all hA (by omega), by omega⟩, fun h => by have := h.2; omega⟩))), rfl, rfl⟩, .inl (Ret.mk' [] (by kernel_rfl) (by kernel_rfl) (by kernel_rfl))⟩
     ·replace hb13 := leq_no (hb13)
      refine X.skip ?_
      refine X.rk ⟨[(0, lV (l.map dS)), (5, lV (l.map dS)), (6, iV ((l.map dS).length : Int)), (7, iV (wrap64 (v7 + 1)))], [], 512⟩ hτ hmix (by kernel_rfl) (by kernel_rfl) (s2 := ⟨[(0, lV (l.map dS)), (5, lV (l.map dS)), (6, iV ((l.map dS).length : Int)), (7, iV (v7 + 1))], [], 512⟩) (congrArg (fun z : Int => (⟨[(0, lV (l.map dS)), (5, lV (l.map dS)), (6, iV ((l.map dS).length : Int)), (7, iV z)], [], 512⟩ : St)) (show wrap64 (v7 + 1) = (v7 + 1) by rw [w64 (n := (v7 + 1)) (by omega) (by omega)])) ?_
      refine ⟨⟨(v7 + 1), ⟨by first | omega | (dsimp only; omega), by first | omega | (dsimp only; omega), upto_nx (by first | omega | (dsimp only; omega)) hA ‹_› (⟨‹_›, (by first | exact fun y h0 hy => absurd h0 (by first | omega | (dsimp only; omega)) | exact prev_fn ‹_› ‹_›)⟩)⟩⟩, by first | exact rfl | omega | (dsimp only; omega) | (simp only [List.length_append, List.length_cons, List.length_nil, List.length_set]; omega) | (simp; done) | (simp; omega), Wk.mk' [] (by kernel_rfl) (by kernel_rfl) (by kernel_rfl)⟩
    ·refine CH.alt 17 (sV (.bool (decide ((v7 : Int) > 0)))) (sV (.bool false)) (by kernel_rfl) (by rw [hb11]) ?_
     refine CH.alt 18 (sV (.bool (decide ((v7 : Int) > 0)))) (sV (.bool false)) (by kernel_rfl) (by rw [hb11]) ?_
     replace hb11 := of_decide_eq_false (hb11)
     refine CH.go 9 hτ (by kernel_rfl) ?_
     refine CH.endk ⟨[(0, lV (l.map dS)), (5, lV (l.map dS)), (6, iV ((l.map dS).length : Int)), (7, iV v7), (27, bV false)], [], 480⟩ (by kernel_rfl) (by kernel_rfl) rfl ?_
     refine X.ifF (by kernel_rfl) ?_
     refine X.skip ?_
     refine X.rk ⟨[(0, lV (l.map dS)), (5, lV (l.map dS)), (6, iV ((l.map dS).length : Int)), (7, iV (wrap64 (v7 + 1)))], [], 512⟩ hτ hmix (by kernel_rfl) (by kernel_rfl) (s2 := ⟨[(0, lV (l.map dS)), (5, lV (l.map dS)), (6, iV ((l.map dS).length : Int)), (7, iV (v7 + 1))], [], 512⟩) (congrArg (fun z : Int => (⟨[(0, lV (l.map dS)), (5, lV (l.map dS)), (6, iV ((l.map dS).length : Int)), (7, iV z)], [], 512⟩ : St)) (show wrap64 (v7 + 1) = (v7 + 1) by rw [w64 (n := (v7 + 1)) (by omega) (by omega)])) ?_
     refine ⟨⟨(v7 + 1), ⟨by first | omega | (dsimp only; omega), by first | omega | (dsimp only; omega), upto_nx (by first | omega | (dsimp only; omega)) hA ‹_› (⟨‹_›, (by first | exact fun y h0 hy => absurd h0 (by first | omega | (dsimp only; omega)) | exact prev_fn ‹_› ‹_›)⟩)⟩⟩, by first | exact rfl | omega | (dsimp only; omega) | (simp only [List.length_append, List.length_cons, List.length_nil, List.length_set]; omega) | (simp; done) | (simp; omega), Wk.mk' [] (by kernel_rfl) (by kernel_rfl) (by kernel_rfl)⟩
  ·replace hb4 := of_decide_eq_false (hb4)
   refine X.exit ?_
   refine X.seq ?_
   refine X.rk ⟨[(2, bV (decide ((((l.map dS).length : Int) : Int) ≤ 20)))], [], 208⟩ hτ hmix (by kernel_rfl) (by kernel_rfl) rfl ?_
   refine X.ret ?_
   exact ⟨trivial, _, _, ⟨decide ((((l.map dS).length : Int) : Int) ≤ 20), (by first | exact (fls (fun h => upto_no (by omega) (by omega) ‹_› (fun hr => by first | exact tf hr.1 ‹_› | exact tf (hr.2 _ (by omega) ‹_›) ‹_›) h.1)) | exact (dcd (by simp only [decide_eq_true_eq, List.length_map]; exact ⟨fun h => ⟨upto_all hA (by omega), by omega⟩, fun h => by have := h.2; omega⟩))), rfl, rfl⟩, .inl (Ret.mk' [] (by kernel_rfl) (by kernel_rfl) (by kernel_rfl))⟩
 obtain ⟨_, _, ⟨r0, h1_, rfl, rfl⟩, hf⟩ := key
 exact ⟨r0, h1_, hf⟩

theorem s_l8Root (q : S43) : ∃ r0 : Bool, (r0 = rootQ q) ∧ Fn Try.prog 129 [.e (.agg (cD (d43 q)))] (lookH []) (bV r0) (lookH []) := by
 have key : ∃ x' h', ((fun x' h' => ∃ r0 : Bool, (r0 = rootQ q) ∧ x' = bV r0 ∧ h' = [])) x' h' ∧ Fn Try.prog 129 [.e (.agg (cD (d43 q)))] (lookH []) x' (lookH h') := by
  refine Fn.bodyX (N := 17) hτ Try.func129 rfl rfl rfl rfl ?_
  refine X.seq ?_
  refine X.rk ⟨[(1, .pt 64 0 0)], [(64, some (.box (cD (d43 q))))], 96⟩ hτ hmix (by kernel_rfl) (by kernel_rfl) rfl ?_
  refine X.seq ?_
  refine X.rs 4 hτ hmix (by kernel_rfl) ?_
  rcases Bool.eq_false_or_eq_true ((q.f0 == 0)) with hb1 | hb1
  ·refine CH.alt 5 (sV (.bool ((q.f0 == 0)))) (sV (.bool true)) (by kernel_rfl) (by rw [hb1]) ?_
   refine CH.alt 6 (sV (.bool ((q.f0 == 0)))) (sV (.bool true)) (by kernel_rfl) (by rw [hb1]) ?_
   replace hb1 := eq_of_beq (hb1)
   refine CH.go 5 hτ (by kernel_rfl) ?_
   rcases Bool.eq_false_or_eq_true ((q.f1 == (-1))) with hb2 | hb2
   ·refine CH.alt 9 (sV (.bool ((q.f1 == (-1))))) (sV (.bool true)) (by kernel_rfl) (by rw [hb2]) ?_
    refine CH.alt 10 (sV (.bool ((q.f1 == (-1))))) (sV (.bool true)) (by kernel_rfl) (by rw [hb2]) ?_
    refine CH.alt 11 (sV (.bool ((q.f1 == (-1))))) (sV (.bool true)) (by kernel_rfl) (by rw [hb2]) ?_
    replace hb2 := eq_of_beq (hb2)
    refine CH.go 6 hτ (by kernel_rfl) ?_
    have el3 : (q.f2.map dS).length = q.f2.length := List.length_map ..
    refine CH.endk ⟨[(2, bV (((q.f2.map dS).length : Int) == 0))], [], 336⟩ (by kernel_rfl) (by kernel_rfl) rfl ?_
    refine X.ret ?_
    exact ⟨trivial, _, _, ⟨(((q.f2.map dS).length : Int) == 0), (by rw [Bool.eq_iff_iff]; simp only [rootQ, Bool.and_eq_true, Bool.or_eq_true, inR_iff, decide_eq_true_eq, beq_iff_eq, Bool.false_eq_true, false_iff, true_iff, List.length_map]; first | (intro h; omega) | (intro h; simp_all; done) | (simp_all; done) | (simp_all; omega) | (constructor <;> intro h <;> (first | (simp_all; done) | (simp_all; omega) | omega))), rfl, rfl⟩, .inl (Ret.mk' [] (by kernel_rfl) (by kernel_rfl) (by kernel_rfl))⟩
   ·refine CH.alt 9 (sV (.bool ((q.f1 == (-1))))) (sV (.bool false)) (by kernel_rfl) (by rw [hb2]) ?_
    refine CH.alt 10 (sV (.bool ((q.f1 == (-1))))) (sV (.bool false)) (by kernel_rfl) (by rw [hb2]) ?_
    refine CH.alt 11 (sV (.bool ((q.f1 == (-1))))) (sV (.bool false)) (by kernel_rfl) (by rw [hb2]) ?_
    replace hb2 := beq_eq_false_iff_ne.1 (hb2)
    refine CH.go 6 hτ (by kernel_rfl) ?_
    refine CH.endk ⟨[(2, bV false)], [], 336⟩ (by kernel_rfl) (by kernel_rfl) rfl ?_
    refine X.ret ?_
    exact ⟨trivial, _, _, ⟨false, (by rw [Bool.eq_iff_iff]; simp only [rootQ, Bool.and_eq_true, Bool.or_eq_true, inR_iff, decide_eq_true_eq, beq_iff_eq, Bool.false_eq_true, false_iff, true_iff, List.length_map]; first | (intro h; omega) | (intro h; simp_all; done) | (simp_all; done) | (simp_all; omega) | (constructor <;> intro h <;> (first | (simp_all; done) | (simp_all; omega) | omega))), rfl, rfl⟩, .inl (Ret.mk' [] (by kernel_rfl) (by kernel_rfl) (by kernel_rfl))⟩
  ·refine CH.alt 5 (sV (.bool ((q.f0 == 0)))) (sV (.bool false)) (by kernel_rfl) (by rw [hb1]) ?_
   refine CH.alt 6 (sV (.bool ((q.f0 == 0)))) (sV (.bool false)) (by kernel_rfl) (by rw [hb1]) ?_
   replace hb1 := beq_eq_false_iff_ne.1 (hb1)
   refine CH.go 11 hτ (by kernel_rfl) ?_
   refine CH.endk ⟨[(2, bV false)], [], 336⟩ (by kernel_rfl) (by kernel_rfl) rfl ?_
   refine X.ret ?_
   exact ⟨trivial, _, _, ⟨false, (by rw [Bool.eq_iff_iff]; simp only [rootQ, Bool.and_eq_true, Bool.or_eq_true, inR_iff, decide_eq_true_eq, beq_iff_eq, Bool.false_eq_true, false_iff, true_iff, List.length_map]; first | (intro h; omega) | (intro h; simp_all; done) | (simp_all; done) | (simp_all; omega) | (constructor <;> intro h <;> (first | (simp_all; done) | (simp_all; omega) | omega))), rfl, rfl⟩, .inl (Ret.mk' [] (by kernel_rfl) (by kernel_rfl) (by kernel_rfl))⟩
 obtain ⟨_, _, ⟨r0, h1_, rfl, rfl⟩, hf⟩ := key
 exact ⟨r0, h1_, hf⟩

theorem i_isRoot (q : S43) : ∃ r0 : Bool, (r0 = rootQ q) ∧ Fn Try.prog 132 [.e (.agg (cD (d43 q)))] (lookH []) (bV r0) (lookH []) := by
 have key : ∃ x' h', ((fun x' h' => ∃ r0 : Bool, (r0 = rootQ q) ∧ x' = bV r0 ∧ h' = [])) x' h' ∧ Fn Try.prog 132 [.e (.agg (cD (d43 q)))] (lookH []) x' (lookH h') := by
  refine Fn.bodyX (N := 17) hτ Try.func132 rfl rfl rfl rfl ?_
  refine X.seq ?_
  refine X.rk ⟨[(1, .pt 64 0 0)], [(64, some (.box (cD (d43 q))))], 96⟩ hτ hmix (by kernel_rfl) (by kernel_rfl) rfl ?_
  refine X.seq ?_
  refine X.rs 4 hτ hmix (by kernel_rfl) ?_
  rcases Bool.eq_false_or_eq_true ((q.f0 == 0)) with hb1 | hb1
  ·refine CH.alt 5 (sV (.bool ((q.f0 == 0)))) (sV (.bool true)) (by kernel_rfl) (by rw [hb1]) ?_
   refine CH.alt 6 (sV (.bool ((q.f0 == 0)))) (sV (.bool true)) (by kernel_rfl) (by rw [hb1]) ?_
   replace hb1 := eq_of_beq (hb1)
   refine CH.go 5 hτ (by kernel_rfl) ?_
   rcases Bool.eq_false_or_eq_true ((q.f1 == (-1))) with hb2 | hb2
   ·refine CH.alt 9 (sV (.bool ((q.f1 == (-1))))) (sV (.bool true)) (by kernel_rfl) (by rw [hb2]) ?_
    refine CH.alt 10 (sV (.bool ((q.f1 == (-1))))) (sV (.bool true)) (by kernel_rfl) (by rw [hb2]) ?_
    refine CH.alt 11 (sV (.bool ((q.f1 == (-1))))) (sV (.bool true)) (by kernel_rfl) (by rw [hb2]) ?_
    replace hb2 := eq_of_beq (hb2)
    refine CH.go 6 hτ (by kernel_rfl) ?_
    have el3 : (q.f2.map dS).length = q.f2.length := List.length_map ..
    refine CH.endk ⟨[(2, bV (((q.f2.map dS).length : Int) == 0))], [], 336⟩ (by kernel_rfl) (by kernel_rfl) rfl ?_
    refine X.ret ?_
    exact ⟨trivial, _, _, ⟨(((q.f2.map dS).length : Int) == 0), (by rw [Bool.eq_iff_iff]; simp only [rootQ, Bool.and_eq_true, Bool.or_eq_true, inR_iff, decide_eq_true_eq, beq_iff_eq, Bool.false_eq_true, false_iff, true_iff, List.length_map]; first | (intro h; omega) | (intro h; simp_all; done) | (simp_all; done) | (simp_all; omega) | (constructor <;> intro h <;> (first | (simp_all; done) | (simp_all; omega) | omega))), rfl, rfl⟩, .inl (Ret.mk' [] (by kernel_rfl) (by kernel_rfl) (by kernel_rfl))⟩
   ·refine CH.alt 9 (sV (.bool ((q.f1 == (-1))))) (sV (.bool false)) (by kernel_rfl) (by rw [hb2]) ?_
    refine CH.alt 10 (sV (.bool ((q.f1 == (-1))))) (sV (.bool false)) (by kernel_rfl) (by rw [hb2]) ?_
    refine CH.alt 11 (sV (.bool ((q.f1 == (-1))))) (sV (.bool false)) (by kernel_rfl) (by rw [hb2]) ?_
    replace hb2 := beq_eq_false_iff_ne.1 (hb2)
    refine CH.go 6 hτ (by kernel_rfl) ?_
    refine CH.endk ⟨[(2, bV false)], [], 336⟩ (by kernel_rfl) (by kernel_rfl) rfl ?_
    refine X.ret ?_
    exact ⟨trivial, _, _, ⟨false, (by rw [Bool.eq_iff_iff]; simp only [rootQ, Bool.and_eq_true, Bool.or_eq_true, inR_iff, decide_eq_true_eq, beq_iff_eq, Bool.false_eq_true, false_iff, true_iff, List.length_map]; first | (intro h; omega) | (intro h; simp_all; done) | (simp_all; done) | (simp_all; omega) | (constructor <;> intro h <;> (first | (simp_all; done) | (simp_all; omega) | omega))), rfl, rfl⟩, .inl (Ret.mk' [] (by kernel_rfl) (by kernel_rfl) (by kernel_rfl))⟩
  ·refine CH.alt 5 (sV (.bool ((q.f0 == 0)))) (sV (.bool false)) (by kernel_rfl) (by rw [hb1]) ?_
   refine CH.alt 6 (sV (.bool ((q.f0 == 0)))) (sV (.bool false)) (by kernel_rfl) (by rw [hb1]) ?_
   replace hb1 := beq_eq_false_iff_ne.1 (hb1)
   refine CH.go 11 hτ (by kernel_rfl) ?_
   refine CH.endk ⟨[(2, bV false)], [], 336⟩ (by kernel_rfl) (by kernel_rfl) rfl ?_
   refine X.ret ?_
   exact ⟨trivial, _, _, ⟨false, (by rw [Bool.eq_iff_iff]; simp only [rootQ, Bool.and_eq_true, Bool.or_eq_true, inR_iff, decide_eq_true_eq, beq_iff_eq, Bool.false_eq_true, false_iff, true_iff, List.length_map]; first | (intro h; omega) | (intro h; simp_all; done) | (simp_all; done) | (simp_all; omega) | (constructor <;> intro h <;> (first | (simp_all; done) | (simp_all; omega) | omega))), rfl, rfl⟩, .inl (Ret.mk' [] (by kernel_rfl) (by kernel_rfl) (by kernel_rfl))⟩
 obtain ⟨_, _, ⟨r0, h1_, rfl, rfl⟩, hf⟩ := key
 exact ⟨r0, h1_, hf⟩

theorem s_l8None (t : S46) : ∃ r0 : Bool, (r0 = noneT t) ∧ Fn Try.prog 131 [.e (.agg (cD (d46 t)))] (lookH []) (bV r0) (lookH []) := by
 have key : ∃ x' h', ((fun x' h' => ∃ r0 : Bool, (r0 = noneT t) ∧ x' = bV r0 ∧ h' = [])) x' h' ∧ Fn Try.prog 131 [.e (.agg (cD (d46 t)))] (lookH []) x' (lookH h') := by
  refine Fn.bodyX (N := 18) hτ Try.func131 rfl rfl rfl rfl ?_
  refine X.seq ?_
  refine X.rk ⟨[(1, .pt 64 0 0)], [(64, some (.box (cD (d46 t))))], 96⟩ hτ hmix (by kernel_rfl) (by kernel_rfl) rfl ?_
  refine X.seq ?_
  refine X.rs 4 hτ hmix (by kernel_rfl) ?_
  rcases Bool.eq_false_or_eq_true ((t.f0 == 0)) with hb1 | hb1
  ·refine CH.alt 5 (sV (.bool ((t.f0 == 0)))) (sV (.bool true)) (by kernel_rfl) (by rw [hb1]) ?_
   refine CH.alt 6 (sV (.bool ((t.f0 == 0)))) (sV (.bool true)) (by kernel_rfl) (by rw [hb1]) ?_
   replace hb1 := eq_of_beq (hb1)
   refine CH.go 6 hτ (by kernel_rfl) ?_
   have el2 : (t.f1.map dS).length = t.f1.length := List.length_map ..
   rcases Bool.eq_false_or_eq_true ((((t.f1.map dS).length : Int) == 0)) with hb3 | hb3
   ·refine CH.alt 10 (sV (.bool ((((t.f1.map dS).length : Int) == 0)))) (sV (.bool true)) (by kernel_rfl) (by rw [hb3]) ?_
    refine CH.alt 11 (sV (.bool ((((t.f1.map dS).length : Int) == 0)))) (sV (.bool true)) (by kernel_rfl) (by rw [hb3]) ?_
    refine CH.alt 12 (sV (.bool ((((t.f1.map dS).length : Int) == 0)))) (sV (.bool true)) (by kernel_rfl) (by rw [hb3]) ?_
    replace hb3 := eq_of_beq (hb3)
    refine CH.go 6 hτ (by kernel_rfl) ?_
    have el4 : (t.f2.map dI).length = t.f2.length := List.length_map ..
    refine CH.endk ⟨[(2, bV (((t.f2.map dI).length : Int) == 0))], [], 352⟩ (by kernel_rfl) (by kernel_rfl) rfl ?_
    refine X.ret ?_
    exact ⟨trivial, _, _, ⟨(((t.f2.map dI).length : Int) == 0), (by rw [Bool.eq_iff_iff]; simp only [noneT, Bool.and_eq_true, Bool.or_eq_true, inR_iff, decide_eq_true_eq, beq_iff_eq, Bool.false_eq_true, false_iff, true_iff, List.length_map]; first | (intro h; omega) | (intro h; simp_all; done) | (simp_all; done) | (simp_all; omega) | (constructor <;> intro h <;> (first | (simp_all; done) | (simp_all; omega) | omega))), rfl, rfl⟩, .inl (Ret.mk' [] (by kernel_rfl) (by kernel_rfl) (by kernel_rfl))⟩
   ·refine CH.alt 10 (sV (.bool ((((t.f1.map dS).length : Int) == 0)))) (sV (.bool false)) (by kernel_rfl) (by rw [hb3]) ?_
    refine CH.alt 11 (sV (.bool ((((t.f1.map dS).length : Int) == 0)))) (sV (.bool false)) (by kernel_rfl) (by rw [hb3]) ?_
    refine CH.alt 12 (sV (.bool ((((t.f1.map dS).length : Int) == 0)))) (sV (.bool false)) (by kernel_rfl) (by rw [hb3]) ?_
    replace hb3 := beq_eq_false_iff_ne.1 (hb3)
    refine CH.go 6 hτ (by kernel_rfl) ?_
    refine CH.endk ⟨[(2, bV false)], [], 352⟩ (by kernel_rfl) (by kernel_rfl) rfl ?_
    refine X.ret ?_
    exact ⟨trivial, _, _, ⟨false, (by rw [Bool.eq_iff_iff]; simp only [noneT, Bool.and_eq_true, Bool.or_eq_true, inR_iff, decide_eq_true_eq, beq_iff_eq, Bool.false_eq_true, false_iff, true_iff, List.length_map]; first | (intro h; omega) | (intro h; simp_all; done) | (simp_all; done) | (simp_all; omega) | (constructor <;> intro h <;> (first | (simp_all; done) | (simp_all; omega) | omega))), rfl, rfl⟩, .inl (Ret.mk' [] (by kernel_rfl) (by kernel_rfl) (by kernel_rfl))⟩
  ·refine CH.alt 5 (sV (.bool ((t.f0 == 0)))) (sV (.bool false)) (by kernel_rfl) (by rw [hb1]) ?_
   refine CH.alt 6 (sV (.bool ((t.f0 == 0)))) (sV (.bool false)) (by kernel_rfl) (by rw [hb1]) ?_
   replace hb1 := beq_eq_false_iff_ne.1 (hb1)
   refine CH.go 12 hτ (by kernel_rfl) ?_
   refine CH.endk ⟨[(2, bV false)], [], 352⟩ (by kernel_rfl) (by kernel_rfl) rfl ?_
   refine X.ret ?_
   exact ⟨trivial, _, _, ⟨false, (by rw [Bool.eq_iff_iff]; simp only [noneT, Bool.and_eq_true, Bool.or_eq_true, inR_iff, decide_eq_true_eq, beq_iff_eq, Bool.false_eq_true, false_iff, true_iff, List.length_map]; first | (intro h; omega) | (intro h; simp_all; done) | (simp_all; done) | (simp_all; omega) | (constructor <;> intro h <;> (first | (simp_all; done) | (simp_all; omega) | omega))), rfl, rfl⟩, .inl (Ret.mk' [] (by kernel_rfl) (by kernel_rfl) (by kernel_rfl))⟩
 obtain ⟨_, _, ⟨r0, h1_, rfl, rfl⟩, hf⟩ := key
 exact ⟨r0, h1_, hf⟩

theorem i_isNone (t : S46) : ∃ r0 : Bool, (r0 = noneT t) ∧ Fn Try.prog 84 [.e (.agg (cD (d46 t)))] (lookH []) (bV r0) (lookH []) := by
 have key : ∃ x' h', ((fun x' h' => ∃ r0 : Bool, (r0 = noneT t) ∧ x' = bV r0 ∧ h' = [])) x' h' ∧ Fn Try.prog 84 [.e (.agg (cD (d46 t)))] (lookH []) x' (lookH h') := by
  refine Fn.bodyX (N := 18) hτ Try.func84 rfl rfl rfl rfl ?_
  refine X.seq ?_
  refine X.rk ⟨[(1, .pt 64 0 0)], [(64, some (.box (cD (d46 t))))], 96⟩ hτ hmix (by kernel_rfl) (by kernel_rfl) rfl ?_
  refine X.seq ?_
  refine X.rs 4 hτ hmix (by kernel_rfl) ?_
  rcases Bool.eq_false_or_eq_true ((t.f0 == 0)) with hb1 | hb1
  ·refine CH.alt 5 (sV (.bool ((t.f0 == 0)))) (sV (.bool true)) (by kernel_rfl) (by rw [hb1]) ?_
   refine CH.alt 6 (sV (.bool ((t.f0 == 0)))) (sV (.bool true)) (by kernel_rfl) (by rw [hb1]) ?_
   replace hb1 := eq_of_beq (hb1)
   refine CH.go 6 hτ (by kernel_rfl) ?_
   have el2 : (t.f1.map dS).length = t.f1.length := List.length_map ..
   rcases Bool.eq_false_or_eq_true ((((t.f1.map dS).length : Int) == 0)) with hb3 | hb3
   ·refine CH.alt 10 (sV (.bool ((((t.f1.map dS).length : Int) == 0)))) (sV (.bool true)) (by kernel_rfl) (by rw [hb3]) ?_
    refine CH.alt 11 (sV (.bool ((((t.f1.map dS).length : Int) == 0)))) (sV (.bool true)) (by kernel_rfl) (by rw [hb3]) ?_
    refine CH.alt 12 (sV (.bool ((((t.f1.map dS).length : Int) == 0)))) (sV (.bool true)) (by kernel_rfl) (by rw [hb3]) ?_
    replace hb3 := eq_of_beq (hb3)
    refine CH.go 6 hτ (by kernel_rfl) ?_
    have el4 : (t.f2.map dI).length = t.f2.length := List.length_map ..
    refine CH.endk ⟨[(2, bV (((t.f2.map dI).length : Int) == 0))], [], 352⟩ (by kernel_rfl) (by kernel_rfl) rfl ?_
    refine X.ret ?_
    exact ⟨trivial, _, _, ⟨(((t.f2.map dI).length : Int) == 0), (by rw [Bool.eq_iff_iff]; simp only [noneT, Bool.and_eq_true, Bool.or_eq_true, inR_iff, decide_eq_true_eq, beq_iff_eq, Bool.false_eq_true, false_iff, true_iff, List.length_map]; first | (intro h; omega) | (intro h; simp_all; done) | (simp_all; done) | (simp_all; omega) | (constructor <;> intro h <;> (first | (simp_all; done) | (simp_all; omega) | omega))), rfl, rfl⟩, .inl (Ret.mk' [] (by kernel_rfl) (by kernel_rfl) (by kernel_rfl))⟩
   ·refine CH.alt 10 (sV (.bool ((((t.f1.map dS).length : Int) == 0)))) (sV (.bool false)) (by kernel_rfl) (by rw [hb3]) ?_
    refine CH.alt 11 (sV (.bool ((((t.f1.map dS).length : Int) == 0)))) (sV (.bool false)) (by kernel_rfl) (by rw [hb3]) ?_
    refine CH.alt 12 (sV (.bool ((((t.f1.map dS).length : Int) == 0)))) (sV (.bool false)) (by kernel_rfl) (by rw [hb3]) ?_
    replace hb3 := beq_eq_false_iff_ne.1 (hb3)
    refine CH.go 6 hτ (by kernel_rfl) ?_
    refine CH.endk ⟨[(2, bV false)], [], 352⟩ (by kernel_rfl) (by kernel_rfl) rfl ?_
    refine X.ret ?_
    exact ⟨trivial, _, _, ⟨false, (by rw [Bool.eq_iff_iff]; simp only [noneT, Bool.and_eq_true, Bool.or_eq_true, inR_iff, decide_eq_true_eq, beq_iff_eq, Bool.false_eq_true, false_iff, true_iff, List.length_map]; first | (intro h; omega) | (intro h; simp_all; done) | (simp_all; done) | (simp_all; omega) | (constructor <;> intro h <;> (first | (simp_all; done) | (simp_all; omega) | omega))), rfl, rfl⟩, .inl (Ret.mk' [] (by kernel_rfl) (by kernel_rfl) (by kernel_rfl))⟩
  ·refine CH.alt 5 (sV (.bool ((t.f0 == 0)))) (sV (.bool false)) (by kernel_rfl) (by rw [hb1]) ?_
   refine CH.alt 6 (sV (.bool ((t.f0 == 0)))) (sV (.bool false)) (by kernel_rfl) (by rw [hb1]) ?_
   replace hb1 := beq_eq_false_iff_ne.1 (hb1)
   refine CH.go 12 hτ (by kernel_rfl) ?_
   refine CH.endk ⟨[(2, bV false)], [], 352⟩ (by kernel_rfl) (by kernel_rfl) rfl ?_
   refine X.ret ?_
   exact ⟨trivial, _, _, ⟨false, (by rw [Bool.eq_iff_iff]; simp only [noneT, Bool.and_eq_true, Bool.or_eq_true, inR_iff, decide_eq_true_eq, beq_iff_eq, Bool.false_eq_true, false_iff, true_iff, List.length_map]; first | (intro h; omega) | (intro h; simp_all; done) | (simp_all; done) | (simp_all; omega) | (constructor <;> intro h <;> (first | (simp_all; done) | (simp_all; omega) | omega))), rfl, rfl⟩, .inl (Ret.mk' [] (by kernel_rfl) (by kernel_rfl) (by kernel_rfl))⟩
 obtain ⟨_, _, ⟨r0, h1_, rfl, rfl⟩, hf⟩ := key
 exact ⟨r0, h1_, hf⟩

theorem s_l9Qc (b : S49) (hb : Sm49 b) : ∃ r0 : Bool, (r0 = qcForm b.f4 (wr .i64 (b.f2 - 1)) (wr .i64 (b.f0 - 1))) ∧ Fn Try.prog 68 [.e (.agg (cD (d49 b)))] (lookH []) (bV r0) (lookH []) := by
 have key : ∃ x' h', ((fun x' h' => ∃ r0 : Bool, (r0 = qcForm b.f4 (wr .i64 (b.f2 - 1)) (wr .i64 (b.f0 - 1))) ∧ x' = bV r0 ∧ h' = [])) x' h' ∧ Fn Try.prog 68 [.e (.agg (cD (d49 b)))] (lookH []) x' (lookH h') := by
  refine Fn.bodyX (N := 27) hτ Try.func68 rfl rfl rfl rfl ?_
  refine X.seq ?_
  refine X.rk ⟨[(1, .pt 64 0 0)], [(64, some (.box (cD (d49 b))))], 96⟩ hτ hmix (by kernel_rfl) (by kernel_rfl) rfl ?_
  refine X.seq ?_
  refine X.rk ⟨[(1, .pt 64 0 0), (3, .pt 128 0 0)], [(64, some (.box (cD (d49 b)))), (128, some (.box (cD (d43 b.f4))))], 160⟩ hτ hmix (by kernel_rfl) (by kernel_rfl) rfl ?_
  refine X.seq ?_
  refine X.seq ?_
  refine X.rs 1 hτ hmix (by kernel_rfl) ?_
  obtain ⟨r1, hr3, hf2⟩ := s_l8Root b.f4
  replace hr3 := hr3.symm; subst hr3
  refine CH.call hf2 Try.func129 ⟨rfl, rfl⟩ [] (by kernel_rfl) (by kernel_rfl) (by kernel_rfl) (by kernel_rfl) ?_
  refine CH.endk ⟨[(1, .pt 64 0 0), (3, .pt 128 0 0), (7, bV (rootQ b.f4))], [(64, some (.box (cD (d49 b)))), (128, some (.box (cD (d43 b.f4))))], 192⟩ (by kernel_rfl) (by kernel_rfl) rfl ?_
  refine X.if_ (b := (rootQ b.f4)) (by kernel_rfl) (fun hb5 => ?_) (fun hb5 => ?_)
  ·refine X.seq ?_
   refine X.rk ⟨[(2, bV true)], [], 208⟩ hτ hmix (by kernel_rfl) (by kernel_rfl) rfl ?_
   refine X.ret ?_
   exact ⟨trivial, _, _, ⟨true, (by rw [Bool.eq_iff_iff]; simp only [qcForm, Bool.and_eq_true, Bool.or_eq_true, inR_iff, decide_eq_true_eq, beq_iff_eq, Bool.false_eq_true, false_iff, true_iff, List.length_map]; first | (intro h; omega) | (intro h; simp_all; done) | (simp_all; done) | (simp_all; omega) | (constructor <;> intro h <;> (first | (simp_all; done) | (simp_all; omega) | omega))), rfl, rfl⟩, .inl (Ret.mk' [] (by kernel_rfl) (by kernel_rfl) (by kernel_rfl))⟩
  ·refine X.skip ?_
   refine X.seq ?_
   refine X.rs 5 hτ hmix (by kernel_rfl) ?_
   obtain ⟨r6, hr8, hf7⟩ := s_l1In b.f4.f0 1 (wr .i64 (b.f2 - 1))
   replace hr8 := hr8.symm; subst hr8
   refine CH.call hf7 Try.func66 ⟨rfl, rfl⟩ [] (by kernel_rfl) (by kernel_rfl) (by kernel_rfl) (by kernel_rfl) ?_
   refine CH.go 1 hτ (by kernel_rfl) ?_
   rcases Bool.eq_false_or_eq_true ((inR b.f4.f0 1 (wr .i64 (b.f2 - 1)))) with hb10 | hb10
   ·refine CH.alt 13 (sV (.bool ((inR b.f4.f0 1 (wr .i64 (b.f2 - 1)))))) (sV (.bool true)) (by kernel_rfl) (by rw [hb10]) ?_
    refine CH.alt 14 (sV (.bool ((inR b.f4.f0 1 (wr .i64 (b.f2 - 1)))))) (sV (.bool true)) (by kernel_rfl) (by rw [hb10]) ?_
    replace hb10 := inR_yes (hb10)
    refine CH.go 5 hτ (by kernel_rfl) ?_
    obtain ⟨r11, hr13, hf12⟩ := s_l1In b.f4.f1 0 (wr .i64 (b.f0 - 1))
    replace hr13 := hr13.symm; subst hr13
    refine CH.call hf12 Try.func66 ⟨rfl, rfl⟩ [] (by kernel_rfl) (by kernel_rfl) (by kernel_rfl) (by kernel_rfl) ?_
    refine CH.go 2 hτ (by kernel_rfl) ?_
    rcases Bool.eq_false_or_eq_true ((inR b.f4.f1 0 (wr .i64 (b.f0 - 1)))) with hb15 | hb15
    ·refine CH.alt 20 (sV (.bool ((inR b.f4.f1 0 (wr .i64 (b.f0 - 1)))))) (sV (.bool true)) (by kernel_rfl) (by rw [hb15]) ?_
     refine CH.alt 21 (sV (.bool ((inR b.f4.f1 0 (wr .i64 (b.f0 - 1)))))) (sV (.bool true)) (by kernel_rfl) (by rw [hb15]) ?_
     refine CH.alt 22 (sV (.bool ((inR b.f4.f1 0 (wr .i64 (b.f0 - 1)))))) (sV (.bool true)) (by kernel_rfl) (by rw [hb15]) ?_
     replace hb15 := inR_yes (hb15)
     refine CH.go 2 hτ (by kernel_rfl) ?_
     obtain ⟨r16, hr18, hf17⟩ := s_NamesOk b.f4.f2 (by exact hb.2.1)
     replace hr18 := hr18.symm; subst hr18
     refine CH.call hf17 Try.func130 ⟨rfl, rfl⟩ [] (by kernel_rfl) (by kernel_rfl) (by kernel_rfl) (by kernel_rfl) ?_
     refine CH.go 2 hτ (by kernel_rfl) ?_
     refine CH.endk ⟨[(2, bV (namesOk b.f4.f2))], [], 512⟩ (by kernel_rfl) (by kernel_rfl) rfl ?_
     refine X.ret ?_
     exact ⟨trivial, _, _, ⟨(namesOk b.f4.f2), (by rw [Bool.eq_iff_iff]; simp only [qcForm, Bool.and_eq_true, Bool.or_eq_true, inR_iff, decide_eq_true_eq, beq_iff_eq, Bool.false_eq_true, false_iff, true_iff, List.length_map]; first | (intro h; omega) | (intro h; simp_all; done) | (simp_all; done) | (simp_all; omega) | (constructor <;> intro h <;> (first | (simp_all; done) | (simp_all; omega) | omega))), rfl, rfl⟩, .inl (Ret.mk' [] (by kernel_rfl) (by kernel_rfl) (by kernel_rfl))⟩
    ·refine CH.alt 20 (sV (.bool ((inR b.f4.f1 0 (wr .i64 (b.f0 - 1)))))) (sV (.bool false)) (by kernel_rfl) (by rw [hb15]) ?_
     refine CH.alt 21 (sV (.bool ((inR b.f4.f1 0 (wr .i64 (b.f0 - 1)))))) (sV (.bool false)) (by kernel_rfl) (by rw [hb15]) ?_
     refine CH.alt 22 (sV (.bool ((inR b.f4.f1 0 (wr .i64 (b.f0 - 1)))))) (sV (.bool false)) (by kernel_rfl) (by rw [hb15]) ?_
     replace hb15 := inR_no (hb15)
     refine CH.go 5 hτ (by kernel_rfl) ?_
     refine CH.endk ⟨[(2, bV false)], [], 512⟩ (by kernel_rfl) (by kernel_rfl) rfl ?_
     refine X.ret ?_
     exact ⟨trivial, _, _, ⟨false, (by rw [Bool.eq_iff_iff]; simp only [qcForm, Bool.and_eq_true, Bool.or_eq_true, inR_iff, decide_eq_true_eq, beq_iff_eq, Bool.false_eq_true, false_iff, true_iff, List.length_map]; first | (intro h; omega) | (intro h; simp_all; done) | (simp_all; done) | (simp_all; omega) | (constructor <;> intro h <;> (first | (simp_all; done) | (simp_all; omega) | omega))), rfl, rfl⟩, .inl (Ret.mk' [] (by kernel_rfl) (by kernel_rfl) (by kernel_rfl))⟩
   ·refine CH.alt 13 (sV (.bool ((inR b.f4.f0 1 (wr .i64 (b.f2 - 1)))))) (sV (.bool false)) (by kernel_rfl) (by rw [hb10]) ?_
    refine CH.alt 14 (sV (.bool ((inR b.f4.f0 1 (wr .i64 (b.f2 - 1)))))) (sV (.bool false)) (by kernel_rfl) (by rw [hb10]) ?_
    replace hb10 := inR_no (hb10)
    refine CH.go 13 hτ (by kernel_rfl) ?_
    refine CH.endk ⟨[(2, bV false)], [], 512⟩ (by kernel_rfl) (by kernel_rfl) rfl ?_
    refine X.ret ?_
    exact ⟨trivial, _, _, ⟨false, (by rw [Bool.eq_iff_iff]; simp only [qcForm, Bool.and_eq_true, Bool.or_eq_true, inR_iff, decide_eq_true_eq, beq_iff_eq, Bool.false_eq_true, false_iff, true_iff, List.length_map]; first | (intro h; omega) | (intro h; simp_all; done) | (simp_all; done) | (simp_all; omega) | (constructor <;> intro h <;> (first | (simp_all; done) | (simp_all; omega) | omega))), rfl, rfl⟩, .inl (Ret.mk' [] (by kernel_rfl) (by kernel_rfl) (by kernel_rfl))⟩
 obtain ⟨_, _, ⟨r0, h1_, rfl, rfl⟩, hf⟩ := key
 exact ⟨r0, h1_, hf⟩

theorem i_qcForm (q : S43) (r : Int) (b : Int) (hq : Sm43 q) : ∃ r0 : Bool, (r0 = qcForm q r b) ∧ Fn Try.prog 74 [.e (.agg (cD (d43 q))), iV r, iV b] (lookH []) (bV r0) (lookH []) := by
 have key : ∃ x' h', ((fun x' h' => ∃ r0 : Bool, (r0 = qcForm q r b) ∧ x' = bV r0 ∧ h' = [])) x' h' ∧ Fn Try.prog 74 [.e (.agg (cD (d43 q))), iV r, iV b] (lookH []) x' (lookH h') := by
  refine Fn.bodyX (N := 26) hτ Try.func74 rfl rfl rfl rfl ?_
  refine X.seq ?_
  refine X.rk ⟨[(1, iV r), (2, iV b), (3, .pt 64 0 0)], [(64, some (.box (cD (d43 q))))], 96⟩ hτ hmix (by kernel_rfl) (by kernel_rfl) rfl ?_
  refine X.seq ?_
  refine X.rs 1 hτ hmix (by kernel_rfl) ?_
  obtain ⟨r1, hr3, hf2⟩ := i_isRoot q
  replace hr3 := hr3.symm; subst hr3
  refine CH.call hf2 Try.func132 ⟨rfl, rfl⟩ [] (by kernel_rfl) (by kernel_rfl) (by kernel_rfl) (by kernel_rfl) ?_
  refine CH.go 1 hτ (by kernel_rfl) ?_
  rcases Bool.eq_false_or_eq_true ((rootQ q)) with hb5 | hb5
  ·refine CH.alt 8 (sV (.bool ((rootQ q)))) (sV (.bool true)) (by kernel_rfl) (by rw [hb5]) ?_
   refine CH.alt 9 (sV (.bool ((rootQ q)))) (sV (.bool true)) (by kernel_rfl) (by rw [hb5]) ?_
   refine CH.go 17 hτ (by kernel_rfl) ?_
   refine CH.endk ⟨[(6, bV true)], [], 416⟩ (by kernel_rfl) (by kernel_rfl) rfl ?_
   refine X.ret ?_
   exact ⟨trivial, _, _, ⟨true, (by rw [Bool.eq_iff_iff]; simp only [qcForm, Bool.and_eq_true, Bool.or_eq_true, inR_iff, decide_eq_true_eq, beq_iff_eq, Bool.false_eq_true, false_iff, true_iff, List.length_map]; first | (intro h; omega) | (intro h; simp_all; done) | (simp_all; done) | (simp_all; omega) | (constructor <;> intro h <;> (first | (simp_all; done) | (simp_all; omega) | omega))), rfl, rfl⟩, .inl (Ret.mk' [] (by kernel_rfl) (by kernel_rfl) (by kernel_rfl))⟩
  ·refine CH.alt 8 (sV (.bool ((rootQ q)))) (sV (.bool false)) (by kernel_rfl) (by rw [hb5]) ?_
   refine CH.alt 9 (sV (.bool ((rootQ q)))) (sV (.bool false)) (by kernel_rfl) (by rw [hb5]) ?_
   refine CH.go 3 hτ (by kernel_rfl) ?_
   obtain ⟨r6, hr8, hf7⟩ := i_inRange q.f0 1 r
   replace hr8 := hr8.symm; subst hr8
   refine CH.call hf7 Try.func72 ⟨rfl, rfl⟩ [] (by kernel_rfl) (by kernel_rfl) (by kernel_rfl) (by kernel_rfl) ?_
   refine CH.go 1 hτ (by kernel_rfl) ?_
   rcases Bool.eq_false_or_eq_true ((inR q.f0 1 r)) with hb10 | hb10
   ·refine CH.alt 13 (sV (.bool ((inR q.f0 1 r)))) (sV (.bool true)) (by kernel_rfl) (by rw [hb10]) ?_
    refine CH.alt 14 (sV (.bool ((inR q.f0 1 r)))) (sV (.bool true)) (by kernel_rfl) (by rw [hb10]) ?_
    replace hb10 := inR_yes (hb10)
    refine CH.go 3 hτ (by kernel_rfl) ?_
    obtain ⟨r11, hr13, hf12⟩ := i_inRange q.f1 0 b
    replace hr13 := hr13.symm; subst hr13
    refine CH.call hf12 Try.func72 ⟨rfl, rfl⟩ [] (by kernel_rfl) (by kernel_rfl) (by kernel_rfl) (by kernel_rfl) ?_
    refine CH.go 2 hτ (by kernel_rfl) ?_
    rcases Bool.eq_false_or_eq_true ((inR q.f1 0 b)) with hb15 | hb15
    ·refine CH.alt 18 (sV (.bool ((inR q.f1 0 b)))) (sV (.bool true)) (by kernel_rfl) (by rw [hb15]) ?_
     refine CH.alt 19 (sV (.bool ((inR q.f1 0 b)))) (sV (.bool true)) (by kernel_rfl) (by rw [hb15]) ?_
     refine CH.alt 20 (sV (.bool ((inR q.f1 0 b)))) (sV (.bool true)) (by kernel_rfl) (by rw [hb15]) ?_
     replace hb15 := inR_yes (hb15)
     refine CH.go 2 hτ (by kernel_rfl) ?_
     obtain ⟨r16, hr18, hf17⟩ := i_NamesOk q.f2 (by exact hq)
     replace hr18 := hr18.symm; subst hr18
     refine CH.call hf17 Try.func133 ⟨rfl, rfl⟩ [] (by kernel_rfl) (by kernel_rfl) (by kernel_rfl) (by kernel_rfl) ?_
     refine CH.go 3 hτ (by kernel_rfl) ?_
     refine CH.endk ⟨[(6, bV (namesOk q.f2))], [], 416⟩ (by kernel_rfl) (by kernel_rfl) rfl ?_
     refine X.ret ?_
     exact ⟨trivial, _, _, ⟨(namesOk q.f2), (by rw [Bool.eq_iff_iff]; simp only [qcForm, Bool.and_eq_true, Bool.or_eq_true, inR_iff, decide_eq_true_eq, beq_iff_eq, Bool.false_eq_true, false_iff, true_iff, List.length_map]; first | (intro h; omega) | (intro h; simp_all; done) | (simp_all; done) | (simp_all; omega) | (constructor <;> intro h <;> (first | (simp_all; done) | (simp_all; omega) | omega))), rfl, rfl⟩, .inl (Ret.mk' [] (by kernel_rfl) (by kernel_rfl) (by kernel_rfl))⟩
    ·refine CH.alt 18 (sV (.bool ((inR q.f1 0 b)))) (sV (.bool false)) (by kernel_rfl) (by rw [hb15]) ?_
     refine CH.alt 19 (sV (.bool ((inR q.f1 0 b)))) (sV (.bool false)) (by kernel_rfl) (by rw [hb15]) ?_
     refine CH.alt 20 (sV (.bool ((inR q.f1 0 b)))) (sV (.bool false)) (by kernel_rfl) (by rw [hb15]) ?_
     replace hb15 := inR_no (hb15)
     refine CH.go 6 hτ (by kernel_rfl) ?_
     refine CH.endk ⟨[(6, bV false)], [], 416⟩ (by kernel_rfl) (by kernel_rfl) rfl ?_
     refine X.ret ?_
     exact ⟨trivial, _, _, ⟨false, (by rw [Bool.eq_iff_iff]; simp only [qcForm, Bool.and_eq_true, Bool.or_eq_true, inR_iff, decide_eq_true_eq, beq_iff_eq, Bool.false_eq_true, false_iff, true_iff, List.length_map]; first | (intro h; omega) | (intro h; simp_all; done) | (simp_all; done) | (simp_all; omega) | (constructor <;> intro h <;> (first | (simp_all; done) | (simp_all; omega) | omega))), rfl, rfl⟩, .inl (Ret.mk' [] (by kernel_rfl) (by kernel_rfl) (by kernel_rfl))⟩
   ·refine CH.alt 13 (sV (.bool ((inR q.f0 1 r)))) (sV (.bool false)) (by kernel_rfl) (by rw [hb10]) ?_
    refine CH.alt 14 (sV (.bool ((inR q.f0 1 r)))) (sV (.bool false)) (by kernel_rfl) (by rw [hb10]) ?_
    replace hb10 := inR_no (hb10)
    refine CH.go 12 hτ (by kernel_rfl) ?_
    refine CH.endk ⟨[(6, bV false)], [], 416⟩ (by kernel_rfl) (by kernel_rfl) rfl ?_
    refine X.ret ?_
    exact ⟨trivial, _, _, ⟨false, (by rw [Bool.eq_iff_iff]; simp only [qcForm, Bool.and_eq_true, Bool.or_eq_true, inR_iff, decide_eq_true_eq, beq_iff_eq, Bool.false_eq_true, false_iff, true_iff, List.length_map]; first | (intro h; omega) | (intro h; simp_all; done) | (simp_all; done) | (simp_all; omega) | (constructor <;> intro h <;> (first | (simp_all; done) | (simp_all; omega) | omega))), rfl, rfl⟩, .inl (Ret.mk' [] (by kernel_rfl) (by kernel_rfl) (by kernel_rfl))⟩
 obtain ⟨_, _, ⟨r0, h1_, rfl, rfl⟩, hf⟩ := key
 exact ⟨r0, h1_, hf⟩

theorem s_l9Tc (b : S49) (hb : Sm49 b) : ∃ r0 : Bool, (r0 = tcForm b.f5 (wr .i64 (b.f2 - 1))) ∧ Fn Try.prog 69 [.e (.agg (cD (d49 b)))] (lookH []) (bV r0) (lookH []) := by
 have key : ∃ x' h', ((fun x' h' => ∃ r0 : Bool, (r0 = tcForm b.f5 (wr .i64 (b.f2 - 1))) ∧ x' = bV r0 ∧ h' = [])) x' h' ∧ Fn Try.prog 69 [.e (.agg (cD (d49 b)))] (lookH []) x' (lookH h') := by
  refine Fn.bodyX (N := 48) hτ Try.func69 rfl rfl rfl rfl ?_
  refine X.seq ?_
  refine X.rk ⟨[(1, .pt 64 0 0)], [(64, some (.box (cD (d49 b))))], 96⟩ hτ hmix (by kernel_rfl) (by kernel_rfl) rfl ?_
  refine X.seq ?_
  refine X.rk ⟨[(1, .pt 64 0 0), (3, .pt 128 0 0)], [(64, some (.box (cD (d49 b)))), (128, some (.box (cD (d46 b.f5))))], 160⟩ hτ hmix (by kernel_rfl) (by kernel_rfl) rfl ?_
  refine X.seq ?_
  refine X.seq ?_
  refine X.rs 1 hτ hmix (by kernel_rfl) ?_
  obtain ⟨r1, hr3, hf2⟩ := s_l8None b.f5
  replace hr3 := hr3.symm; subst hr3
  refine CH.call hf2 Try.func131 ⟨rfl, rfl⟩ [] (by kernel_rfl) (by kernel_rfl) (by kernel_rfl) (by kernel_rfl) ?_
  refine CH.endk ⟨[(1, .pt 64 0 0), (3, .pt 128 0 0), (8, bV (noneT b.f5))], [(64, some (.box (cD (d49 b)))), (128, some (.box (cD (d46 b.f5))))], 192⟩ (by kernel_rfl) (by kernel_rfl) rfl ?_
  refine X.if_ (b := (noneT b.f5)) (by kernel_rfl) (fun hb5 => ?_) (fun hb5 => ?_)
  ·refine X.seq ?_
   refine X.rk ⟨[(2, bV true)], [], 208⟩ hτ hmix (by kernel_rfl) (by kernel_rfl) rfl ?_
   refine X.ret ?_
   exact ⟨trivial, _, _, ⟨true, (by (first | have hz := all_yes (p := fun h => inR h 0 (wr .i64 (b.f5.f0 - 1))) (upto_all hA (by omega)) | have hz := all_no (p := fun h => inR h 0 (wr .i64 (b.f5.f0 - 1))) ‹_› (inR_ff ‹_›) | skip); rw [Bool.eq_iff_iff]; simp only [tcForm, Bool.and_eq_true, Bool.or_eq_true, inR_iff, decide_eq_true_eq, beq_iff_eq, Bool.false_eq_true, false_iff, true_iff, List.length_map]; first | (intro h; omega) | (intro h; simp_all; done) | (simp_all; done) | (simp_all; omega) | (constructor <;> intro h <;> (first | (simp_all; done) | (simp_all; omega) | omega))), rfl, rfl⟩, .inl (Ret.mk' [] (by kernel_rfl) (by kernel_rfl) (by kernel_rfl))⟩
  ·refine X.skip ?_
   refine X.seq ?_
   refine X.seq ?_
   have hm := hb.2.2.1.2
   refine X.rs 5 hτ hmix (by kernel_rfl) ?_
   obtain ⟨r6, hr8, hf7⟩ := s_l1In b.f5.f0 1 (wr .i64 (b.f2 - 1))
   replace hr8 := hr8.symm; subst hr8
   refine CH.call hf7 Try.func66 ⟨rfl, rfl⟩ [] (by kernel_rfl) (by kernel_rfl) (by kernel_rfl) (by kernel_rfl) ?_
   refine CH.go 2 hτ (by kernel_rfl) ?_
   rcases Bool.eq_false_or_eq_true (!(inR b.f5.f0 1 (wr .i64 (b.f2 - 1)))) with hb10 | hb10
   ·refine CH.alt 15 (sV (.bool (!(inR b.f5.f0 1 (wr .i64 (b.f2 - 1)))))) (sV (.bool true)) (by kernel_rfl) (by rw [hb10]) ?_
    refine CH.alt 16 (sV (.bool (!(inR b.f5.f0 1 (wr .i64 (b.f2 - 1)))))) (sV (.bool true)) (by kernel_rfl) (by rw [hb10]) ?_
    replace hb10 := inR_no (bnot_yes (hb10))
    refine CH.go 14 hτ (by kernel_rfl) ?_
    refine CH.endk ⟨[(3, .pt 128 0 0), (30, bV true)], [(128, some (.box (cD (d46 b.f5))))], 544⟩ (by kernel_rfl) (by kernel_rfl) rfl ?_
    refine X.ifT (by kernel_rfl) ?_
    refine X.seq ?_
    refine X.rk ⟨[(2, bV false)], [], 560⟩ hτ hmix (by kernel_rfl) (by kernel_rfl) rfl ?_
    refine X.ret ?_
    exact ⟨trivial, _, _, ⟨false, (by (first | have hz := all_yes (p := fun h => inR h 0 (wr .i64 (b.f5.f0 - 1))) (upto_all hA (by omega)) | have hz := all_no (p := fun h => inR h 0 (wr .i64 (b.f5.f0 - 1))) ‹_› (inR_ff ‹_›) | skip); rw [Bool.eq_iff_iff]; simp only [tcForm, Bool.and_eq_true, Bool.or_eq_true, inR_iff, decide_eq_true_eq, beq_iff_eq, Bool.false_eq_true, false_iff, true_iff, List.length_map]; first | (intro h; omega) | (intro h; simp_all; done) | (simp_all; done) | (simp_all; omega) | (constructor <;> intro h <;> (first | (simp_all; done) | (simp_all; omega) | omega))), rfl, rfl⟩, .inl (Ret.mk' [] (by kernel_rfl) (by kernel_rfl) (by kernel_rfl))⟩
   ·refine CH.alt 15 (sV (.bool (!(inR b.f5.f0 1 (wr .i64 (b.f2 - 1)))))) (sV (.bool false)) (by kernel_rfl) (by rw [hb10]) ?_
    refine CH.alt 16 (sV (.bool (!(inR b.f5.f0 1 (wr .i64 (b.f2 - 1)))))) (sV (.bool false)) (by kernel_rfl) (by rw [hb10]) ?_
    replace hb10 := inR_yes (bnot_no (hb10))
    refine CH.go 2 hτ (by kernel_rfl) ?_
    obtain ⟨r11, hr13, hf12⟩ := s_NamesOk b.f5.f1 (by exact hb.2.2.1.1)
    replace hr13 := hr13.symm; subst hr13
    refine CH.call hf12 Try.func130 ⟨rfl, rfl⟩ [] (by kernel_rfl) (by kernel_rfl) (by kernel_rfl) (by kernel_rfl) ?_
    refine CH.go 3 hτ (by kernel_rfl) ?_
    rcases Bool.eq_false_or_eq_true (!(namesOk b.f5.f1)) with hb15 | hb15
    ·refine CH.alt 20 (sV (.bool (!(namesOk b.f5.f1)))) (sV (.bool true)) (by kernel_rfl) (by rw [hb15]) ?_
     refine CH.alt 21 (sV (.bool (!(namesOk b.f5.f1)))) (sV (.bool true)) (by kernel_rfl) (by rw [hb15]) ?_
     refine CH.alt 22 (sV (.bool (!(namesOk b.f5.f1)))) (sV (.bool true)) (by kernel_rfl) (by rw [hb15]) ?_
     replace hb15 := bnot_yes (hb15)
     refine CH.go 8 hτ (by kernel_rfl) ?_
     refine CH.endk ⟨[(3, .pt 128 0 0), (30, bV true)], [(128, some (.box (cD (d46 b.f5))))], 544⟩ (by kernel_rfl) (by kernel_rfl) rfl ?_
     refine X.ifT (by kernel_rfl) ?_
     refine X.seq ?_
     refine X.rk ⟨[(2, bV false)], [], 560⟩ hτ hmix (by kernel_rfl) (by kernel_rfl) rfl ?_
     refine X.ret ?_
     exact ⟨trivial, _, _, ⟨false, (by (first | have hz := all_yes (p := fun h => inR h 0 (wr .i64 (b.f5.f0 - 1))) (upto_all hA (by omega)) | have hz := all_no (p := fun h => inR h 0 (wr .i64 (b.f5.f0 - 1))) ‹_› (inR_ff ‹_›) | skip); rw [Bool.eq_iff_iff]; simp only [tcForm, Bool.and_eq_true, Bool.or_eq_true, inR_iff, decide_eq_true_eq, beq_iff_eq, Bool.false_eq_true, false_iff, true_iff, List.length_map]; first | (intro h; omega) | (intro h; simp_all; done) | (simp_all; done) | (simp_all; omega) | (constructor <;> intro h <;> (first | (simp_all; done) | (simp_all; omega) | omega))), rfl, rfl⟩, .inl (Ret.mk' [] (by kernel_rfl) (by kernel_rfl) (by kernel_rfl))⟩
    ·refine CH.alt 20 (sV (.bool (!(namesOk b.f5.f1)))) (sV (.bool false)) (by kernel_rfl) (by rw [hb15]) ?_
     refine CH.alt 21 (sV (.bool (!(namesOk b.f5.f1)))) (sV (.bool false)) (by kernel_rfl) (by rw [hb15]) ?_
     refine CH.alt 22 (sV (.bool (!(namesOk b.f5.f1)))) (sV (.bool false)) (by kernel_rfl) (by rw [hb15]) ?_
     replace hb15 := bnot_no (hb15)
     refine CH.go 8 hτ (by kernel_rfl) ?_
     have el16 : (b.f5.f2.map dI).length = b.f5.f2.length := List.length_map ..
     have el17 : (b.f5.f1.map dS).length = b.f5.f1.length := List.length_map ..
     refine CH.endk ⟨[(3, .pt 128 0 0), (30, bV (((b.f5.f2.map dI).length : Int) != ((b.f5.f1.map dS).length : Int)))], [(128, some (.box (cD (d46 b.f5))))], 544⟩ (by kernel_rfl) (by kernel_rfl) rfl ?_
     refine X.if_ (b := (((b.f5.f2.map dI).length : Int) != ((b.f5.f1.map dS).length : Int))) (by kernel_rfl) (fun hb18 => ?_) (fun hb18 => ?_)
     ·replace hb18 := bne_iff_ne.1 (hb18)
      refine X.seq ?_
      refine X.rk ⟨[(2, bV false)], [], 560⟩ hτ hmix (by kernel_rfl) (by kernel_rfl) rfl ?_
      refine X.ret ?_
      exact ⟨trivial, _, _, ⟨false, (by (first | have hz := all_yes (p := fun h => inR h 0 (wr .i64 (b.f5.f0 - 1))) (upto_all hA (by omega)) | have hz := all_no (p := fun h => inR h 0 (wr .i64 (b.f5.f0 - 1))) ‹_› (inR_ff ‹_›) | skip); rw [Bool.eq_iff_iff]; simp only [tcForm, Bool.and_eq_true, Bool.or_eq_true, inR_iff, decide_eq_true_eq, beq_iff_eq, Bool.false_eq_true, false_iff, true_iff, List.length_map]; first | (intro h; omega) | (intro h; simp_all; done) | (simp_all; done) | (simp_all; omega) | (constructor <;> intro h <;> (first | (simp_all; done) | (simp_all; omega) | omega))), rfl, rfl⟩, .inl (Ret.mk' [] (by kernel_rfl) (by kernel_rfl) (by kernel_rfl))⟩
     ·replace hb18 := bne_eq_false_iff_eq.1 (hb18)
      refine X.skip ?_
      refine X.seq ?_
      refine X.seq ?_
      refine X.rk ⟨[(3, .pt 128 0 0), (4, iV 0)], [(128, some (.box (cD (d46 b.f5))))], 560⟩ hτ hmix (by kernel_rfl) (by kernel_rfl) rfl ?_
      refine X.block ?_
      -- 7: v4 : Int
      refine X.loop (σ := { g : Int // (fun (v4 : Int) => 0 ≤ v4 ∧ v4 ≤ b.f5.f2.length ∧ Upto (fun _ h => inR h 0 (wr .i64 (b.f5.f0 - 1)) = true) (fun n => b.f5.f2[n]?) v4) g }) (fun g => (fun (v4 : Int) => ⟨[(3, .pt 128 0 0), (4, iV v4)], [(128, some (.box (cD (d46 b.f5))))], 560⟩) g.1) (fun g => (fun (v4 : Int) => (b.f5.f2.length - v4).toNat) g.1) ⟨0, ⟨by first | omega | (dsimp only; omega), by first | omega | (dsimp only; omega), upto_zero⟩⟩ (Wk.less (by kernel_rfl)) (fun g => ?_)
      obtain ⟨v4, hg20⟩ := g
      have hg20 : 0 ≤ v4 ∧ v4 ≤ b.f5.f2.length ∧ Upto (fun _ h => inR h 0 (wr .i64 (b.f5.f0 - 1)) = true) (fun n => b.f5.f2[n]?) v4 := hg20
      obtain ⟨_, _, hA⟩ := hg20
      refine X.seq ?_
      refine X.seq ?_
      refine X.rk ⟨[(3, .pt 128 0 0), (4, iV v4), (35, bV (decide ((v4 : Int) < ((b.f5.f2.map dI).length : Int))))], [(128, some (.box (cD (d46 b.f5))))], 640⟩ hτ hmix (by kernel_rfl) (by kernel_rfl) rfl ?_
      refine X.if_ (b := decide ((v4 : Int) < ((b.f5.f2.map dI).length : Int))) (by kernel_rfl) (fun hb21 => ?_) (fun hb21 => ?_)
      ·replace hb21 := of_decide_eq_true (hb21)
       refine X.skip ?_
       refine X.seq ?_
       refine X.block ?_
       refine X.seq ?_
       refine X.rs 3 hτ hmix (by kernel_rfl) ?_
       obtain ⟨x22, hx22⟩ : ∃ x, b.f5.f2[Int.toNat v4]? = some x := ⟨_, List.getElem?_eq_getElem (by first | omega | (simp; done) | (simp; omega))⟩
       refine CH.idx hτ (dI x22) (rows := (b.f5.f2.map dI)) (n := v4) (sz := 1) (by kernel_rfl) (by kernel_rfl) (by first | omega | (simp; done) | (simp; omega)) (by rw [List.getElem?_map, hx22]; rfl) (by kernel_rfl) ?_
       refine CH.go 4 hτ (by kernel_rfl) ?_
       obtain ⟨r23, hr25, hf24⟩ := s_l1In x22 0 (wr .i64 (b.f5.f0 - 1))
       replace hr25 := hr25.symm; subst hr25
       refine CH.call hf24 Try.func66 ⟨rfl, rfl⟩ [] (by kernel_rfl) (by kernel_rfl) (by kernel_rfl) (by kernel_rfl) ?_
       refine CH.go 1 hτ (by kernel_rfl) ?_
       refine CH.endk ⟨[(3, .pt 128 0 0), (4, iV v4), (47, bV (!(inR x22 0 (wr .i64 (b.f5.f0 - 1)))))], [(128, some (.box (cD (d46 b.f5))))], 800⟩ (by kernel_rfl) (by kernel_rfl) rfl ?_
       refine X.if_ (b := !(inR x22 0 (wr .i64 (b.f5.f0 - 1)))) (by kernel_rfl) (fun hb27 => ?_) (fun hb27 => ?_)
       ·replace hb27 := inR_no (bnot_yes (hb27))
        refine X.seq ?_
        refine X.rk ⟨[(2, bV false)], [], 816⟩ hτ hmix (by kernel_rfl) (by kernel_rfl) rfl ?_
        refine X.ret ?_
        exact ⟨trivial, _, _, ⟨false, (by (first | have hz := all_yes (p := fun h => inR h 0 (wr .i64 (b.f5.f0 - 1))) (upto_all hA (by omega)) | have hz := all_no (p := fun h => inR h 0 (wr .i64 (b.f5.f0 - 1))) ‹_› (inR_ff ‹_›) | skip); rw [Bool.eq_iff_iff]; simp only [tcForm, Bool.and_eq_true, Bool.or_eq_true, inR_iff, decide_eq_true_eq, beq_iff_eq, Bool.false_eq_true, false_iff, true_iff, List.length_map]; first | (intro h; omega) | (intro h; simp_all; done) | (simp_all; done) | (simp_all; omega) | (constructor <;> intro h <;> (first | (simp_all; done) | (simp_all; omega) | omega))), rfl, rfl⟩, .inl (Ret.mk' [] (by kernel_rfl) (by kernel_rfl) (by kernel_rfl))⟩
       ·replace hb27 := inR_yes (bnot_no (hb27))
        refine X.skip ?_
        refine X.rk ⟨[(3, .pt 128 0 0), (4, iV (wrap64 (v4 + 1)))], [(128, some (.box (cD (d46 b.f5))))], 848⟩ hτ hmix (by kernel_rfl) (by kernel_rfl) (s2 := ⟨[(3, .pt 128 0 0), (4, iV (v4 + 1))], [(128, some (.box (cD (d46 b.f5))))], 848⟩) (congrArg (fun z : Int => (⟨[(3, .pt 128 0 0), (4, iV z)], [(128, some (.box (cD (d46 b.f5))))], 848⟩ : St)) (show wrap64 (v4 + 1) = (v4 + 1) by rw [w64 (n := (v4 + 1)) (by omega) (by omega)])) ?_
        refine ⟨⟨(v4 + 1), ⟨by first | omega | (dsimp only; omega), by first | omega | (dsimp only; omega), upto_nx (by first | omega | (dsimp only; omega)) hA ‹_› (inR_iff.2 ‹_›)⟩⟩, by first | exact rfl | omega | (dsimp only; omega) | (simp only [List.length_append, List.length_cons, List.length_nil, List.length_set]; omega) | (simp; done) | (simp; omega), Wk.mk' [(128, 128)] (by kernel_rfl) (by kernel_rfl) (by kernel_rfl)⟩
      ·replace hb21 := of_decide_eq_false (hb21)
       refine X.exit ?_
       refine X.seq ?_
       refine X.rk ⟨[(2, bV true)], [], 656⟩ hτ hmix (by kernel_rfl) (by kernel_rfl) rfl ?_
       refine X.ret ?_
       exact ⟨trivial, _, _, ⟨true, (by (first | have hz := all_yes (p := fun h => inR h 0 (wr .i64 (b.f5.f0 - 1))) (upto_all hA (by omega)) | have hz := all_no (p := fun h => inR h 0 (wr .i64 (b.f5.f0 - 1))) ‹_› (inR_ff ‹_›) | skip); rw [Bool.eq_iff_iff]; simp only [tcForm, Bool.and_eq_true, Bool.or_eq_true, inR_iff, decide_eq_true_eq, beq_iff_eq, Bool.false_eq_true, false_iff, true_iff, List.length_map]; first | (intro h; omega) | (intro h; simp_all; done) | (simp_all; done) | (simp_all; omega) | (constructor <;> intro h <;> (first | (simp_all; done) | (simp_all; omega) | omega))), rfl, rfl⟩, .inl (Ret.mk' [] (by kernel_rfl) (by kernel_rfl) (by kernel_rfl))⟩
 obtain ⟨_, _, ⟨r0, h1_, rfl, rfl⟩, hf⟩ := key
 exact ⟨r0, h1_, hf⟩

theorem i_tcForm (t : S46) (r : Int) (ht : Sm46 t) : ∃ r0 : Bool, (r0 = tcForm t r) ∧ Fn Try.prog 75 [.e (.agg (cD (d46 t))), iV r] (lookH []) (bV r0) (lookH []) := by
 have key : ∃ x' h', ((fun x' h' => ∃ r0 : Bool, (r0 = tcForm t r) ∧ x' = bV r0 ∧ h' = [])) x' h' ∧ Fn Try.prog 75 [.e (.agg (cD (d46 t))), iV r] (lookH []) x' (lookH h') := by
  refine Fn.bodyX (N := 41) hτ Try.func75 rfl rfl rfl rfl ?_
  refine X.seq ?_
  refine X.rk ⟨[(1, iV r), (2, .pt 64 0 0)], [(64, some (.box (cD (d46 t))))], 96⟩ hτ hmix (by kernel_rfl) (by kernel_rfl) rfl ?_
  refine X.seq ?_
  refine X.seq ?_
  refine X.rs 1 hτ hmix (by kernel_rfl) ?_
  obtain ⟨r1, hr3, hf2⟩ := i_isNone t
  replace hr3 := hr3.symm; subst hr3
  refine CH.call hf2 Try.func84 ⟨rfl, rfl⟩ [] (by kernel_rfl) (by kernel_rfl) (by kernel_rfl) (by kernel_rfl) ?_
  refine CH.endk ⟨[(1, iV r), (2, .pt 64 0 0), (8, bV (noneT t))], [(64, some (.box (cD (d46 t))))], 128⟩ (by kernel_rfl) (by kernel_rfl) rfl ?_
  refine X.if_ (b := (noneT t)) (by kernel_rfl) (fun hb5 => ?_) (fun hb5 => ?_)
  ·refine X.seq ?_
   refine X.rk ⟨[(4, bV true)], [], 144⟩ hτ hmix (by kernel_rfl) (by kernel_rfl) rfl ?_
   refine X.ret ?_
   exact ⟨trivial, _, _, ⟨true, (by (first | have hz := all_yes (p := fun h => inR h 0 (wr .i64 (t.f0 - 1))) (upto_all hA (by omega)) | have hz := all_no (p := fun h => inR h 0 (wr .i64 (t.f0 - 1))) ‹_› (inR_ff ‹_›) | skip); rw [Bool.eq_iff_iff]; simp only [tcForm, Bool.and_eq_true, Bool.or_eq_true, inR_iff, decide_eq_true_eq, beq_iff_eq, Bool.false_eq_true, false_iff, true_iff, List.length_map]; first | (intro h; omega) | (intro h; simp_all; done) | (simp_all; done) | (simp_all; omega) | (constructor <;> intro h <;> (first | (simp_all; done) | (simp_all; omega) | omega))), rfl, rfl⟩, .inl (Ret.mk' [] (by kernel_rfl) (by kernel_rfl) (by kernel_rfl))⟩
  ·refine X.skip ?_
   refine X.seq ?_
   refine X.seq ?_
   have hm := ht.2
   have el6 : (t.f2.map dI).length = t.f2.length := List.length_map ..
   refine X.rk ⟨[(1, iV r), (2, .pt 64 0 0), (10, lV (t.f2.map dI)), (11, iV ((t.f2.map dI).length : Int)), (12, iV 0)], [(64, some (.box (cD (d46 t))))], 192⟩ hτ hmix (by kernel_rfl) (by kernel_rfl) rfl ?_
   refine X.block ?_
   -- 4: v12 : Int
   refine X.loop (σ := { g : Int // (fun (v12 : Int) => 0 ≤ v12 ∧ v12 ≤ t.f2.length ∧ Upto (fun _ h => inR h 0 (wr .i64 (t.f0 - 1)) = true) (fun n => t.f2[n]?) v12) g }) (fun g => (fun (v12 : Int) => ⟨[(1, iV r), (2, .pt 64 0 0), (10, lV (t.f2.map dI)), (11, iV ((t.f2.map dI).length : Int)), (12, iV v12)], [(64, some (.box (cD (d46 t))))], 192⟩) g.1) (fun g => (fun (v12 : Int) => (t.f2.length - v12).toNat) g.1) ⟨0, ⟨by first | omega | (dsimp only; omega), by first | omega | (dsimp only; omega), upto_zero⟩⟩ (Wk.less (by kernel_rfl)) (fun g => ?_)
   obtain ⟨v12, hg8⟩ := g
   have hg8 : 0 ≤ v12 ∧ v12 ≤ t.f2.length ∧ Upto (fun _ h => inR h 0 (wr .i64 (t.f0 - 1)) = true) (fun n => t.f2[n]?) v12 := hg8
   obtain ⟨_, _, hA⟩ := hg8
   refine X.seq ?_
   refine X.rk ⟨[(1, iV r), (2, .pt 64 0 0), (10, lV (t.f2.map dI)), (11, iV ((t.f2.map dI).length : Int)), (12, iV v12), (13, bV (decide ((v12 : Int) < ((t.f2.map dI).length : Int))))], [(64, some (.box (cD (d46 t))))], 208⟩ hτ hmix (by kernel_rfl) (by kernel_rfl) rfl ?_
   refine X.seq ?_
   refine X.if_ (b := decide ((v12 : Int) < ((t.f2.map dI).length : Int))) (by kernel_rfl) (fun hb9 => ?_) (fun hb9 => ?_)
   ·replace hb9 := of_decide_eq_true (hb9)
    refine X.skip ?_
    refine X.seq ?_
    refine X.block ?_
    refine X.seq ?_
    refine X.rs 0 hτ hmix (by kernel_rfl) ?_
    obtain ⟨x10, hx10⟩ : ∃ x, t.f2[Int.toNat v12]? = some x := ⟨_, List.getElem?_eq_getElem (by first | omega | (simp; done) | (simp; omega))⟩
    refine CH.idx hτ (dI x10) (rows := (t.f2.map dI)) (n := v12) (sz := 1) (by kernel_rfl) (by kernel_rfl) (by first | omega | (simp; done) | (simp; omega)) (by rw [List.getElem?_map, hx10]; rfl) (by kernel_rfl) ?_
    refine CH.go 2 hτ (by kernel_rfl) ?_
    refine CH.endk ⟨[(1, iV r), (2, .pt 64 0 0), (6, iV x10), (10, lV (t.f2.map dI)), (11, iV ((t.f2.map dI).length : Int)), (12, iV v12)], [(64, some (.box (cD (d46 t))))], 256⟩ (by kernel_rfl) (by kernel_rfl) rfl ?_
    refine X.seq ?_
    refine X.rs 4 hτ hmix (by kernel_rfl) ?_
    obtain ⟨r11, hr13, hf12⟩ := i_inRange x10 0 (wr .i64 (t.f0 - 1))
    replace hr13 := hr13.symm; subst hr13
    refine CH.call hf12 Try.func72 ⟨rfl, rfl⟩ [] (by kernel_rfl) (by kernel_rfl) (by kernel_rfl) (by kernel_rfl) ?_
    refine CH.go 1 hτ (by kernel_rfl) ?_
    refine CH.endk ⟨[(1, iV r), (2, .pt 64 0 0), (10, lV (t.f2.map dI)), (11, iV ((t.f2.map dI).length : Int)), (12, iV v12), (21, bV (!(inR x10 0 (wr .i64 (t.f0 - 1)))))], [(64, some (.box (cD (d46 t))))], 352⟩ (by kernel_rfl) (by kernel_rfl) rfl ?_
    refine X.if_ (b := !(inR x10 0 (wr .i64 (t.f0 - 1)))) (by kernel_rfl) (fun hb15 => ?_) (fun hb15 => ?_)
    ·replace hb15 := inR_no (bnot_yes (hb15))
     refine X.seq ?_
     refine X.rk ⟨[(4, bV false)], [], 368⟩ hτ hmix (by kernel_rfl) (by kernel_rfl) rfl ?_
     refine X.ret ?_
     exact ⟨trivial, _, _, ⟨false, (by (first | have hz := all_yes (p := fun h => inR h 0 (wr .i64 (t.f0 - 1))) (upto_all hA (by omega)) | have hz := all_no (p := fun h => inR h 0 (wr .i64 (t.f0 - 1))) ‹_› (inR_ff ‹_›) | skip); rw [Bool.eq_iff_iff]; simp only [tcForm, Bool.and_eq_true, Bool.or_eq_true, inR_iff, decide_eq_true_eq, beq_iff_eq, Bool.false_eq_true, false_iff, true_iff, List.length_map]; first | (intro h; omega) | (intro h; simp_all; done) | (simp_all; done) | (simp_all; omega) | (constructor <;> intro h <;> (first | (simp_all; done) | (simp_all; omega) | omega))), rfl, rfl⟩, .inl (Ret.mk' [] (by kernel_rfl) (by kernel_rfl) (by kernel_rfl))⟩
    ·replace hb15 := inR_yes (bnot_no (hb15))
     refine X.skip ?_
     refine X.rk ⟨[(1, iV r), (2, .pt 64 0 0), (10, lV (t.f2.map dI)), (11, iV ((t.f2.map dI).length : Int)), (12, iV (wrap64 (v12 + 1)))], [(64, some (.box (cD (d46 t))))], 384⟩ hτ hmix (by kernel_rfl) (by kernel_rfl) (s2 := ⟨[(1, iV r), (2, .pt 64 0 0), (10, lV (t.f2.map dI)), (11, iV ((t.f2.map dI).length : Int)), (12, iV (v12 + 1))], [(64, some (.box (cD (d46 t))))], 384⟩) (congrArg (fun z : Int => (⟨[(1, iV r), (2, .pt 64 0 0), (10, lV (t.f2.map dI)), (11, iV ((t.f2.map dI).length : Int)), (12, iV z)], [(64, some (.box (cD (d46 t))))], 384⟩ : St)) (show wrap64 (v12 + 1) = (v12 + 1) by rw [w64 (n := (v12 + 1)) (by omega) (by omega)])) ?_
     refine ⟨⟨(v12 + 1), ⟨by first | omega | (dsimp only; omega), by first | omega | (dsimp only; omega), upto_nx (by first | omega | (dsimp only; omega)) hA ‹_› (inR_iff.2 ‹_›)⟩⟩, by first | exact rfl | omega | (dsimp only; omega) | (simp only [List.length_append, List.length_cons, List.length_nil, List.length_set]; omega) | (simp; done) | (simp; omega), Wk.mk' [(64, 64)] (by kernel_rfl) (by kernel_rfl) (by kernel_rfl)⟩
   ·replace hb9 := of_decide_eq_false (hb9)
    refine X.exit ?_
    refine X.seq ?_
    refine X.rs 3 hτ hmix (by kernel_rfl) ?_
    obtain ⟨r16, hr18, hf17⟩ := i_inRange t.f0 1 r
    replace hr18 := hr18.symm; subst hr18
    refine CH.call hf17 Try.func72 ⟨rfl, rfl⟩ [] (by kernel_rfl) (by kernel_rfl) (by kernel_rfl) (by kernel_rfl) ?_
    refine CH.go 1 hτ (by kernel_rfl) ?_
    rcases Bool.eq_false_or_eq_true ((inR t.f0 1 r)) with hb20 | hb20
    ·refine CH.alt 26 (sV (.bool ((inR t.f0 1 r)))) (sV (.bool true)) (by kernel_rfl) (by rw [hb20]) ?_
     refine CH.alt 27 (sV (.bool ((inR t.f0 1 r)))) (sV (.bool true)) (by kernel_rfl) (by rw [hb20]) ?_
     replace hb20 := inR_yes (hb20)
     refine CH.go 2 hτ (by kernel_rfl) ?_
     obtain ⟨r21, hr23, hf22⟩ := i_NamesOk t.f1 (by exact ht.1)
     replace hr23 := hr23.symm; subst hr23
     refine CH.call hf22 Try.func133 ⟨rfl, rfl⟩ [] (by kernel_rfl) (by kernel_rfl) (by kernel_rfl) (by kernel_rfl) ?_
     refine CH.go 2 hτ (by kernel_rfl) ?_
     rcases Bool.eq_false_or_eq_true ((namesOk t.f1)) with hb25 | hb25
     ·refine CH.alt 30 (sV (.bool ((namesOk t.f1)))) (sV (.bool true)) (by kernel_rfl) (by rw [hb25]) ?_
      refine CH.alt 31 (sV (.bool ((namesOk t.f1)))) (sV (.bool true)) (by kernel_rfl) (by rw [hb25]) ?_
      refine CH.alt 32 (sV (.bool ((namesOk t.f1)))) (sV (.bool true)) (by kernel_rfl) (by rw [hb25]) ?_
      refine CH.go 9 hτ (by kernel_rfl) ?_
      have el26 : (t.f1.map dS).length = t.f1.length := List.length_map ..
      refine CH.endk ⟨[(4, bV (((t.f2.map dI).length : Int) == ((t.f1.map dS).length : Int)))], [], 512⟩ (by kernel_rfl) (by kernel_rfl) rfl ?_
      refine X.ret ?_
      exact ⟨trivial, _, _, ⟨(((t.f2.map dI).length : Int) == ((t.f1.map dS).length : Int)), (by (first | have hz := all_yes (p := fun h => inR h 0 (wr .i64 (t.f0 - 1))) (upto_all hA (by omega)) | have hz := all_no (p := fun h => inR h 0 (wr .i64 (t.f0 - 1))) ‹_› (inR_ff ‹_›) | skip); rw [Bool.eq_iff_iff]; simp only [tcForm, Bool.and_eq_true, Bool.or_eq_true, inR_iff, decide_eq_true_eq, beq_iff_eq, Bool.false_eq_true, false_iff, true_iff, List.length_map]; first | (intro h; omega) | (intro h; simp_all; done) | (simp_all; done) | (simp_all; omega) | (constructor <;> intro h <;> (first | (simp_all; done) | (simp_all; omega) | omega))), rfl, rfl⟩, .inl (Ret.mk' [] (by kernel_rfl) (by kernel_rfl) (by kernel_rfl))⟩
     ·refine CH.alt 30 (sV (.bool ((namesOk t.f1)))) (sV (.bool false)) (by kernel_rfl) (by rw [hb25]) ?_
      refine CH.alt 31 (sV (.bool ((namesOk t.f1)))) (sV (.bool false)) (by kernel_rfl) (by rw [hb25]) ?_
      refine CH.alt 32 (sV (.bool ((namesOk t.f1)))) (sV (.bool false)) (by kernel_rfl) (by rw [hb25]) ?_
      refine CH.go 9 hτ (by kernel_rfl) ?_
      refine CH.endk ⟨[(4, bV false)], [], 512⟩ (by kernel_rfl) (by kernel_rfl) rfl ?_
      refine X.ret ?_
      exact ⟨trivial, _, _, ⟨false, (by (first | have hz := all_yes (p := fun h => inR h 0 (wr .i64 (t.f0 - 1))) (upto_all hA (by omega)) | have hz := all_no (p := fun h => inR h 0 (wr .i64 (t.f0 - 1))) ‹_› (inR_ff ‹_›) | skip); rw [Bool.eq_iff_iff]; simp only [tcForm, Bool.and_eq_true, Bool.or_eq_true, inR_iff, decide_eq_true_eq, beq_iff_eq, Bool.false_eq_true, false_iff, true_iff, List.length_map]; first | (intro h; omega) | (intro h; simp_all; done) | (simp_all; done) | (simp_all; omega) | (constructor <;> intro h <;> (first | (simp_all; done) | (simp_all; omega) | omega))), rfl, rfl⟩, .inl (Ret.mk' [] (by kernel_rfl) (by kernel_rfl) (by kernel_rfl))⟩
    ·refine CH.alt 26 (sV (.bool ((inR t.f0 1 r)))) (sV (.bool false)) (by kernel_rfl) (by rw [hb20]) ?_
     refine CH.alt 27 (sV (.bool ((inR t.f0 1 r)))) (sV (.bool false)) (by kernel_rfl) (by rw [hb20]) ?_
     replace hb20 := inR_no (hb20)
     refine CH.go 14 hτ (by kernel_rfl) ?_
     refine CH.endk ⟨[(4, bV false)], [], 512⟩ (by kernel_rfl) (by kernel_rfl) rfl ?_
     refine X.ret ?_
     exact ⟨trivial, _, _, ⟨false, (by (first | have hz := all_yes (p := fun h => inR h 0 (wr .i64 (t.f0 - 1))) (upto_all hA (by omega)) | have hz := all_no (p := fun h => inR h 0 (wr .i64 (t.f0 - 1))) ‹_› (inR_ff ‹_›) | skip); rw [Bool.eq_iff_iff]; simp only [tcForm, Bool.and_eq_true, Bool.or_eq_true, inR_iff, decide_eq_true_eq, beq_iff_eq, Bool.false_eq_true, false_iff, true_iff, List.length_map]; first | (intro h; omega) | (intro h; simp_all; done) | (simp_all; done) | (simp_all; omega) | (constructor <;> intro h <;> (first | (simp_all; done) | (simp_all; omega) | omega))), rfl, rfl⟩, .inl (Ret.mk' [] (by kernel_rfl) (by kernel_rfl) (by kernel_rfl))⟩
 obtain ⟨_, _, ⟨r0, h1_, rfl, rfl⟩, hf⟩ := key
 exact ⟨r0, h1_, hf⟩

theorem s_TxOk (t : S26) (ht : Sm26 t) : ∃ r0 : Bool, (r0 = txOk t) ∧ Fn Try.prog 70 [.e (.agg (cD (d26 t)))] (lookH []) (bV r0) (lookH []) := by
 have key : ∃ x' h', ((fun x' h' => ∃ r0 : Bool, (r0 = txOk t) ∧ x' = bV r0 ∧ h' = [])) x' h' ∧ Fn Try.prog 70 [.e (.agg (cD (d26 t)))] (lookH []) x' (lookH h') := by
  refine Fn.bodyX (N := 33) hτ Try.func70 rfl rfl rfl rfl ?_
  refine X.seq ?_
  refine X.rk ⟨[(1, .pt 64 0 0)], [(64, some (.box (cD (d26 t))))], 96⟩ hτ hmix (by kernel_rfl) (by kernel_rfl) rfl ?_
  refine X.seq ?_
  refine X.seq ?_
  refine X.rs 2 hτ hmix (by kernel_rfl) ?_
  obtain ⟨r1, hr3, hf2⟩ := s_NameOk t.f1 (by exact ht.1)
  replace hr3 := hr3.symm; subst hr3
  refine CH.call hf2 Try.func67 ⟨rfl, rfl⟩ [] (by kernel_rfl) (by kernel_rfl) (by kernel_rfl) (by kernel_rfl) ?_
  refine CH.go 2 hτ (by kernel_rfl) ?_
  rcases Bool.eq_false_or_eq_true (!(nameOk t.f1)) with hb5 | hb5
  ·refine CH.alt 6 (sV (.bool (!(nameOk t.f1)))) (sV (.bool true)) (by kernel_rfl) (by rw [hb5]) ?_
   refine CH.alt 7 (sV (.bool (!(nameOk t.f1)))) (sV (.bool true)) (by kernel_rfl) (by rw [hb5]) ?_
   replace hb5 := bnot_yes (hb5)
   refine CH.go 11 hτ (by kernel_rfl) ?_
   refine CH.endk ⟨[(1, .pt 64 0 0), (18, bV true)], [(64, some (.box (cD (d26 t))))], 352⟩ (by kernel_rfl) (by kernel_rfl) rfl ?_
   refine X.ifT (by kernel_rfl) ?_
   refine X.seq ?_
   refine X.rk ⟨[(2, bV false)], [], 368⟩ hτ hmix (by kernel_rfl) (by kernel_rfl) rfl ?_
   refine X.ret ?_
   exact ⟨trivial, _, _, ⟨false, (by rw [Bool.eq_iff_iff]; simp only [txOk, Bool.and_eq_true, Bool.or_eq_true, inR_iff, decide_eq_true_eq, beq_iff_eq, Bool.false_eq_true, false_iff, true_iff, List.length_map]; first | (intro h; omega) | (intro h; simp_all; done) | (simp_all; done) | (simp_all; omega) | (constructor <;> intro h <;> (first | (simp_all; done) | (simp_all; omega) | omega))), rfl, rfl⟩, .inl (Ret.mk' [] (by kernel_rfl) (by kernel_rfl) (by kernel_rfl))⟩
  ·refine CH.alt 6 (sV (.bool (!(nameOk t.f1)))) (sV (.bool false)) (by kernel_rfl) (by rw [hb5]) ?_
   refine CH.alt 7 (sV (.bool (!(nameOk t.f1)))) (sV (.bool false)) (by kernel_rfl) (by rw [hb5]) ?_
   replace hb5 := bnot_no (hb5)
   refine CH.go 2 hτ (by kernel_rfl) ?_
   obtain ⟨r6, hr8, hf7⟩ := s_l1In t.f3 1 1000000
   replace hr8 := hr8.symm; subst hr8
   refine CH.call hf7 Try.func66 ⟨rfl, rfl⟩ [] (by kernel_rfl) (by kernel_rfl) (by kernel_rfl) (by kernel_rfl) ?_
   refine CH.go 3 hτ (by kernel_rfl) ?_
   rcases Bool.eq_false_or_eq_true (!(inR t.f3 1 1000000)) with hb10 | hb10
   ·refine CH.alt 11 (sV (.bool (!(inR t.f3 1 1000000)))) (sV (.bool true)) (by kernel_rfl) (by rw [hb10]) ?_
    refine CH.alt 12 (sV (.bool (!(inR t.f3 1 1000000)))) (sV (.bool true)) (by kernel_rfl) (by rw [hb10]) ?_
    refine CH.alt 13 (sV (.bool (!(inR t.f3 1 1000000)))) (sV (.bool true)) (by kernel_rfl) (by rw [hb10]) ?_
    replace hb10 := inR_no (bnot_yes (hb10))
    refine CH.go 5 hτ (by kernel_rfl) ?_
    refine CH.endk ⟨[(1, .pt 64 0 0), (18, bV true)], [(64, some (.box (cD (d26 t))))], 352⟩ (by kernel_rfl) (by kernel_rfl) rfl ?_
    refine X.ifT (by kernel_rfl) ?_
    refine X.seq ?_
    refine X.rk ⟨[(2, bV false)], [], 368⟩ hτ hmix (by kernel_rfl) (by kernel_rfl) rfl ?_
    refine X.ret ?_
    exact ⟨trivial, _, _, ⟨false, (by rw [Bool.eq_iff_iff]; simp only [txOk, Bool.and_eq_true, Bool.or_eq_true, inR_iff, decide_eq_true_eq, beq_iff_eq, Bool.false_eq_true, false_iff, true_iff, List.length_map]; first | (intro h; omega) | (intro h; simp_all; done) | (simp_all; done) | (simp_all; omega) | (constructor <;> intro h <;> (first | (simp_all; done) | (simp_all; omega) | omega))), rfl, rfl⟩, .inl (Ret.mk' [] (by kernel_rfl) (by kernel_rfl) (by kernel_rfl))⟩
   ·refine CH.alt 11 (sV (.bool (!(inR t.f3 1 1000000)))) (sV (.bool false)) (by kernel_rfl) (by rw [hb10]) ?_
    refine CH.alt 12 (sV (.bool (!(inR t.f3 1 1000000)))) (sV (.bool false)) (by kernel_rfl) (by rw [hb10]) ?_
    refine CH.alt 13 (sV (.bool (!(inR t.f3 1 1000000)))) (sV (.bool false)) (by kernel_rfl) (by rw [hb10]) ?_
    replace hb10 := inR_yes (bnot_no (hb10))
    refine CH.go 2 hτ (by kernel_rfl) ?_
    obtain ⟨r11, hr13, hf12⟩ := s_l1In t.f4 0 10000
    replace hr13 := hr13.symm; subst hr13
    refine CH.call hf12 Try.func66 ⟨rfl, rfl⟩ [] (by kernel_rfl) (by kernel_rfl) (by kernel_rfl) (by kernel_rfl) ?_
    refine CH.go 2 hτ (by kernel_rfl) ?_
    refine CH.endk ⟨[(1, .pt 64 0 0), (18, bV (!(inR t.f4 0 10000)))], [(64, some (.box (cD (d26 t))))], 352⟩ (by kernel_rfl) (by kernel_rfl) rfl ?_
    refine X.if_ (b := !(inR t.f4 0 10000)) (by kernel_rfl) (fun hb15 => ?_) (fun hb15 => ?_)
    ·replace hb15 := inR_no (bnot_yes (hb15))
     refine X.seq ?_
     refine X.rk ⟨[(2, bV false)], [], 368⟩ hτ hmix (by kernel_rfl) (by kernel_rfl) rfl ?_
     refine X.ret ?_
     exact ⟨trivial, _, _, ⟨false, (by rw [Bool.eq_iff_iff]; simp only [txOk, Bool.and_eq_true, Bool.or_eq_true, inR_iff, decide_eq_true_eq, beq_iff_eq, Bool.false_eq_true, false_iff, true_iff, List.length_map]; first | (intro h; omega) | (intro h; simp_all; done) | (simp_all; done) | (simp_all; omega) | (constructor <;> intro h <;> (first | (simp_all; done) | (simp_all; omega) | omega))), rfl, rfl⟩, .inl (Ret.mk' [] (by kernel_rfl) (by kernel_rfl) (by kernel_rfl))⟩
    ·replace hb15 := inR_yes (bnot_no (hb15))
     refine X.skip ?_
     refine X.seq ?_
     refine X.seq ?_
     refine X.rk ⟨[(1, .pt 64 0 0), (21, bV (t.f0 == 1))], [(64, some (.box (cD (d26 t))))], 400⟩ hτ hmix (by kernel_rfl) (by kernel_rfl) rfl ?_
     refine X.if_ (b := (t.f0 == 1)) (by kernel_rfl) (fun hb16 => ?_) (fun hb16 => ?_)
     ·replace hb16 := eq_of_beq (hb16)
      refine X.seq ?_
      refine X.rs 2 hτ hmix (by kernel_rfl) ?_
      obtain ⟨r17, hr19, hf18⟩ := s_NameOk t.f2 (by exact ht.2)
      replace hr19 := hr19.symm; subst hr19
      refine CH.call hf18 Try.func67 ⟨rfl, rfl⟩ [] (by kernel_rfl) (by kernel_rfl) (by kernel_rfl) (by kernel_rfl) ?_
      refine CH.go 1 hτ (by kernel_rfl) ?_
      refine CH.endk ⟨[(2, bV (nameOk t.f2))], [], 464⟩ (by kernel_rfl) (by kernel_rfl) rfl ?_
      refine X.ret ?_
      exact ⟨trivial, _, _, ⟨(nameOk t.f2), (by rw [Bool.eq_iff_iff]; simp only [txOk, Bool.and_eq_true, Bool.or_eq_true, inR_iff, decide_eq_true_eq, beq_iff_eq, Bool.false_eq_true, false_iff, true_iff, List.length_map]; first | (intro h; omega) | (intro h; simp_all; done) | (simp_all; done) | (simp_all; omega) | (constructor <;> intro h <;> (first | (simp_all; done) | (simp_all; omega) | omega))), rfl, rfl⟩, .inl (Ret.mk' [] (by kernel_rfl) (by kernel_rfl) (by kernel_rfl))⟩
     ·replace hb16 := beq_eq_false_iff_ne.1 (hb16)
      refine X.skip ?_
      refine X.seq ?_
      refine X.rs 2 hτ hmix (by kernel_rfl) ?_
      obtain ⟨r21, hr23, hf22⟩ := s_l1In t.f0 2 3
      replace hr23 := hr23.symm; subst hr23
      refine CH.call hf22 Try.func66 ⟨rfl, rfl⟩ [] (by kernel_rfl) (by kernel_rfl) (by kernel_rfl) (by kernel_rfl) ?_
      refine CH.go 1 hτ (by kernel_rfl) ?_
      rcases Bool.eq_false_or_eq_true ((inR t.f0 2 3)) with hb25 | hb25
      ·refine CH.alt 27 (sV (.bool ((inR t.f0 2 3)))) (sV (.bool true)) (by kernel_rfl) (by rw [hb25]) ?_
       refine CH.alt 28 (sV (.bool ((inR t.f0 2 3)))) (sV (.bool true)) (by kernel_rfl) (by rw [hb25]) ?_
       replace hb25 := inR_yes (hb25)
       refine CH.go 5 hτ (by kernel_rfl) ?_
       refine CH.endk ⟨[(2, bV (t.f2.toList == (⟨#[]⟩ : ByteArray).toList))], [], 544⟩ (by kernel_rfl) (by kernel_rfl) rfl ?_
       refine X.ret ?_
       exact ⟨trivial, _, _, ⟨(t.f2.toList == (⟨#[]⟩ : ByteArray).toList), (by rw [Bool.eq_iff_iff]; simp only [txOk, Bool.and_eq_true, Bool.or_eq_true, inR_iff, decide_eq_true_eq, beq_iff_eq, Bool.false_eq_true, false_iff, true_iff, List.length_map]; first | (intro h; omega) | (intro h; simp_all; done) | (simp_all; done) | (simp_all; omega) | (constructor <;> intro h <;> (first | (simp_all; done) | (simp_all; omega) | omega))), rfl, rfl⟩, .inl (Ret.mk' [] (by kernel_rfl) (by kernel_rfl) (by kernel_rfl))⟩
      ·refine CH.alt 27 (sV (.bool ((inR t.f0 2 3)))) (sV (.bool false)) (by kernel_rfl) (by rw [hb25]) ?_
       refine CH.alt 28 (sV (.bool ((inR t.f0 2 3)))) (sV (.bool false)) (by kernel_rfl) (by rw [hb25]) ?_
       replace hb25 := inR_no (hb25)
       refine CH.go 5 hτ (by kernel_rfl) ?_
       refine CH.endk ⟨[(2, bV false)], [], 544⟩ (by kernel_rfl) (by kernel_rfl) rfl ?_
       refine X.ret ?_
       exact ⟨trivial, _, _, ⟨false, (by rw [Bool.eq_iff_iff]; simp only [txOk, Bool.and_eq_true, Bool.or_eq_true, inR_iff, decide_eq_true_eq, beq_iff_eq, Bool.false_eq_true, false_iff, true_iff, List.length_map]; first | (intro h; omega) | (intro h; simp_all; done) | (simp_all; done) | (simp_all; omega) | (constructor <;> intro h <;> (first | (simp_all; done) | (simp_all; omega) | omega))), rfl, rfl⟩, .inl (Ret.mk' [] (by kernel_rfl) (by kernel_rfl) (by kernel_rfl))⟩
 obtain ⟨_, _, ⟨r0, h1_, rfl, rfl⟩, hf⟩ := key
 exact ⟨r0, h1_, hf⟩

theorem i_TxOk (t : S26) (ht : Sm26 t) : ∃ r0 : Bool, (r0 = txOk t) ∧ Fn Try.prog 57 [.e (.agg (cD (d26 t)))] (lookH []) (bV r0) (lookH []) := by
 have key : ∃ x' h', ((fun x' h' => ∃ r0 : Bool, (r0 = txOk t) ∧ x' = bV r0 ∧ h' = [])) x' h' ∧ Fn Try.prog 57 [.e (.agg (cD (d26 t)))] (lookH []) x' (lookH h') := by
  refine Fn.bodyX (N := 34) hτ Try.func57 rfl rfl rfl rfl ?_
  refine X.seq ?_
  refine X.rk ⟨[(1, .pt 64 0 0)], [(64, some (.box (cD (d26 t))))], 96⟩ hτ hmix (by kernel_rfl) (by kernel_rfl) rfl ?_
  refine X.seq ?_
  refine X.seq ?_
  refine X.rs 2 hτ hmix (by kernel_rfl) ?_
  obtain ⟨r1, hr3, hf2⟩ := i_inRange t.f0 1 3
  replace hr3 := hr3.symm; subst hr3
  refine CH.call hf2 Try.func72 ⟨rfl, rfl⟩ [] (by kernel_rfl) (by kernel_rfl) (by kernel_rfl) (by kernel_rfl) ?_
  refine CH.go 2 hτ (by kernel_rfl) ?_
  rcases Bool.eq_false_or_eq_true (!(inR t.f0 1 3)) with hb5 | hb5
  ·refine CH.alt 6 (sV (.bool (!(inR t.f0 1 3)))) (sV (.bool true)) (by kernel_rfl) (by rw [hb5]) ?_
   refine CH.alt 7 (sV (.bool (!(inR t.f0 1 3)))) (sV (.bool true)) (by kernel_rfl) (by rw [hb5]) ?_
   replace hb5 := inR_no (bnot_yes (hb5))
   refine CH.go 17 hτ (by kernel_rfl) ?_
   refine CH.endk ⟨[(1, .pt 64 0 0), (24, bV true)], [(64, some (.box (cD (d26 t))))], 448⟩ (by kernel_rfl) (by kernel_rfl) rfl ?_
   refine X.ifT (by kernel_rfl) ?_
   refine X.seq ?_
   refine X.rk ⟨[(2, bV false)], [], 464⟩ hτ hmix (by kernel_rfl) (by kernel_rfl) rfl ?_
   refine X.ret ?_
   exact ⟨trivial, _, _, ⟨false, (by rw [Bool.eq_iff_iff]; simp only [txOk, Bool.and_eq_true, Bool.or_eq_true, inR_iff, decide_eq_true_eq, beq_iff_eq, Bool.false_eq_true, false_iff, true_iff, List.length_map]; first | (intro h; omega) | (intro h; simp_all; done) | (simp_all; done) | (simp_all; omega) | (constructor <;> intro h <;> (first | (simp_all; done) | (simp_all; omega) | omega))), rfl, rfl⟩, .inl (Ret.mk' [] (by kernel_rfl) (by kernel_rfl) (by kernel_rfl))⟩
  ·refine CH.alt 6 (sV (.bool (!(inR t.f0 1 3)))) (sV (.bool false)) (by kernel_rfl) (by rw [hb5]) ?_
   refine CH.alt 7 (sV (.bool (!(inR t.f0 1 3)))) (sV (.bool false)) (by kernel_rfl) (by rw [hb5]) ?_
   replace hb5 := inR_yes (bnot_no (hb5))
   refine CH.go 2 hτ (by kernel_rfl) ?_
   obtain ⟨r6, hr8, hf7⟩ := i_NameOk t.f1 (by exact ht.1)
   replace hr8 := hr8.symm; subst hr8
   refine CH.call hf7 Try.func73 ⟨rfl, rfl⟩ [] (by kernel_rfl) (by kernel_rfl) (by kernel_rfl) (by kernel_rfl) ?_
   refine CH.go 3 hτ (by kernel_rfl) ?_
   rcases Bool.eq_false_or_eq_true (!(nameOk t.f1)) with hb10 | hb10
   ·refine CH.alt 11 (sV (.bool (!(nameOk t.f1)))) (sV (.bool true)) (by kernel_rfl) (by rw [hb10]) ?_
    refine CH.alt 12 (sV (.bool (!(nameOk t.f1)))) (sV (.bool true)) (by kernel_rfl) (by rw [hb10]) ?_
    refine CH.alt 13 (sV (.bool (!(nameOk t.f1)))) (sV (.bool true)) (by kernel_rfl) (by rw [hb10]) ?_
    replace hb10 := bnot_yes (hb10)
    refine CH.go 11 hτ (by kernel_rfl) ?_
    refine CH.endk ⟨[(1, .pt 64 0 0), (24, bV true)], [(64, some (.box (cD (d26 t))))], 448⟩ (by kernel_rfl) (by kernel_rfl) rfl ?_
    refine X.ifT (by kernel_rfl) ?_
    refine X.seq ?_
    refine X.rk ⟨[(2, bV false)], [], 464⟩ hτ hmix (by kernel_rfl) (by kernel_rfl) rfl ?_
    refine X.ret ?_
    exact ⟨trivial, _, _, ⟨false, (by rw [Bool.eq_iff_iff]; simp only [txOk, Bool.and_eq_true, Bool.or_eq_true, inR_iff, decide_eq_true_eq, beq_iff_eq, Bool.false_eq_true, false_iff, true_iff, List.length_map]; first | (intro h; omega) | (intro h; simp_all; done) | (simp_all; done) | (simp_all; omega) | (constructor <;> intro h <;> (first | (simp_all; done) | (simp_all; omega) | omega))), rfl, rfl⟩, .inl (Ret.mk' [] (by kernel_rfl) (by kernel_rfl) (by kernel_rfl))⟩
   ·refine CH.alt 11 (sV (.bool (!(nameOk t.f1)))) (sV (.bool false)) (by kernel_rfl) (by rw [hb10]) ?_
    refine CH.alt 12 (sV (.bool (!(nameOk t.f1)))) (sV (.bool false)) (by kernel_rfl) (by rw [hb10]) ?_
    refine CH.alt 13 (sV (.bool (!(nameOk t.f1)))) (sV (.bool false)) (by kernel_rfl) (by rw [hb10]) ?_
    replace hb10 := bnot_no (hb10)
    refine CH.go 2 hτ (by kernel_rfl) ?_
    obtain ⟨r11, hr13, hf12⟩ := i_inRange t.f3 1 1000000
    replace hr13 := hr13.symm; subst hr13
    refine CH.call hf12 Try.func72 ⟨rfl, rfl⟩ [] (by kernel_rfl) (by kernel_rfl) (by kernel_rfl) (by kernel_rfl) ?_
    refine CH.go 3 hτ (by kernel_rfl) ?_
    rcases Bool.eq_false_or_eq_true (!(inR t.f3 1 1000000)) with hb15 | hb15
    ·refine CH.alt 17 (sV (.bool (!(inR t.f3 1 1000000)))) (sV (.bool true)) (by kernel_rfl) (by rw [hb15]) ?_
     refine CH.alt 18 (sV (.bool (!(inR t.f3 1 1000000)))) (sV (.bool true)) (by kernel_rfl) (by rw [hb15]) ?_
     refine CH.alt 19 (sV (.bool (!(inR t.f3 1 1000000)))) (sV (.bool true)) (by kernel_rfl) (by rw [hb15]) ?_
     replace hb15 := inR_no (bnot_yes (hb15))
     refine CH.go 5 hτ (by kernel_rfl) ?_
     refine CH.endk ⟨[(1, .pt 64 0 0), (24, bV true)], [(64, some (.box (cD (d26 t))))], 448⟩ (by kernel_rfl) (by kernel_rfl) rfl ?_
     refine X.ifT (by kernel_rfl) ?_
     refine X.seq ?_
     refine X.rk ⟨[(2, bV false)], [], 464⟩ hτ hmix (by kernel_rfl) (by kernel_rfl) rfl ?_
     refine X.ret ?_
     exact ⟨trivial, _, _, ⟨false, (by rw [Bool.eq_iff_iff]; simp only [txOk, Bool.and_eq_true, Bool.or_eq_true, inR_iff, decide_eq_true_eq, beq_iff_eq, Bool.false_eq_true, false_iff, true_iff, List.length_map]; first | (intro h; omega) | (intro h; simp_all; done) | (simp_all; done) | (simp_all; omega) | (constructor <;> intro h <;> (first | (simp_all; done) | (simp_all; omega) | omega))), rfl, rfl⟩, .inl (Ret.mk' [] (by kernel_rfl) (by kernel_rfl) (by kernel_rfl))⟩
    ·refine CH.alt 17 (sV (.bool (!(inR t.f3 1 1000000)))) (sV (.bool false)) (by kernel_rfl) (by rw [hb15]) ?_
     refine CH.alt 18 (sV (.bool (!(inR t.f3 1 1000000)))) (sV (.bool false)) (by kernel_rfl) (by rw [hb15]) ?_
     refine CH.alt 19 (sV (.bool (!(inR t.f3 1 1000000)))) (sV (.bool false)) (by kernel_rfl) (by rw [hb15]) ?_
     replace hb15 := inR_yes (bnot_no (hb15))
     refine CH.go 2 hτ (by kernel_rfl) ?_
     obtain ⟨r16, hr18, hf17⟩ := i_inRange t.f4 0 10000
     replace hr18 := hr18.symm; subst hr18
     refine CH.call hf17 Try.func72 ⟨rfl, rfl⟩ [] (by kernel_rfl) (by kernel_rfl) (by kernel_rfl) (by kernel_rfl) ?_
     refine CH.go 2 hτ (by kernel_rfl) ?_
     refine CH.endk ⟨[(1, .pt 64 0 0), (24, bV (!(inR t.f4 0 10000)))], [(64, some (.box (cD (d26 t))))], 448⟩ (by kernel_rfl) (by kernel_rfl) rfl ?_
     refine X.if_ (b := !(inR t.f4 0 10000)) (by kernel_rfl) (fun hb20 => ?_) (fun hb20 => ?_)
     ·replace hb20 := inR_no (bnot_yes (hb20))
      refine X.seq ?_
      refine X.rk ⟨[(2, bV false)], [], 464⟩ hτ hmix (by kernel_rfl) (by kernel_rfl) rfl ?_
      refine X.ret ?_
      exact ⟨trivial, _, _, ⟨false, (by rw [Bool.eq_iff_iff]; simp only [txOk, Bool.and_eq_true, Bool.or_eq_true, inR_iff, decide_eq_true_eq, beq_iff_eq, Bool.false_eq_true, false_iff, true_iff, List.length_map]; first | (intro h; omega) | (intro h; simp_all; done) | (simp_all; done) | (simp_all; omega) | (constructor <;> intro h <;> (first | (simp_all; done) | (simp_all; omega) | omega))), rfl, rfl⟩, .inl (Ret.mk' [] (by kernel_rfl) (by kernel_rfl) (by kernel_rfl))⟩
     ·replace hb20 := inR_yes (bnot_no (hb20))
      refine X.skip ?_
      refine X.seq ?_
      refine X.seq ?_
      refine X.rk ⟨[(1, .pt 64 0 0), (27, bV (t.f0 == 1))], [(64, some (.box (cD (d26 t))))], 496⟩ hτ hmix (by kernel_rfl) (by kernel_rfl) rfl ?_
      refine X.if_ (b := (t.f0 == 1)) (by kernel_rfl) (fun hb21 => ?_) (fun hb21 => ?_)
      ·replace hb21 := eq_of_beq (hb21)
       refine X.seq ?_
       refine X.rs 2 hτ hmix (by kernel_rfl) ?_
       obtain ⟨r22, hr24, hf23⟩ := i_NameOk t.f2 (by exact ht.2)
       replace hr24 := hr24.symm; subst hr24
       refine CH.call hf23 Try.func73 ⟨rfl, rfl⟩ [] (by kernel_rfl) (by kernel_rfl) (by kernel_rfl) (by kernel_rfl) ?_
       refine CH.go 1 hτ (by kernel_rfl) ?_
       refine CH.endk ⟨[(2, bV (nameOk t.f2))], [], 560⟩ (by kernel_rfl) (by kernel_rfl) rfl ?_
       refine X.ret ?_
       exact ⟨trivial, _, _, ⟨(nameOk t.f2), (by rw [Bool.eq_iff_iff]; simp only [txOk, Bool.and_eq_true, Bool.or_eq_true, inR_iff, decide_eq_true_eq, beq_iff_eq, Bool.false_eq_true, false_iff, true_iff, List.length_map]; first | (intro h; omega) | (intro h; simp_all; done) | (simp_all; done) | (simp_all; omega) | (constructor <;> intro h <;> (first | (simp_all; done) | (simp_all; omega) | omega))), rfl, rfl⟩, .inl (Ret.mk' [] (by kernel_rfl) (by kernel_rfl) (by kernel_rfl))⟩
      ·replace hb21 := beq_eq_false_iff_ne.1 (hb21)
       refine X.skip ?_
       refine X.seq ?_
       refine X.rk ⟨[(2, bV (t.f2.toList == (⟨#[]⟩ : ByteArray).toList))], [], 560⟩ hτ hmix (by kernel_rfl) (by kernel_rfl) rfl ?_
       refine X.ret ?_
       exact ⟨trivial, _, _, ⟨(t.f2.toList == (⟨#[]⟩ : ByteArray).toList), (by rw [Bool.eq_iff_iff]; simp only [txOk, Bool.and_eq_true, Bool.or_eq_true, inR_iff, decide_eq_true_eq, beq_iff_eq, Bool.false_eq_true, false_iff, true_iff, List.length_map]; first | (intro h; omega) | (intro h; simp_all; done) | (simp_all; done) | (simp_all; omega) | (constructor <;> intro h <;> (first | (simp_all; done) | (simp_all; omega) | omega))), rfl, rfl⟩, .inl (Ret.mk' [] (by kernel_rfl) (by kernel_rfl) (by kernel_rfl))⟩
 obtain ⟨_, _, ⟨r0, h1_, rfl, rfl⟩, hf⟩ := key
 exact ⟨r0, h1_, hf⟩

theorem i_txsOk (l : List S26) (hl : SmT l) : ∃ r0 : Bool, (r0 = l.all txOk) ∧ Fn Try.prog 76 [lV (l.map d26)] (lookH []) (bV r0) (lookH []) := by
 have key : ∃ x' h', ((fun x' h' => ∃ r0 : Bool, (r0 = l.all txOk) ∧ x' = bV r0 ∧ h' = [])) x' h' ∧ Fn Try.prog 76 [lV (l.map d26)] (lookH []) x' (lookH h') := by
  refine Fn.bodyX (N := 15) hτ Try.func76 rfl rfl rfl rfl ?_
  refine X.seq ?_
  refine X.rk ⟨[(0, lV (l.map d26))], [], 80⟩ hτ hmix (by kernel_rfl) (by kernel_rfl) rfl ?_
  refine X.seq ?_
  refine X.seq ?_
  have el1 : (l.map d26).length = l.length := List.length_map ..
  refine X.rk ⟨[(5, lV (l.map d26)), (6, iV ((l.map d26).length : Int)), (7, iV 0)], [], 128⟩ hτ hmix (by kernel_rfl) (by kernel_rfl) rfl ?_
  refine X.block ?_
  -- 2: v7 : Int
  refine X.loop (σ := { g : Int // (fun (v7 : Int) => 0 ≤ v7 ∧ v7 ≤ l.length ∧ Upto (fun _ x => txOk x = true) (fun n => l[n]?) v7) g }) (fun g => (fun (v7 : Int) => ⟨[(5, lV (l.map d26)), (6, iV ((l.map d26).length : Int)), (7, iV v7)], [], 128⟩) g.1) (fun g => (fun (v7 : Int) => (l.length - v7).toNat) g.1) ⟨0, ⟨by first | omega | (dsimp only; omega), by first | omega | (dsimp only; omega), upto_zero⟩⟩ (Wk.less (by kernel_rfl)) (fun g => ?_)
  obtain ⟨v7, hg3⟩ := g
  have hg3 : 0 ≤ v7 ∧ v7 ≤ l.length ∧ Upto (fun _ x => txOk x = true) (fun n => l[n]?) v7 := hg3
  obtain ⟨_, _, hA⟩ := hg3
  refine X.seq ?_
  have hm := hl.1
  refine X.rk ⟨[(5, lV (l.map d26)), (6, iV ((l.map d26).length : Int)), (7, iV v7), (8, bV (decide ((v7 : Int) < ((l.map d26).length : Int))))], [], 144⟩ hτ hmix (by kernel_rfl) (by kernel_rfl) rfl ?_
  refine X.seq ?_
  refine X.if_ (b := decide ((v7 : Int) < ((l.map d26).length : Int))) (by kernel_rfl) (fun hb4 => ?_) (fun hb4 => ?_)
  ·replace hb4 := of_decide_eq_true (hb4)
   refine X.skip ?_
   refine X.seq ?_
   refine X.block ?_
   refine X.seq ?_
   refine X.rs 0 hτ hmix (by kernel_rfl) ?_
   obtain ⟨x5, hx5⟩ : ∃ x, l[Int.toNat v7]? = some x := ⟨_, List.getElem?_eq_getElem (by first | omega | (simp; done) | (simp; omega))⟩
   refine CH.idx hτ (d26 x5) (rows := (l.map d26)) (n := v7) (sz := 5) (by kernel_rfl) (by kernel_rfl) (by first | omega | (simp; done) | (simp; omega)) (by rw [List.getElem?_map, hx5]; rfl) (by kernel_rfl) ?_
   refine CH.go 3 hτ (by kernel_rfl) ?_
   refine CH.endk ⟨[(4, .pt 176 0 0), (5, lV (l.map d26)), (6, iV ((l.map d26).length : Int)), (7, iV v7)], [(176, some (.box (cD (d26 x5))))], 208⟩ (by kernel_rfl) (by kernel_rfl) rfl ?_
   refine X.seq ?_
   refine X.rs 1 hτ hmix (by kernel_rfl) ?_
   obtain ⟨r6, hr8, hf7⟩ := i_TxOk x5 (by exact all_at hl.2 ‹_›)
   replace hr8 := hr8.symm; subst hr8
   refine CH.call hf7 Try.func57 ⟨rfl, rfl⟩ [] (by kernel_rfl) (by kernel_rfl) (by kernel_rfl) (by kernel_rfl) ?_
   refine CH.go 1 hτ (by kernel_rfl) ?_
   refine CH.endk ⟨[(5, lV (l.map d26)), (6, iV ((l.map d26).length : Int)), (7, iV v7), (13, bV (!(txOk x5)))], [], 256⟩ (by kernel_rfl) (by kernel_rfl) rfl ?_
   refine X.if_ (b := !(txOk x5)) (by kernel_rfl) (fun hb10 => ?_) (fun hb10 => ?_)
   ·replace hb10 := bnot_yes (hb10)
    refine X.seq ?_
    refine X.rk ⟨[(2, bV false)], [], 272⟩ hτ hmix (by kernel_rfl) (by kernel_rfl) rfl ?_
    refine X.ret ?_
    exact ⟨trivial, _, _, ⟨false, (by first | exact (all_no ‹_› ‹_›).symm | exact (all_yes (upto_all hA (by omega))).symm), rfl, rfl⟩, .inl (Ret.mk' [] (by kernel_rfl) (by kernel_rfl) (by kernel_rfl))⟩
   ·replace hb10 := bnot_no (hb10)
    refine X.skip ?_
    refine X.rk ⟨[(5, lV (l.map d26)), (6, iV ((l.map d26).length : Int)), (7, iV (wrap64 (v7 + 1)))], [], 288⟩ hτ hmix (by kernel_rfl) (by kernel_rfl) (s2 := ⟨[(5, lV (l.map d26)), (6, iV ((l.map d26).length : Int)), (7, iV (v7 + 1))], [], 288⟩) (congrArg (fun z : Int => (⟨[(5, lV (l.map d26)), (6, iV ((l.map d26).length : Int)), (7, iV z)], [], 288⟩ : St)) (show wrap64 (v7 + 1) = (v7 + 1) by rw [w64 (n := (v7 + 1)) (by omega) (by omega)])) ?_
    refine ⟨⟨(v7 + 1), ⟨by first | omega | (dsimp only; omega), by first | omega | (dsimp only; omega), upto_nx (by first | omega | (dsimp only; omega)) hA ‹_› (‹_›)⟩⟩, by first | exact rfl | omega | (dsimp only; omega) | (simp only [List.length_append, List.length_cons, List.length_nil, List.length_set]; omega) | (simp; done) | (simp; omega), Wk.mk' [] (by kernel_rfl) (by kernel_rfl) (by kernel_rfl)⟩
  ·replace hb4 := of_decide_eq_false (hb4)
   refine X.exit ?_
   refine X.seq ?_
   refine X.rk ⟨[(2, bV true)], [], 160⟩ hτ hmix (by kernel_rfl) (by kernel_rfl) rfl ?_
   refine X.ret ?_
   exact ⟨trivial, _, _, ⟨true, (by first | exact (all_no ‹_› ‹_›).symm | exact (all_yes (upto_all hA (by omega))).symm), rfl, rfl⟩, .inl (Ret.mk' [] (by kernel_rfl) (by kernel_rfl) (by kernel_rfl))⟩
 obtain ⟨_, _, ⟨r0, h1_, rfl, rfl⟩, hf⟩ := key
 exact ⟨r0, h1_, hf⟩
end Go.Proofs.Ytnieghbgcjbnhaa.Av
