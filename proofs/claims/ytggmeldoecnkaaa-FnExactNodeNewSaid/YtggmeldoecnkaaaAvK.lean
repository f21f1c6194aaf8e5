/-
What functions of the program come to, walked one by one.
Conditions: none beside those that each theorem names.
-/
import Derived.Test.YtggmeldoecnkaaaAvA
set_option linter.unusedVariables false
set_option linter.unusedSimpArgs false
namespace Go.Proofs.Ytggmeldoecnkaaa.Av
open Go.RowKit
set_option maxRecDepth 20000
set_option maxHeartbeats 4000000

section
variable {l : List S72} {i : Int} {x p : S72}
end
theorem s_l1In (x : Int) (lo : Int) (hi : Int) : ∃ r0 : Bool, (r0 = inR x lo hi) ∧ Fn Try.prog 146 [iV x, iV lo, iV hi] (lookH []) (bV r0) (lookH []) := by
 have key : ∃ x' h', ((fun x' h' => ∃ r0 : Bool, (r0 = inR x lo hi) ∧ x' = bV r0 ∧ h' = [])) x' h' ∧ Fn Try.prog 146 [iV x, iV lo, iV hi] (lookH []) x' (lookH h') := by
  refine Fn.bodyX (N := 15) hτ Try.func146 rfl rfl rfl rfl ?_
  refine sk ⟨[(0, iV x), (1, iV lo), (2, iV hi)], [], 80⟩ ?_
  refine X.seq (rs 4 ?_)
  rcases Bool.eq_false_or_eq_true (decide ((x : Int) ≥ lo)) with hb1 | hb1
  ·refine aT 9 hb1 ?_
   refine aT 10 hb1 ?_
   replace hb1 := of_decide_eq_true (hb1)
   refine go 5 ?_
   refine ek ⟨[(6, bV (decide ((x : Int) ≤ hi)))], [], 224⟩ ?_
   refine X.ret ?_
   exact ⟨trivial, _, _, ⟨decide ((x : Int) ≤ hi), (by simp [inR, *]), rfl, rfl⟩, mkr⟩
  ·refine aF 9 hb1 ?_
   refine aF 10 hb1 ?_
   replace hb1 := of_decide_eq_false (hb1)
   refine go 5 ?_
   refine ek ⟨[(6, bV false)], [], 224⟩ ?_
   refine X.ret ?_
   exact ⟨trivial, _, _, ⟨false, (by simp [inR, *]), rfl, rfl⟩, mkr⟩
 obtain ⟨_, _, ⟨r0, h1_, rfl, rfl⟩, hf⟩ := key
 exact ⟨r0, h1_, hf⟩

theorem i_inRange (x : Int) (lo : Int) (hi : Int) : ∃ r0 : Bool, (r0 = inR x lo hi) ∧ Fn Try.prog 149 [iV x, iV lo, iV hi] (lookH []) (bV r0) (lookH []) := by
 have key : ∃ x' h', ((fun x' h' => ∃ r0 : Bool, (r0 = inR x lo hi) ∧ x' = bV r0 ∧ h' = [])) x' h' ∧ Fn Try.prog 149 [iV x, iV lo, iV hi] (lookH []) x' (lookH h') := by
  refine Fn.bodyX (N := 15) hτ Try.func149 rfl rfl rfl rfl ?_
  refine sk ⟨[(0, iV x), (1, iV lo), (2, iV hi)], [], 80⟩ ?_
  refine X.seq (rs 4 ?_)
  rcases Bool.eq_false_or_eq_true (decide ((x : Int) ≥ lo)) with hb1 | hb1
  ·refine aT 9 hb1 ?_
   refine aT 10 hb1 ?_
   replace hb1 := of_decide_eq_true (hb1)
   refine go 5 ?_
   refine ek ⟨[(6, bV (decide ((x : Int) ≤ hi)))], [], 224⟩ ?_
   refine X.ret ?_
   exact ⟨trivial, _, _, ⟨decide ((x : Int) ≤ hi), (by simp [inR, *]), rfl, rfl⟩, mkr⟩
  ·refine aF 9 hb1 ?_
   refine aF 10 hb1 ?_
   replace hb1 := of_decide_eq_false (hb1)
   refine go 5 ?_
   refine ek ⟨[(6, bV false)], [], 224⟩ ?_
   refine X.ret ?_
   exact ⟨trivial, _, _, ⟨false, (by simp [inR, *]), rfl, rfl⟩, mkr⟩
 obtain ⟨_, _, ⟨r0, h1_, rfl, rfl⟩, hf⟩ := key
 exact ⟨r0, h1_, hf⟩

theorem s_NameOk (s : ByteArray) (hs : SmS s) : ∃ r0 : Bool, (r0 = nameOk s) ∧ Fn Try.prog 86 [.e (.c (.d (.v (.string s))))] (lookH []) (bV r0) (lookH []) := by
 have key : ∃ x' h', ((fun x' h' => ∃ r0 : Bool, (r0 = nameOk s) ∧ x' = bV r0 ∧ h' = [])) x' h' ∧ Fn Try.prog 86 [.e (.c (.d (.v (.string s))))] (lookH []) x' (lookH h') := by
  refine Fn.bodyX (N := 27) hτ Try.func86 rfl rfl rfl rfl ?_
  refine sk ⟨[(0, .e (.c (.d (.v (.string s)))))], [], 80⟩ ?_
  refine X.seq ?_
  refine sk ⟨[(0, .e (.c (.d (.v (.string s))))), (3, iV 0)], [], 96⟩ ?_
  refine X.block ?_
  -- 2: v3 : Int
  refine X.loop (σ := { g : Int // (fun (v3 : Int) => 0 ≤ v3 ∧ v3 ≤ s.size ∧ Upto (chR) (fun n => s[n]?) v3) g }) (fun g => (fun (v3 : Int) => ⟨[(0, .e (.c (.d (.v (.string s))))), (3, iV v3)], [], 96⟩) g.1) (fun g => (fun (v3 : Int) => (s.size - v3).toNat) g.1) ⟨0, ⟨by first | omega | (dsimp only; omega), by first | omega | (dsimp only; omega), upto_zero⟩⟩ (Wk.less (by kernel_rfl)) (fun g => ?_)
  obtain ⟨v3, hg2⟩ := g
  have hg2 : 0 ≤ v3 ∧ v3 ≤ s.size ∧ Upto (chR) (fun n => s[n]?) v3 := hg2
  obtain ⟨_, _, hA⟩ := hg2
  refine X.seq ?_
  refine X.seq ?_
  have hm : s.size ≤ 2000000 := hs
  refine rk ⟨[(0, .e (.c (.d (.v (.string s))))), (3, iV v3), (7, bV (decide ((v3 : Int) < (s.size : Int))))], [], 160⟩ ?_
  refine if_ (b := decide ((v3 : Int) < (s.size : Int))) (fun hb3 => ?_) (fun hb3 => ?_)
  ·replace hb3 := of_decide_eq_true (hb3)
   refine X.skip ?_
   refine X.seq ?_
   refine X.block ?_
   refine X.seq (rs 2 ?_)
   obtain ⟨b4, hb4⟩ : ∃ b, s[Int.toNat v3]? = some b := ⟨_, getElem?_pos _ _ (by first | omega | (simp; done) | (simp; omega))⟩
   have hw5 := w8 b4
   refine CH.sidx hτ (s := s) (n := v3) b4 (by kernel_rfl) (by kernel_rfl) (by first | omega | (simp; done) | (simp; omega)) hb4 ?_
   refine go 1 ?_
   obtain ⟨r6, hr8, hf7⟩ := s_l1In (wr .i64 ((b4.toNat : Int))) 97 122
   replace hr8 := hr8.symm; subst hr8
   refine ca hf7 Try.func146 ?_
   refine go 2 ?_
   rcases Bool.eq_false_or_eq_true (!(inR (wr .i64 ((b4.toNat : Int))) 97 122)) with hb10 | hb10
   ·refine aT 15 hb10 ?_
    refine aT 16 hb10 ?_
    replace hb10 := inR_no (bnot_yes (hb10))
    refine go 2 ?_
    refine CH.sidx hτ (s := s) (n := v3) b4 (by kernel_rfl) (by kernel_rfl) (by first | omega | (simp; done) | (simp; omega)) hb4 ?_
    refine go 1 ?_
    obtain ⟨r11, hr13, hf12⟩ := s_l1In (wr .i64 ((b4.toNat : Int))) 48 57
    replace hr13 := hr13.symm; subst hr13
    refine ca hf12 Try.func146 ?_
    refine go 2 ?_
    refine ek ⟨[(0, .e (.c (.d (.v (.string s))))), (3, iV v3), (23, bV (!(inR (wr .i64 ((b4.toNat : Int))) 48 57)))], [], 384⟩ ?_
    refine if_ (b := !(inR (wr .i64 ((b4.toNat : Int))) 48 57)) (fun hb15 => ?_) (fun hb15 => ?_)
    ·replace hb15 := inR_no (bnot_yes (hb15))
     refine sk ⟨[(2, bV false)], [], 400⟩ ?_
     refine X.ret ?_
     exact ⟨trivial, _, _, ⟨false, (by first | exact (fls (fun h => upto_no (by omega) (by omega) ‹_› (fun hr => by first | (unfold chR at hr; omega)) h.1)) | exact (dcd (by rw [inR_iff]; exact ⟨fun h => ⟨upto_all hA (by omega), h⟩, fun h => h.2⟩))), rfl, rfl⟩, mkr⟩
    ·replace hb15 := inR_yes (bnot_no (hb15))
     refine X.skip ?_
     refine X.rk ⟨[(0, .e (.c (.d (.v (.string s))))), (3, iV (wrap64 (v3 + 1)))], [], 432⟩ hτ hmix (by kernel_rfl) (by kernel_rfl) (s2 := ⟨[(0, .e (.c (.d (.v (.string s))))), (3, iV (v3 + 1))], [], 432⟩) (congrArg (fun z : Int => (⟨[(0, .e (.c (.d (.v (.string s))))), (3, iV z)], [], 432⟩ : St)) (show wrap64 (v3 + 1) = (v3 + 1) by rw [w64 (n := (v3 + 1)) (by omega) (by omega)])) ?_
     refine ⟨⟨(v3 + 1), ⟨by first | omega | (dsimp only; omega), by first | omega | (dsimp only; omega), upto_nx (by first | omega | (dsimp only; omega)) hA ‹_› (by unfold chR; omega)⟩⟩, by first | exact rfl | omega | (dsimp only; omega) | (simp only [List.length_append, List.length_cons, List.length_nil, List.length_set]; omega) | (simp; done) | (simp; omega), Wk.mk' [] (by kernel_rfl) (by kernel_rfl) (by kernel_rfl)⟩
   ·refine aF 15 hb10 ?_
    refine aF 16 hb10 ?_
    replace hb10 := inR_yes (bnot_no (hb10))
    refine go 7 ?_
    refine ek ⟨[(0, .e (.c (.d (.v (.string s))))), (3, iV v3), (23, bV false)], [], 384⟩ ?_
    refine X.ifF (by kernel_rfl) ?_
    refine X.skip ?_
    refine X.rk ⟨[(0, .e (.c (.d (.v (.string s))))), (3, iV (wrap64 (v3 + 1)))], [], 432⟩ hτ hmix (by kernel_rfl) (by kernel_rfl) (s2 := ⟨[(0, .e (.c (.d (.v (.string s))))), (3, iV (v3 + 1))], [], 432⟩) (congrArg (fun z : Int => (⟨[(0, .e (.c (.d (.v (.string s))))), (3, iV z)], [], 432⟩ : St)) (show wrap64 (v3 + 1) = (v3 + 1) by rw [w64 (n := (v3 + 1)) (by omega) (by omega)])) ?_
    refine ⟨⟨(v3 + 1), ⟨by first | omega | (dsimp only; omega), by first | omega | (dsimp only; omega), upto_nx (by first | omega | (dsimp only; omega)) hA ‹_› (by unfold chR; omega)⟩⟩, by first | exact rfl | omega | (dsimp only; omega) | (simp only [List.length_append, List.length_cons, List.length_nil, List.length_set]; omega) | (simp; done) | (simp; omega), Wk.mk' [] (by kernel_rfl) (by kernel_rfl) (by kernel_rfl)⟩
  ·replace hb3 := of_decide_eq_false (hb3)
   refine X.exit ?_
   refine X.seq (rs 2 ?_)
   obtain ⟨r16, hr18, hf17⟩ := s_l1In (s.size : Int) 1 8
   replace hr18 := hr18.symm; subst hr18
   refine ca hf17 Try.func146 ?_
   refine go 1 ?_
   refine ek ⟨[(2, bV (inR (s.size : Int) 1 8))], [], 224⟩ ?_
   refine X.ret ?_
   exact ⟨trivial, _, _, ⟨(inR (s.size : Int) 1 8), (by first | exact (fls (fun h => upto_no (by omega) (by omega) ‹_› (fun hr => by first | (unfold chR at hr; omega)) h.1)) | exact (dcd (by rw [inR_iff]; exact ⟨fun h => ⟨upto_all hA (by omega), h⟩, fun h => h.2⟩))), rfl, rfl⟩, mkr⟩
 obtain ⟨_, _, ⟨r0, h1_, rfl, rfl⟩, hf⟩ := key
 exact ⟨r0, h1_, hf⟩

theorem i_NameOk (s : ByteArray) (hs : SmS s) : ∃ r0 : Bool, (r0 = nameOk s) ∧ Fn Try.prog 90 [.e (.c (.d (.v (.string s))))] (lookH []) (bV r0) (lookH []) := by
 have key : ∃ x' h', ((fun x' h' => ∃ r0 : Bool, (r0 = nameOk s) ∧ x' = bV r0 ∧ h' = [])) x' h' ∧ Fn Try.prog 90 [.e (.c (.d (.v (.string s))))] (lookH []) x' (lookH h') := by
  refine Fn.bodyX (N := 36) hτ Try.func90 rfl rfl rfl rfl ?_
  refine sk ⟨[(0, .e (.c (.d (.v (.string s)))))], [], 80⟩ ?_
  refine X.seq ?_
  refine sk ⟨[(0, .e (.c (.d (.v (.string s))))), (3, iV 0)], [], 96⟩ ?_
  refine X.block ?_
  -- 2: v3 : Int
  refine X.loop (σ := { g : Int // (fun (v3 : Int) => 0 ≤ v3 ∧ v3 ≤ s.size ∧ Upto (chR) (fun n => s[n]?) v3) g }) (fun g => (fun (v3 : Int) => ⟨[(0, .e (.c (.d (.v (.string s))))), (3, iV v3)], [], 96⟩) g.1) (fun g => (fun (v3 : Int) => (s.size - v3).toNat) g.1) ⟨0, ⟨by first | omega | (dsimp only; omega), by first | omega | (dsimp only; omega), upto_zero⟩⟩ (Wk.less (by kernel_rfl)) (fun g => ?_)
  obtain ⟨v3, hg2⟩ := g
  have hg2 : 0 ≤ v3 ∧ v3 ≤ s.size ∧ Upto (chR) (fun n => s[n]?) v3 := hg2
  obtain ⟨_, _, hA⟩ := hg2
  refine X.seq ?_
  refine X.seq ?_
  have hm : s.size ≤ 2000000 := hs
  refine rk ⟨[(0, .e (.c (.d (.v (.string s))))), (3, iV v3), (7, bV (decide ((v3 : Int) < (s.size : Int))))], [], 160⟩ ?_
  refine if_ (b := decide ((v3 : Int) < (s.size : Int))) (fun hb3 => ?_) (fun hb3 => ?_)
  ·replace hb3 := of_decide_eq_true (hb3)
   refine X.skip ?_
   refine X.seq ?_
   refine X.block ?_
   refine X.seq (rs 2 ?_)
   obtain ⟨b4, hb4⟩ : ∃ b, s[Int.toNat v3]? = some b := ⟨_, getElem?_pos _ _ (by first | omega | (simp; done) | (simp; omega))⟩
   have hw5 := w8 b4
   refine CH.sidx hτ (s := s) (n := v3) b4 (by kernel_rfl) (by kernel_rfl) (by first | omega | (simp; done) | (simp; omega)) hb4 ?_
   refine go 2 ?_
   rcases Bool.eq_false_or_eq_true (decide (((b4.toNat : Int) : Int) ≥ 97)) with hb6 | hb6
   ·refine aT 13 hb6 ?_
    refine aT 14 hb6 ?_
    replace hb6 := of_decide_eq_true (hb6)
    refine go 2 ?_
    refine CH.sidx hτ (s := s) (n := v3) b4 (by kernel_rfl) (by kernel_rfl) (by first | omega | (simp; done) | (simp; omega)) hb4 ?_
    refine go 3 ?_
    rcases Bool.eq_false_or_eq_true (decide (((b4.toNat : Int) : Int) ≤ 122)) with hb7 | hb7
    ·refine aT 18 hb7 ?_
     refine aT 19 hb7 ?_
     refine aT 20 hb7 ?_
     replace hb7 := of_decide_eq_true (hb7)
     refine go 12 ?_
     refine ek ⟨[(0, .e (.c (.d (.v (.string s))))), (3, iV v3), (32, bV false)], [], 528⟩ ?_
     refine X.ifF (by kernel_rfl) ?_
     refine X.skip ?_
     refine X.rk ⟨[(0, .e (.c (.d (.v (.string s))))), (3, iV (wrap64 (v3 + 1)))], [], 576⟩ hτ hmix (by kernel_rfl) (by kernel_rfl) (s2 := ⟨[(0, .e (.c (.d (.v (.string s))))), (3, iV (v3 + 1))], [], 576⟩) (congrArg (fun z : Int => (⟨[(0, .e (.c (.d (.v (.string s))))), (3, iV z)], [], 576⟩ : St)) (show wrap64 (v3 + 1) = (v3 + 1) by rw [w64 (n := (v3 + 1)) (by omega) (by omega)])) ?_
     refine ⟨⟨(v3 + 1), ⟨by first | omega | (dsimp only; omega), by first | omega | (dsimp only; omega), upto_nx (by first | omega | (dsimp only; omega)) hA ‹_› (by unfold chR; omega)⟩⟩, by first | exact rfl | omega | (dsimp only; omega) | (simp only [List.length_append, List.length_cons, List.length_nil, List.length_set]; omega) | (simp; done) | (simp; omega), Wk.mk' [] (by kernel_rfl) (by kernel_rfl) (by kernel_rfl)⟩
    ·refine aF 18 hb7 ?_
     refine aF 19 hb7 ?_
     refine aF 20 hb7 ?_
     replace hb7 := of_decide_eq_false (hb7)
     refine go 2 ?_
     refine CH.sidx hτ (s := s) (n := v3) b4 (by kernel_rfl) (by kernel_rfl) (by first | omega | (simp; done) | (simp; omega)) hb4 ?_
     refine go 2 ?_
     rcases Bool.eq_false_or_eq_true (decide (((b4.toNat : Int) : Int) ≥ 48)) with hb8 | hb8
     ·refine aT 24 hb8 ?_
      refine aT 25 hb8 ?_
      replace hb8 := of_decide_eq_true (hb8)
      refine go 2 ?_
      refine CH.sidx hτ (s := s) (n := v3) b4 (by kernel_rfl) (by kernel_rfl) (by first | omega | (simp; done) | (simp; omega)) hb4 ?_
      refine go 4 ?_
      refine ek ⟨[(0, .e (.c (.d (.v (.string s))))), (3, iV v3), (32, bV (!(decide (((b4.toNat : Int) : Int) ≤ 57))))], [], 528⟩ ?_
      refine if_ (b := !(decide (((b4.toNat : Int) : Int) ≤ 57))) (fun hb9 => ?_) (fun hb9 => ?_)
      ·replace hb9 := of_decide_eq_false (bnot_yes (hb9))
       refine sk ⟨[(2, bV false)], [], 544⟩ ?_
       refine X.ret ?_
       exact ⟨trivial, _, _, ⟨false, (by first | exact (fls (fun h => upto_no (by omega) (by omega) ‹_› (fun hr => by first | (unfold chR at hr; omega)) h.1)) | exact (dcd (by rw [inR_iff]; exact ⟨fun h => ⟨upto_all hA (by omega), h⟩, fun h => h.2⟩))), rfl, rfl⟩, mkr⟩
      ·replace hb9 := of_decide_eq_true (bnot_no (hb9))
       refine X.skip ?_
       refine X.rk ⟨[(0, .e (.c (.d (.v (.string s))))), (3, iV (wrap64 (v3 + 1)))], [], 576⟩ hτ hmix (by kernel_rfl) (by kernel_rfl) (s2 := ⟨[(0, .e (.c (.d (.v (.string s))))), (3, iV (v3 + 1))], [], 576⟩) (congrArg (fun z : Int => (⟨[(0, .e (.c (.d (.v (.string s))))), (3, iV z)], [], 576⟩ : St)) (show wrap64 (v3 + 1) = (v3 + 1) by rw [w64 (n := (v3 + 1)) (by omega) (by omega)])) ?_
       refine ⟨⟨(v3 + 1), ⟨by first | omega | (dsimp only; omega), by first | omega | (dsimp only; omega), upto_nx (by first | omega | (dsimp only; omega)) hA ‹_› (by unfold chR; omega)⟩⟩, by first | exact rfl | omega | (dsimp only; omega) | (simp only [List.length_append, List.length_cons, List.length_nil, List.length_set]; omega) | (simp; done) | (simp; omega), Wk.mk' [] (by kernel_rfl) (by kernel_rfl) (by kernel_rfl)⟩
     ·refine aF 24 hb8 ?_
      refine aF 25 hb8 ?_
      replace hb8 := of_decide_eq_false (hb8)
      refine go 7 ?_
      refine ek ⟨[(0, .e (.c (.d (.v (.string s))))), (3, iV v3), (32, bV true)], [], 528⟩ ?_
      refine X.ifT (by kernel_rfl) ?_
      refine sk ⟨[(2, bV false)], [], 544⟩ ?_
      refine X.ret ?_
      exact ⟨trivial, _, _, ⟨false, (by first | exact (fls (fun h => upto_no (by omega) (by omega) ‹_› (fun hr => by first | (unfold chR at hr; omega)) h.1)) | exact (dcd (by rw [inR_iff]; exact ⟨fun h => ⟨upto_all hA (by omega), h⟩, fun h => h.2⟩))), rfl, rfl⟩, mkr⟩
   ·refine aF 13 hb6 ?_
    refine aF 14 hb6 ?_
    replace hb6 := of_decide_eq_false (hb6)
    refine go 8 ?_
    refine CH.sidx hτ (s := s) (n := v3) b4 (by kernel_rfl) (by kernel_rfl) (by first | omega | (simp; done) | (simp; omega)) hb4 ?_
    refine go 2 ?_
    rcases Bool.eq_false_or_eq_true (decide (((b4.toNat : Int) : Int) ≥ 48)) with hb10 | hb10
    ·refine aT 24 hb10 ?_
     refine aT 25 hb10 ?_
     replace hb10 := of_decide_eq_true (hb10)
     refine go 2 ?_
     refine CH.sidx hτ (s := s) (n := v3) b4 (by kernel_rfl) (by kernel_rfl) (by first | omega | (simp; done) | (simp; omega)) hb4 ?_
     refine go 4 ?_
     refine ek ⟨[(0, .e (.c (.d (.v (.string s))))), (3, iV v3), (32, bV (!(decide (((b4.toNat : Int) : Int) ≤ 57))))], [], 528⟩ ?_
     refine if_ (b := !(decide (((b4.toNat : Int) : Int) ≤ 57))) (fun hb11 => ?_) (fun hb11 => ?_)
     ·replace hb11 := of_decide_eq_false (bnot_yes (hb11))
      refine sk ⟨[(2, bV false)], [], 544⟩ ?_
      refine X.ret ?_
      exact ⟨trivial, _, _, ⟨false, (by first | exact (fls (fun h => upto_no (by omega) (by omega) ‹_› (fun hr => by first | (unfold chR at hr; omega)) h.1)) | exact (dcd (by rw [inR_iff]; exact ⟨fun h => ⟨upto_all hA (by omega), h⟩, fun h => h.2⟩))), rfl, rfl⟩, mkr⟩
     ·replace hb11 := of_decide_eq_true (bnot_no (hb11))
      refine X.skip ?_
      refine X.rk ⟨[(0, .e (.c (.d (.v (.string s))))), (3, iV (wrap64 (v3 + 1)))], [], 576⟩ hτ hmix (by kernel_rfl) (by kernel_rfl) (s2 := ⟨[(0, .e (.c (.d (.v (.string s))))), (3, iV (v3 + 1))], [], 576⟩) (congrArg (fun z : Int => (⟨[(0, .e (.c (.d (.v (.string s))))), (3, iV z)], [], 576⟩ : St)) (show wrap64 (v3 + 1) = (v3 + 1) by rw [w64 (n := (v3 + 1)) (by omega) (by omega)])) ?_
      refine ⟨⟨(v3 + 1), ⟨by first | omega | (dsimp only; omega), by first | omega | (dsimp only; omega), upto_nx (by first | omega | (dsimp only; omega)) hA ‹_› (by unfold chR; omega)⟩⟩, by first | exact rfl | omega | (dsimp only; omega) | (simp only [List.length_append, List.length_cons, List.length_nil, List.length_set]; omega) | (simp; done) | (simp; omega), Wk.mk' [] (by kernel_rfl) (by kernel_rfl) (by kernel_rfl)⟩
    ·refine aF 24 hb10 ?_
     refine aF 25 hb10 ?_
     replace hb10 := of_decide_eq_false (hb10)
     refine go 7 ?_
     refine ek ⟨[(0, .e (.c (.d (.v (.string s))))), (3, iV v3), (32, bV true)], [], 528⟩ ?_
     refine X.ifT (by kernel_rfl) ?_
     refine sk ⟨[(2, bV false)], [], 544⟩ ?_
     refine X.ret ?_
     exact ⟨trivial, _, _, ⟨false, (by first | exact (fls (fun h => upto_no (by omega) (by omega) ‹_› (fun hr => by first | (unfold chR at hr; omega)) h.1)) | exact (dcd (by rw [inR_iff]; exact ⟨fun h => ⟨upto_all hA (by omega), h⟩, fun h => h.2⟩))), rfl, rfl⟩, mkr⟩
  ·replace hb3 := of_decide_eq_false (hb3)
   refine X.exit ?_
   refine X.seq (rs 2 ?_)
   obtain ⟨r12, hr14, hf13⟩ := i_inRange (s.size : Int) 1 8
   replace hr14 := hr14.symm; subst hr14
   refine ca hf13 Try.func149 ?_
   refine go 1 ?_
   refine ek ⟨[(2, bV (inR (s.size : Int) 1 8))], [], 224⟩ ?_
   refine X.ret ?_
   exact ⟨trivial, _, _, ⟨(inR (s.size : Int) 1 8), (by first | exact (fls (fun h => upto_no (by omega) (by omega) ‹_› (fun hr => by first | (unfold chR at hr; omega)) h.1)) | exact (dcd (by rw [inR_iff]; exact ⟨fun h => ⟨upto_all hA (by omega), h⟩, fun h => h.2⟩))), rfl, rfl⟩, mkr⟩
 obtain ⟨_, _, ⟨r0, h1_, rfl, rfl⟩, hf⟩ := key
 exact ⟨r0, h1_, hf⟩

end Go.Proofs.Ytggmeldoecnkaaa.Av
