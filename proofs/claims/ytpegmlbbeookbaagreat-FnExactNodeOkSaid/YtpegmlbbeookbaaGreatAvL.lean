/-
What functions of the program come to, walked one by one.
Conditions: none beside those that each theorem names.
-/
import Derived.Test.YtpegmlbbeookbaaGreatAvK
set_option linter.unusedVariables false
set_option linter.unusedSimpArgs false
namespace Go.Proofs.YtpegmlbbeookbaaGreat.Av
open Go.RowKit
set_option maxRecDepth 20000
set_option maxHeartbeats 4000000

section
variable {α : Type} {l L : List α} {b : α} {k : Nat}
end

section
variable {l L : List S73} {b : S73} {k : Nat}
end
theorem s_SetOk (l : List S121) (hl : SmV l) : ∃ r0 : Bool, (r0 = setOk l) ∧ Fn Tryz.prog 22 [lV (l.map d121)] (lookH []) (bV r0) (lookH []) := by
 have key : ∃ x' h', ((fun x' h' => ∃ r0 : Bool, (r0 = setOk l) ∧ x' = bV r0 ∧ h' = [])) x' h' ∧ Fn Tryz.prog 22 [lV (l.map d121)] (lookH []) x' (lookH h') := by
  refine Fn.bodyX (N := 47) hτ Tryz.func22 rfl rfl rfl rfl ?_
  refine sk ⟨[(0, lV (l.map d121))], [], 80⟩ ?_
  refine X.seq ?_
  refine sk ⟨[(0, lV (l.map d121)), (3, iV 0)], [], 96⟩ ?_
  refine X.block ?_
  -- 2: v3 : Int
  refine X.loop (σ := { g : Int // (fun (v3 : Int) => 0 ≤ v3 ∧ v3 ≤ l.length ∧ Upto (setR l) (fun n => l[n]?) v3) g }) (fun g => (fun (v3 : Int) => ⟨[(0, lV (l.map d121)), (3, iV v3)], [], 96⟩) g.1) (fun g => (fun (v3 : Int) => (l.length - v3).toNat) g.1) ⟨0, ⟨by first | omega | (dsimp only; omega), by first | omega | (dsimp only; omega), upto_zero⟩⟩ (Wk.less (by kernel_rfl)) (fun g => ?_)
  obtain ⟨v3, hg2⟩ := g
  have hg2 : 0 ≤ v3 ∧ v3 ≤ l.length ∧ Upto (setR l) (fun n => l[n]?) v3 := hg2
  obtain ⟨_, _, hA⟩ := hg2
  refine X.seq ?_
  refine X.seq ?_
  have hm := hl.1
  have el3 : (l.map d121).length = l.length := List.length_map ..
  refine rk ⟨[(0, lV (l.map d121)), (3, iV v3), (7, bV (decide ((v3 : Int) < ((l.map d121).length : Int))))], [], 160⟩ ?_
  refine if_ (b := decide ((v3 : Int) < ((l.map d121).length : Int))) (fun hb4 => ?_) (fun hb4 => ?_)
  ·replace hb4 := of_decide_eq_true (hb4)
   refine X.skip ?_
   refine X.seq ?_
   refine X.block ?_
   refine X.seq (rs 2 ?_)
   obtain ⟨x5, hx5⟩ : ∃ x, l[Int.toNat v3]? = some x := ⟨_, List.getElem?_eq_getElem (by first | omega | (simp; done) | (simp; omega))⟩
   refine CH.idx hτ (d121 x5) (rows := (l.map d121)) (n := v3) (sz := 2) (by kernel_rfl) (by kernel_rfl) (by first | omega | (simp; done) | (simp; omega)) (by rw [List.getElem?_map, hx5]; rfl) (by kernel_rfl) ?_
   refine go 2 ?_
   obtain ⟨r6, hr8, hf7⟩ := s_NameOk x5.f0 (by exact all_at hl.2 ‹_›)
   replace hr8 := hr8.symm; subst hr8
   refine ca hf7 Tryz.func19 ?_
   refine go 2 ?_
   rcases Bool.eq_false_or_eq_true (!(nameOk x5.f0)) with hb10 | hb10
   ·refine aT 16 hb10 ?_
    refine aT 17 hb10 ?_
    replace hb10 := bnot_yes (hb10)
    refine go 26 ?_
    refine ek ⟨[(0, lV (l.map d121)), (3, iV v3), (43, bV true)], [], 704⟩ ?_
    refine X.ifT (by kernel_rfl) ?_
    refine sk ⟨[(2, bV false)], [], 720⟩ ?_
    refine X.ret ?_
    exact ⟨trivial, _, _, ⟨false, (by first | exact (fls (fun h => upto_no (by omega) (by omega) ‹_› (fun hr => by first | exact tf hr.1 ‹_› | exact absurd hr.2.1 ‹_› | exact tf (hr.2.2 _ (by omega) ‹_›) ‹_›) h.1)) | exact (dcd (by rw [inR_iff]; simp only [List.length_map]; exact ⟨fun h => ⟨upto_all hA (by omega), h⟩, fun h => h.2⟩))), rfl, rfl⟩, mkr⟩
   ·refine aF 16 hb10 ?_
    refine aF 17 hb10 ?_
    replace hb10 := bnot_no (hb10)
    refine go 2 ?_
    refine CH.idx hτ (d121 x5) (rows := (l.map d121)) (n := v3) (sz := 2) (by kernel_rfl) (by kernel_rfl) (by first | omega | (simp; done) | (simp; omega)) (by rw [List.getElem?_map, hx5]; rfl) (by kernel_rfl) ?_
    refine go 2 ?_
    obtain ⟨r11, hr13, hf12⟩ := s_l1In x5.f1 1 1000000
    replace hr13 := hr13.symm; subst hr13
    refine ca hf12 Tryz.func24 ?_
    refine go 3 ?_
    rcases Bool.eq_false_or_eq_true (!(inR x5.f1 1 1000000)) with hb15 | hb15
    ·refine aT 24 hb15 ?_
     refine aT 25 hb15 ?_
     refine aT 26 hb15 ?_
     replace hb15 := inR_no (bnot_yes (hb15))
     refine go 17 ?_
     refine ek ⟨[(0, lV (l.map d121)), (3, iV v3), (43, bV true)], [], 704⟩ ?_
     refine X.ifT (by kernel_rfl) ?_
     refine sk ⟨[(2, bV false)], [], 720⟩ ?_
     refine X.ret ?_
     exact ⟨trivial, _, _, ⟨false, (by first | exact (fls (fun h => upto_no (by omega) (by omega) ‹_› (fun hr => by first | exact tf hr.1 ‹_› | exact absurd hr.2.1 ‹_› | exact tf (hr.2.2 _ (by omega) ‹_›) ‹_›) h.1)) | exact (dcd (by rw [inR_iff]; simp only [List.length_map]; exact ⟨fun h => ⟨upto_all hA (by omega), h⟩, fun h => h.2⟩))), rfl, rfl⟩, mkr⟩
    ·refine aF 24 hb15 ?_
     refine aF 25 hb15 ?_
     refine aF 26 hb15 ?_
     replace hb15 := inR_yes (bnot_no (hb15))
     refine go 3 ?_
     rcases Bool.eq_false_or_eq_true (decide ((v3 : Int) > 0)) with hb16 | hb16
     ·refine aT 28 hb16 ?_
      refine aT 29 hb16 ?_
      replace hb16 := of_decide_eq_true (hb16)
      refine go 3 ?_
      obtain ⟨x17, hx17⟩ : ∃ x, l[Int.toNat (v3 - 1)]? = some x := ⟨_, List.getElem?_eq_getElem (by first | omega | (simp; done) | (simp; omega))⟩
      refine CH.alt 32 (sV (.int .i64 (wrap64 (v3 - 1)))) (sV (.int .i64 ((v3 - 1)))) (by kernel_rfl) (by rw [w64 (n := (v3 - 1)) (by omega) (by omega)]) ?_
      refine CH.idx hτ (d121 x17) (rows := (l.map d121)) (n := (v3 - 1)) (sz := 2) (by kernel_rfl) (by kernel_rfl) (by first | omega | (simp; done) | (simp; omega)) (by rw [List.getElem?_map, hx17]; rfl) (by kernel_rfl) ?_
      refine go 4 ?_
      refine CH.idx hτ (d121 x5) (rows := (l.map d121)) (n := v3) (sz := 2) (by kernel_rfl) (by kernel_rfl) (by first | omega | (simp; done) | (simp; omega)) (by rw [List.getElem?_map, hx5]; rfl) (by kernel_rfl) ?_
      refine go 5 ?_
      refine ek ⟨[(0, lV (l.map d121)), (3, iV v3), (43, bV (!(Op.bytesLess x17.f0.toList x5.f0.toList)))], [], 704⟩ ?_
      refine if_ (b := !(Op.bytesLess x17.f0.toList x5.f0.toList)) (fun hb18 => ?_) (fun hb18 => ?_)
      ·replace hb18 := bnot_yes (hb18)
       refine sk ⟨[(2, bV false)], [], 720⟩ ?_
       refine X.ret ?_
       exact ⟨trivial, _, _, ⟨false, (by first | exact (fls (fun h => upto_no (by omega) (by omega) ‹_› (fun hr => by first | exact tf hr.1 ‹_› | exact absurd hr.2.1 ‹_› | exact tf (hr.2.2 _ (by omega) ‹_›) ‹_›) h.1)) | exact (dcd (by rw [inR_iff]; simp only [List.length_map]; exact ⟨fun h => ⟨upto_all hA (by omega), h⟩, fun h => h.2⟩))), rfl, rfl⟩, mkr⟩
      ·replace hb18 := bnot_no (hb18)
       refine X.skip ?_
       refine X.rk ⟨[(0, lV (l.map d121)), (3, iV (wrap64 (v3 + 1)))], [], 752⟩ hτ hmix (by kernel_rfl) (by kernel_rfl) (s2 := ⟨[(0, lV (l.map d121)), (3, iV (v3 + 1))], [], 752⟩) (congrArg (fun z : Int => (⟨[(0, lV (l.map d121)), (3, iV z)], [], 752⟩ : St)) (show wrap64 (v3 + 1) = (v3 + 1) by rw [w64 (n := (v3 + 1)) (by omega) (by omega)])) ?_
       refine ⟨⟨(v3 + 1), ⟨by first | omega | (dsimp only; omega), by first | omega | (dsimp only; omega), upto_nx (by first | omega | (dsimp only; omega)) hA ‹_› (⟨‹_›, ‹_›, (by first | exact fun y h0 hy => absurd h0 (by first | omega | (dsimp only; omega)) | exact prev_fn ‹_› ‹_›)⟩)⟩⟩, by first | exact rfl | omega | (dsimp only; omega) | (simp only [List.length_append, List.length_cons, List.length_nil, List.length_set]; omega) | (simp; done) | (simp; omega), Wk.mk' [] (by kernel_rfl) (by kernel_rfl) (by kernel_rfl)⟩
     ·refine aF 28 hb16 ?_
      refine aF 29 hb16 ?_
      replace hb16 := of_decide_eq_false (hb16)
      refine go 14 ?_
      refine ek ⟨[(0, lV (l.map d121)), (3, iV v3), (43, bV false)], [], 704⟩ ?_
      refine X.ifF (by kernel_rfl) ?_
      refine X.skip ?_
      refine X.rk ⟨[(0, lV (l.map d121)), (3, iV (wrap64 (v3 + 1)))], [], 752⟩ hτ hmix (by kernel_rfl) (by kernel_rfl) (s2 := ⟨[(0, lV (l.map d121)), (3, iV (v3 + 1))], [], 752⟩) (congrArg (fun z : Int => (⟨[(0, lV (l.map d121)), (3, iV z)], [], 752⟩ : St)) (show wrap64 (v3 + 1) = (v3 + 1) by rw [w64 (n := (v3 + 1)) (by omega) (by omega)])) ?_
      refine ⟨⟨(v3 + 1), ⟨by first | omega | (dsimp only; omega), by first | omega | (dsimp only; omega), upto_nx (by first | omega | (dsimp only; omega)) hA ‹_› (⟨‹_›, ‹_›, (by first | exact fun y h0 hy => absurd h0 (by first | omega | (dsimp only; omega)) | exact prev_fn ‹_› ‹_›)⟩)⟩⟩, by first | exact rfl | omega | (dsimp only; omega) | (simp only [List.length_append, List.length_cons, List.length_nil, List.length_set]; omega) | (simp; done) | (simp; omega), Wk.mk' [] (by kernel_rfl) (by kernel_rfl) (by kernel_rfl)⟩
  ·replace hb4 := of_decide_eq_false (hb4)
   refine X.exit ?_
   refine X.seq (rs 2 ?_)
   obtain ⟨r19, hr21, hf20⟩ := s_l1In ((l.map d121).length : Int) 1 12
   replace hr21 := hr21.symm; subst hr21
   refine ca hf20 Tryz.func24 ?_
   refine go 1 ?_
   refine ek ⟨[(2, bV (inR ((l.map d121).length : Int) 1 12))], [], 224⟩ ?_
   refine X.ret ?_
   exact ⟨trivial, _, _, ⟨(inR ((l.map d121).length : Int) 1 12), (by first | exact (fls (fun h => upto_no (by omega) (by omega) ‹_› (fun hr => by first | exact tf hr.1 ‹_› | exact absurd hr.2.1 ‹_› | exact tf (hr.2.2 _ (by omega) ‹_›) ‹_›) h.1)) | exact (dcd (by rw [inR_iff]; simp only [List.length_map]; exact ⟨fun h => ⟨upto_all hA (by omega), h⟩, fun h => h.2⟩))), rfl, rfl⟩, mkr⟩
 obtain ⟨_, _, ⟨r0, h1_, rfl, rfl⟩, hf⟩ := key
 exact ⟨r0, h1_, hf⟩

theorem i_SetOk (l : List S121) (hl : SmV l) : ∃ r0 : Bool, (r0 = setOk l) ∧ Fn Tryz.prog 39 [lV (l.map d121)] (lookH []) (bV r0) (lookH []) := by
 have key : ∃ x' h', ((fun x' h' => ∃ r0 : Bool, (r0 = setOk l) ∧ x' = bV r0 ∧ h' = [])) x' h' ∧ Fn Tryz.prog 39 [lV (l.map d121)] (lookH []) x' (lookH h') := by
  refine Fn.bodyX (N := 41) hτ Tryz.func39 rfl rfl rfl rfl ?_
  refine sk ⟨[(0, lV (l.map d121))], [], 80⟩ ?_
  refine X.seq ?_
  refine X.seq ?_
  have el1 : (l.map d121).length = l.length := List.length_map ..
  refine rk ⟨[(0, lV (l.map d121)), (5, lV (l.map d121)), (6, iV ((l.map d121).length : Int)), (7, iV 0)], [], 128⟩ ?_
  refine X.block ?_
  -- 2: v7 : Int
  refine X.loop (σ := { g : Int // (fun (v7 : Int) => 0 ≤ v7 ∧ v7 ≤ l.length ∧ Upto (setR l) (fun n => l[n]?) v7) g }) (fun g => (fun (v7 : Int) => ⟨[(0, lV (l.map d121)), (5, lV (l.map d121)), (6, iV ((l.map d121).length : Int)), (7, iV v7)], [], 128⟩) g.1) (fun g => (fun (v7 : Int) => (l.length - v7).toNat) g.1) ⟨0, ⟨by first | omega | (dsimp only; omega), by first | omega | (dsimp only; omega), upto_zero⟩⟩ (Wk.less (by kernel_rfl)) (fun g => ?_)
  obtain ⟨v7, hg3⟩ := g
  have hg3 : 0 ≤ v7 ∧ v7 ≤ l.length ∧ Upto (setR l) (fun n => l[n]?) v7 := hg3
  obtain ⟨_, _, hA⟩ := hg3
  refine X.seq ?_
  have hm := hl.1
  refine rk ⟨[(0, lV (l.map d121)), (5, lV (l.map d121)), (6, iV ((l.map d121).length : Int)), (7, iV v7), (8, bV (decide ((v7 : Int) < ((l.map d121).length : Int))))], [], 144⟩ ?_
  refine X.seq ?_
  refine if_ (b := decide ((v7 : Int) < ((l.map d121).length : Int))) (fun hb4 => ?_) (fun hb4 => ?_)
  ·replace hb4 := of_decide_eq_true (hb4)
   refine X.skip ?_
   refine X.seq ?_
   refine X.block ?_
   refine X.seq (rs 1 ?_)
   obtain ⟨x5, hx5⟩ : ∃ x, l[Int.toNat v7]? = some x := ⟨_, List.getElem?_eq_getElem (by first | omega | (simp; done) | (simp; omega))⟩
   refine CH.idx hτ (d121 x5) (rows := (l.map d121)) (n := v7) (sz := 2) (by kernel_rfl) (by kernel_rfl) (by first | omega | (simp; done) | (simp; omega)) (by rw [List.getElem?_map, hx5]; rfl) (by kernel_rfl) ?_
   refine go 4 ?_
   refine ek ⟨[(0, lV (l.map d121)), (3, iV v7), (4, .pt 192 0 0), (5, lV (l.map d121)), (6, iV ((l.map d121).length : Int)), (7, iV v7)], [(192, some (.box [.d (.v (.string x5.f0)), .d (.v (.int .i64 x5.f1))]))], 240⟩ ?_
   refine X.seq (rs 2 ?_)
   obtain ⟨r6, hr8, hf7⟩ := i_NameOk x5.f0 (by exact all_at hl.2 ‹_›)
   replace hr8 := hr8.symm; subst hr8
   refine ca hf7 Tryz.func37 ?_
   refine go 2 ?_
   rcases Bool.eq_false_or_eq_true (!(nameOk x5.f0)) with hb10 | hb10
   ·refine aT 15 hb10 ?_
    refine aT 16 hb10 ?_
    replace hb10 := bnot_yes (hb10)
    refine go 20 ?_
    refine ek ⟨[(0, lV (l.map d121)), (5, lV (l.map d121)), (6, iV ((l.map d121).length : Int)), (7, iV v7), (36, bV true)], [], 640⟩ ?_
    refine X.ifT (by kernel_rfl) ?_
    refine sk ⟨[(2, bV false)], [], 656⟩ ?_
    refine X.ret ?_
    exact ⟨trivial, _, _, ⟨false, (by first | exact (fls (fun h => upto_no (by omega) (by omega) ‹_› (fun hr => by first | exact tf hr.1 ‹_› | exact absurd hr.2.1 ‹_› | exact tf (hr.2.2 _ (by omega) ‹_›) ‹_›) h.1)) | exact (dcd (by rw [inR_iff]; simp only [List.length_map]; exact ⟨fun h => ⟨upto_all hA (by omega), h⟩, fun h => h.2⟩))), rfl, rfl⟩, mkr⟩
   ·refine aF 15 hb10 ?_
    refine aF 16 hb10 ?_
    replace hb10 := bnot_no (hb10)
    refine go 2 ?_
    obtain ⟨r11, hr13, hf12⟩ := i_inRange x5.f1 1 1000000
    replace hr13 := hr13.symm; subst hr13
    refine ca hf12 Tryz.func41 ?_
    refine go 3 ?_
    rcases Bool.eq_false_or_eq_true (!(inR x5.f1 1 1000000)) with hb15 | hb15
    ·refine aT 20 hb15 ?_
     refine aT 21 hb15 ?_
     refine aT 22 hb15 ?_
     replace hb15 := inR_no (bnot_yes (hb15))
     refine go 14 ?_
     refine ek ⟨[(0, lV (l.map d121)), (5, lV (l.map d121)), (6, iV ((l.map d121).length : Int)), (7, iV v7), (36, bV true)], [], 640⟩ ?_
     refine X.ifT (by kernel_rfl) ?_
     refine sk ⟨[(2, bV false)], [], 656⟩ ?_
     refine X.ret ?_
     exact ⟨trivial, _, _, ⟨false, (by first | exact (fls (fun h => upto_no (by omega) (by omega) ‹_› (fun hr => by first | exact tf hr.1 ‹_› | exact absurd hr.2.1 ‹_› | exact tf (hr.2.2 _ (by omega) ‹_›) ‹_›) h.1)) | exact (dcd (by rw [inR_iff]; simp only [List.length_map]; exact ⟨fun h => ⟨upto_all hA (by omega), h⟩, fun h => h.2⟩))), rfl, rfl⟩, mkr⟩
    ·refine aF 20 hb15 ?_
     refine aF 21 hb15 ?_
     refine aF 22 hb15 ?_
     replace hb15 := inR_yes (bnot_no (hb15))
     refine go 3 ?_
     rcases Bool.eq_false_or_eq_true (decide ((v7 : Int) > 0)) with hb16 | hb16
     ·refine aT 24 hb16 ?_
      refine aT 25 hb16 ?_
      replace hb16 := of_decide_eq_true (hb16)
      refine go 5 ?_
      obtain ⟨x17, hx17⟩ : ∃ x, l[Int.toNat (v7 - 1)]? = some x := ⟨_, List.getElem?_eq_getElem (by first | omega | (simp; done) | (simp; omega))⟩
      refine CH.alt 30 (sV (.int .i64 (wrap64 (v7 - 1)))) (sV (.int .i64 ((v7 - 1)))) (by kernel_rfl) (by rw [w64 (n := (v7 - 1)) (by omega) (by omega)]) ?_
      refine CH.idx hτ (d121 x17) (rows := (l.map d121)) (n := (v7 - 1)) (sz := 2) (by kernel_rfl) (by kernel_rfl) (by first | omega | (simp; done) | (simp; omega)) (by rw [List.getElem?_map, hx17]; rfl) (by kernel_rfl) ?_
      refine go 5 ?_
      refine ek ⟨[(0, lV (l.map d121)), (5, lV (l.map d121)), (6, iV ((l.map d121).length : Int)), (7, iV v7), (36, bV (Op.bytesLess x5.f0.toList x17.f0.toList || x5.f0.toList == x17.f0.toList))], [], 640⟩ ?_
      refine if_ (b := (Op.bytesLess x5.f0.toList x17.f0.toList || x5.f0.toList == x17.f0.toList)) (fun hb18 => ?_) (fun hb18 => ?_)
      ·replace hb18 := leq_yes (hb18)
       refine sk ⟨[(2, bV false)], [], 656⟩ ?_
       refine X.ret ?_
       exact ⟨trivial, _, _, ⟨false, (by first | exact (fls (fun h => upto_no (by omega) (by omega) ‹_› (fun hr => by first | exact tf hr.1 ‹_› | exact absurd hr.2.1 ‹_› | exact tf (hr.2.2 _ (by omega) ‹_›) ‹_›) h.1)) | exact (dcd (by rw [inR_iff]; simp only [List.length_map]; exact ⟨fun h => ⟨upto_all hA (by omega), h⟩, fun h => h.2⟩))), rfl, rfl⟩, mkr⟩
      ·replace hb18 := leq_no (hb18)
       refine X.skip ?_
       refine X.rk ⟨[(0, lV (l.map d121)), (5, lV (l.map d121)), (6, iV ((l.map d121).length : Int)), (7, iV (wrap64 (v7 + 1)))], [], 672⟩ hτ hmix (by kernel_rfl) (by kernel_rfl) (s2 := ⟨[(0, lV (l.map d121)), (5, lV (l.map d121)), (6, iV ((l.map d121).length : Int)), (7, iV (v7 + 1))], [], 672⟩) (congrArg (fun z : Int => (⟨[(0, lV (l.map d121)), (5, lV (l.map d121)), (6, iV ((l.map d121).length : Int)), (7, iV z)], [], 672⟩ : St)) (show wrap64 (v7 + 1) = (v7 + 1) by rw [w64 (n := (v7 + 1)) (by omega) (by omega)])) ?_
       refine ⟨⟨(v7 + 1), ⟨by first | omega | (dsimp only; omega), by first | omega | (dsimp only; omega), upto_nx (by first | omega | (dsimp only; omega)) hA ‹_› (⟨‹_›, ‹_›, (by first | exact fun y h0 hy => absurd h0 (by first | omega | (dsimp only; omega)) | exact prev_fn ‹_› ‹_›)⟩)⟩⟩, by first | exact rfl | omega | (dsimp only; omega) | (simp only [List.length_append, List.length_cons, List.length_nil, List.length_set]; omega) | (simp; done) | (simp; omega), Wk.mk' [] (by kernel_rfl) (by kernel_rfl) (by kernel_rfl)⟩
     ·refine aF 24 hb16 ?_
      refine aF 25 hb16 ?_
      replace hb16 := of_decide_eq_false (hb16)
      refine go 11 ?_
      refine ek ⟨[(0, lV (l.map d121)), (5, lV (l.map d121)), (6, iV ((l.map d121).length : Int)), (7, iV v7), (36, bV false)], [], 640⟩ ?_
      refine X.ifF (by kernel_rfl) ?_
      refine X.skip ?_
      refine X.rk ⟨[(0, lV (l.map d121)), (5, lV (l.map d121)), (6, iV ((l.map d121).length : Int)), (7, iV (wrap64 (v7 + 1)))], [], 672⟩ hτ hmix (by kernel_rfl) (by kernel_rfl) (s2 := ⟨[(0, lV (l.map d121)), (5, lV (l.map d121)), (6, iV ((l.map d121).length : Int)), (7, iV (v7 + 1))], [], 672⟩) (congrArg (fun z : Int => (⟨[(0, lV (l.map d121)), (5, lV (l.map d121)), (6, iV ((l.map d121).length : Int)), (7, iV z)], [], 672⟩ : St)) (show wrap64 (v7 + 1) = (v7 + 1) by rw [w64 (n := (v7 + 1)) (by omega) (by omega)])) ?_
      refine ⟨⟨(v7 + 1), ⟨by first | omega | (dsimp only; omega), by first | omega | (dsimp only; omega), upto_nx (by first | omega | (dsimp only; omega)) hA ‹_› (⟨‹_›, ‹_›, (by first | exact fun y h0 hy => absurd h0 (by first | omega | (dsimp only; omega)) | exact prev_fn ‹_› ‹_›)⟩)⟩⟩, by first | exact rfl | omega | (dsimp only; omega) | (simp only [List.length_append, List.length_cons, List.length_nil, List.length_set]; omega) | (simp; done) | (simp; omega), Wk.mk' [] (by kernel_rfl) (by kernel_rfl) (by kernel_rfl)⟩
  ·replace hb4 := of_decide_eq_false (hb4)
   refine X.exit ?_
   refine X.seq (rs 2 ?_)
   obtain ⟨r19, hr21, hf20⟩ := i_inRange ((l.map d121).length : Int) 1 12
   replace hr21 := hr21.symm; subst hr21
   refine ca hf20 Tryz.func41 ?_
   refine go 1 ?_
   refine ek ⟨[(2, bV (inR ((l.map d121).length : Int) 1 12))], [], 208⟩ ?_
   refine X.ret ?_
   exact ⟨trivial, _, _, ⟨(inR ((l.map d121).length : Int) 1 12), (by first | exact (fls (fun h => upto_no (by omega) (by omega) ‹_› (fun hr => by first | exact tf hr.1 ‹_› | exact absurd hr.2.1 ‹_› | exact tf (hr.2.2 _ (by omega) ‹_›) ‹_›) h.1)) | exact (dcd (by rw [inR_iff]; simp only [List.length_map]; exact ⟨fun h => ⟨upto_all hA (by omega), h⟩, fun h => h.2⟩))), rfl, rfl⟩, mkr⟩
 obtain ⟨_, _, ⟨r0, h1_, rfl, rfl⟩, hf⟩ := key
 exact ⟨r0, h1_, hf⟩

theorem s_BlockOk (b : S73) (hb : Sm73 b) : ∃ r0 : Bool, (r0 = blockOk b) ∧ Fn Tryz.prog 66 [.e (.agg (cD (d73 b)))] (lookH []) (bV r0) (lookH []) := by
 have key : ∃ x' h', ((fun x' h' => ∃ r0 : Bool, (r0 = blockOk b) ∧ x' = bV r0 ∧ h' = [])) x' h' ∧ Fn Tryz.prog 66 [.e (.agg (cD (d73 b)))] (lookH []) x' (lookH h') := by
  refine Fn.bodyX (N := 77) hτ Tryz.func66 rfl rfl rfl rfl ?_
  refine sk ⟨[(1, .pt 64 0 0)], [(64, some (.box (cD (d73 b))))], 96⟩ ?_
  refine X.seq ?_
  refine X.seq (rs 2 ?_)
  obtain ⟨r1, hr3, hf2⟩ := s_l1In b.f0 0 100000
  replace hr3 := hr3.symm; subst hr3
  refine ca hf2 Tryz.func24 ?_
  refine go 2 ?_
  rcases Bool.eq_false_or_eq_true (!(inR b.f0 0 100000)) with hb5 | hb5
  ·refine aT 7 hb5 ?_
   refine aT 8 hb5 ?_
   replace hb5 := inR_no (bnot_yes (hb5))
   refine go 33 ?_
   refine ek ⟨[(1, .pt 64 0 0), (41, bV true)], [(64, some (.box (cD (d73 b))))], 704⟩ ?_
   refine X.ifT (by kernel_rfl) ?_
   refine sk ⟨[(2, bV false)], [], 720⟩ ?_
   refine X.ret ?_
   exact ⟨trivial, _, _, ⟨false, (by (first | have hz := all_yes (p := txOk) (upto_all hA (by omega)) | have hz := all_no (p := txOk) ‹_› ‹_› | skip); rw [Bool.eq_iff_iff]; simp only [blockOk, Bool.and_eq_true, Bool.or_eq_true, inR_iff, decide_eq_true_eq, beq_iff_eq, Bool.false_eq_true, false_iff, true_iff, List.length_map]; first | (intro h; omega) | (intro h; simp_all; done) | (simp_all; done) | (simp_all; omega) | (constructor <;> intro h <;> (first | (simp_all; done) | (simp_all; omega) | omega))), rfl, rfl⟩, mkr⟩
  ·refine aF 7 hb5 ?_
   refine aF 8 hb5 ?_
   replace hb5 := inR_yes (bnot_no (hb5))
   refine go 2 ?_
   obtain ⟨r6, hr8, hf7⟩ := s_l1In b.f1 0 900
   replace hr8 := hr8.symm; subst hr8
   refine ca hf7 Tryz.func24 ?_
   refine go 3 ?_
   rcases Bool.eq_false_or_eq_true (!(inR b.f1 0 900)) with hb10 | hb10
   ·refine aT 12 hb10 ?_
    refine aT 13 hb10 ?_
    refine aT 14 hb10 ?_
    replace hb10 := inR_no (bnot_yes (hb10))
    refine go 27 ?_
    refine ek ⟨[(1, .pt 64 0 0), (41, bV true)], [(64, some (.box (cD (d73 b))))], 704⟩ ?_
    refine X.ifT (by kernel_rfl) ?_
    refine sk ⟨[(2, bV false)], [], 720⟩ ?_
    refine X.ret ?_
    exact ⟨trivial, _, _, ⟨false, (by (first | have hz := all_yes (p := txOk) (upto_all hA (by omega)) | have hz := all_no (p := txOk) ‹_› ‹_› | skip); rw [Bool.eq_iff_iff]; simp only [blockOk, Bool.and_eq_true, Bool.or_eq_true, inR_iff, decide_eq_true_eq, beq_iff_eq, Bool.false_eq_true, false_iff, true_iff, List.length_map]; first | (intro h; omega) | (intro h; simp_all; done) | (simp_all; done) | (simp_all; omega) | (constructor <;> intro h <;> (first | (simp_all; done) | (simp_all; omega) | omega))), rfl, rfl⟩, mkr⟩
   ·refine aF 12 hb10 ?_
    refine aF 13 hb10 ?_
    refine aF 14 hb10 ?_
    replace hb10 := inR_yes (bnot_no (hb10))
    refine go 2 ?_
    obtain ⟨r11, hr13, hf12⟩ := s_l1In b.f2 1 10000
    replace hr13 := hr13.symm; subst hr13
    refine ca hf12 Tryz.func24 ?_
    refine go 3 ?_
    rcases Bool.eq_false_or_eq_true (!(inR b.f2 1 10000)) with hb15 | hb15
    ·refine aT 18 hb15 ?_
     refine aT 19 hb15 ?_
     refine aT 20 hb15 ?_
     replace hb15 := inR_no (bnot_yes (hb15))
     refine go 21 ?_
     refine ek ⟨[(1, .pt 64 0 0), (41, bV true)], [(64, some (.box (cD (d73 b))))], 704⟩ ?_
     refine X.ifT (by kernel_rfl) ?_
     refine sk ⟨[(2, bV false)], [], 720⟩ ?_
     refine X.ret ?_
     exact ⟨trivial, _, _, ⟨false, (by (first | have hz := all_yes (p := txOk) (upto_all hA (by omega)) | have hz := all_no (p := txOk) ‹_› ‹_› | skip); rw [Bool.eq_iff_iff]; simp only [blockOk, Bool.and_eq_true, Bool.or_eq_true, inR_iff, decide_eq_true_eq, beq_iff_eq, Bool.false_eq_true, false_iff, true_iff, List.length_map]; first | (intro h; omega) | (intro h; simp_all; done) | (simp_all; done) | (simp_all; omega) | (constructor <;> intro h <;> (first | (simp_all; done) | (simp_all; omega) | omega))), rfl, rfl⟩, mkr⟩
    ·refine aF 18 hb15 ?_
     refine aF 19 hb15 ?_
     refine aF 20 hb15 ?_
     replace hb15 := inR_yes (bnot_no (hb15))
     refine go 2 ?_
     obtain ⟨r16, hr18, hf17⟩ := s_NameOk b.f3 (by exact hb.1)
     replace hr18 := hr18.symm; subst hr18
     refine ca hf17 Tryz.func19 ?_
     refine go 3 ?_
     rcases Bool.eq_false_or_eq_true (!(nameOk b.f3)) with hb20 | hb20
     ·refine aT 24 hb20 ?_
      refine aT 25 hb20 ?_
      refine aT 26 hb20 ?_
      replace hb20 := bnot_yes (hb20)
      refine go 15 ?_
      refine ek ⟨[(1, .pt 64 0 0), (41, bV true)], [(64, some (.box (cD (d73 b))))], 704⟩ ?_
      refine X.ifT (by kernel_rfl) ?_
      refine sk ⟨[(2, bV false)], [], 720⟩ ?_
      refine X.ret ?_
      exact ⟨trivial, _, _, ⟨false, (by (first | have hz := all_yes (p := txOk) (upto_all hA (by omega)) | have hz := all_no (p := txOk) ‹_› ‹_› | skip); rw [Bool.eq_iff_iff]; simp only [blockOk, Bool.and_eq_true, Bool.or_eq_true, inR_iff, decide_eq_true_eq, beq_iff_eq, Bool.false_eq_true, false_iff, true_iff, List.length_map]; first | (intro h; omega) | (intro h; simp_all; done) | (simp_all; done) | (simp_all; omega) | (constructor <;> intro h <;> (first | (simp_all; done) | (simp_all; omega) | omega))), rfl, rfl⟩, mkr⟩
     ·refine aF 24 hb20 ?_
      refine aF 25 hb20 ?_
      refine aF 26 hb20 ?_
      replace hb20 := bnot_no (hb20)
      refine go 1 ?_
      obtain ⟨r21, hr23, hf22⟩ := s_l9Qc b (by assumption)
      replace hr23 := hr23.symm; subst hr23
      refine ca hf22 Tryz.func102 ?_
      refine go 3 ?_
      rcases Bool.eq_false_or_eq_true (!(qcForm b.f4 (wr .i64 (b.f2 - 1)) (wr .i64 (b.f0 - 1)))) with hb25 | hb25
      ·refine aT 29 hb25 ?_
       refine aT 30 hb25 ?_
       refine aT 31 hb25 ?_
       replace hb25 := bnot_yes (hb25)
       refine go 10 ?_
       refine ek ⟨[(1, .pt 64 0 0), (41, bV true)], [(64, some (.box (cD (d73 b))))], 704⟩ ?_
       refine X.ifT (by kernel_rfl) ?_
       refine sk ⟨[(2, bV false)], [], 720⟩ ?_
       refine X.ret ?_
       exact ⟨trivial, _, _, ⟨false, (by (first | have hz := all_yes (p := txOk) (upto_all hA (by omega)) | have hz := all_no (p := txOk) ‹_› ‹_› | skip); rw [Bool.eq_iff_iff]; simp only [blockOk, Bool.and_eq_true, Bool.or_eq_true, inR_iff, decide_eq_true_eq, beq_iff_eq, Bool.false_eq_true, false_iff, true_iff, List.length_map]; first | (intro h; omega) | (intro h; simp_all; done) | (simp_all; done) | (simp_all; omega) | (constructor <;> intro h <;> (first | (simp_all; done) | (simp_all; omega) | omega))), rfl, rfl⟩, mkr⟩
      ·refine aF 29 hb25 ?_
       refine aF 30 hb25 ?_
       refine aF 31 hb25 ?_
       replace hb25 := bnot_no (hb25)
       refine go 1 ?_
       obtain ⟨r26, hr28, hf27⟩ := s_l9Tc b (by assumption)
       replace hr28 := hr28.symm; subst hr28
       refine ca hf27 Tryz.func103 ?_
       refine go 3 ?_
       rcases Bool.eq_false_or_eq_true (!(tcForm b.f5 (wr .i64 (b.f2 - 1)))) with hb30 | hb30
       ·refine aT 34 hb30 ?_
        refine aT 35 hb30 ?_
        refine aT 36 hb30 ?_
        replace hb30 := bnot_yes (hb30)
        refine go 5 ?_
        refine ek ⟨[(1, .pt 64 0 0), (41, bV true)], [(64, some (.box (cD (d73 b))))], 704⟩ ?_
        refine X.ifT (by kernel_rfl) ?_
        refine sk ⟨[(2, bV false)], [], 720⟩ ?_
        refine X.ret ?_
        exact ⟨trivial, _, _, ⟨false, (by (first | have hz := all_yes (p := txOk) (upto_all hA (by omega)) | have hz := all_no (p := txOk) ‹_› ‹_› | skip); rw [Bool.eq_iff_iff]; simp only [blockOk, Bool.and_eq_true, Bool.or_eq_true, inR_iff, decide_eq_true_eq, beq_iff_eq, Bool.false_eq_true, false_iff, true_iff, List.length_map]; first | (intro h; omega) | (intro h; simp_all; done) | (simp_all; done) | (simp_all; omega) | (constructor <;> intro h <;> (first | (simp_all; done) | (simp_all; omega) | omega))), rfl, rfl⟩, mkr⟩
       ·refine aF 34 hb30 ?_
        refine aF 35 hb30 ?_
        refine aF 36 hb30 ?_
        replace hb30 := bnot_no (hb30)
        refine go 5 ?_
        have el31 : (b.f6.map d119).length = b.f6.length := List.length_map ..
        refine ek ⟨[(1, .pt 64 0 0), (41, bV (decide ((((b.f6.map d119).length : Int) : Int) > 4)))], [(64, some (.box (cD (d73 b))))], 704⟩ ?_
        refine if_ (b := decide ((((b.f6.map d119).length : Int) : Int) > 4)) (fun hb32 => ?_) (fun hb32 => ?_)
        ·replace hb32 := of_decide_eq_true (hb32)
         refine sk ⟨[(2, bV false)], [], 720⟩ ?_
         refine X.ret ?_
         exact ⟨trivial, _, _, ⟨false, (by (first | have hz := all_yes (p := txOk) (upto_all hA (by omega)) | have hz := all_no (p := txOk) ‹_› ‹_› | skip); rw [Bool.eq_iff_iff]; simp only [blockOk, Bool.and_eq_true, Bool.or_eq_true, inR_iff, decide_eq_true_eq, beq_iff_eq, Bool.false_eq_true, false_iff, true_iff, List.length_map]; first | (intro h; omega) | (intro h; simp_all; done) | (simp_all; done) | (simp_all; omega) | (constructor <;> intro h <;> (first | (simp_all; done) | (simp_all; omega) | omega))), rfl, rfl⟩, mkr⟩
        ·replace hb32 := of_decide_eq_false (hb32)
         refine X.skip ?_
         refine X.seq ?_
         refine sk ⟨[(1, .pt 64 0 0), (3, iV 0)], [(64, some (.box (cD (d73 b))))], 720⟩ ?_
         refine X.block ?_
         -- 4: v3 : Int
         refine X.loop (σ := { g : Int // (fun (v3 : Int) => 0 ≤ v3 ∧ v3 ≤ b.f6.length ∧ Upto (fun _ x => txOk x = true) (fun n => b.f6[n]?) v3) g }) (fun g => (fun (v3 : Int) => ⟨[(1, .pt 64 0 0), (3, iV v3)], [(64, some (.box (cD (d73 b))))], 720⟩) g.1) (fun g => (fun (v3 : Int) => (b.f6.length - v3).toNat) g.1) ⟨0, ⟨by first | omega | (dsimp only; omega), by first | omega | (dsimp only; omega), upto_zero⟩⟩ (Wk.less (by kernel_rfl)) (fun g => ?_)
         obtain ⟨v3, hg34⟩ := g
         have hg34 : 0 ≤ v3 ∧ v3 ≤ b.f6.length ∧ Upto (fun _ x => txOk x = true) (fun n => b.f6[n]?) v3 := hg34
         obtain ⟨_, _, hA⟩ := hg34
         refine X.seq ?_
         refine X.seq ?_
         have hm := hb.2.2.2.1.1
         refine rk ⟨[(1, .pt 64 0 0), (3, iV v3), (46, bV (decide ((v3 : Int) < ((b.f6.map d119).length : Int))))], [(64, some (.box (cD (d73 b))))], 800⟩ ?_
         refine if_ (b := decide ((v3 : Int) < ((b.f6.map d119).length : Int))) (fun hb35 => ?_) (fun hb35 => ?_)
         ·replace hb35 := of_decide_eq_true (hb35)
          refine X.skip ?_
          refine X.seq ?_
          refine X.block ?_
          refine X.seq (rs 3 ?_)
          obtain ⟨x36, hx36⟩ : ∃ x, b.f6[Int.toNat v3]? = some x := ⟨_, List.getElem?_eq_getElem (by first | omega | (simp; done) | (simp; omega))⟩
          refine CH.idx hτ (d119 x36) (rows := (b.f6.map d119)) (n := v3) (sz := 5) (by kernel_rfl) (by kernel_rfl) (by first | omega | (simp; done) | (simp; omega)) (by rw [List.getElem?_map, hx36]; rfl) (by kernel_rfl) ?_
          refine go 1 ?_
          obtain ⟨r37, hr39, hf38⟩ := s_TxOk x36 (by exact all_at hb.2.2.2.1.2 ‹_›)
          replace hr39 := hr39.symm; subst hr39
          refine ca hf38 Tryz.func64 ?_
          refine go 1 ?_
          refine ek ⟨[(1, .pt 64 0 0), (3, iV v3), (55, bV (!(txOk x36)))], [(64, some (.box (cD (d73 b))))], 912⟩ ?_
          refine if_ (b := !(txOk x36)) (fun hb41 => ?_) (fun hb41 => ?_)
          ·replace hb41 := bnot_yes (hb41)
           refine sk ⟨[(2, bV false)], [], 928⟩ ?_
           refine X.ret ?_
           exact ⟨trivial, _, _, ⟨false, (by (first | have hz := all_yes (p := txOk) (upto_all hA (by omega)) | have hz := all_no (p := txOk) ‹_› ‹_› | skip); rw [Bool.eq_iff_iff]; simp only [blockOk, Bool.and_eq_true, Bool.or_eq_true, inR_iff, decide_eq_true_eq, beq_iff_eq, Bool.false_eq_true, false_iff, true_iff, List.length_map]; first | (intro h; omega) | (intro h; simp_all; done) | (simp_all; done) | (simp_all; omega) | (constructor <;> intro h <;> (first | (simp_all; done) | (simp_all; omega) | omega))), rfl, rfl⟩, mkr⟩
          ·replace hb41 := bnot_no (hb41)
           refine X.skip ?_
           refine X.rk ⟨[(1, .pt 64 0 0), (3, iV (wrap64 (v3 + 1)))], [(64, some (.box (cD (d73 b))))], 960⟩ hτ hmix (by kernel_rfl) (by kernel_rfl) (s2 := ⟨[(1, .pt 64 0 0), (3, iV (v3 + 1))], [(64, some (.box (cD (d73 b))))], 960⟩) (congrArg (fun z : Int => (⟨[(1, .pt 64 0 0), (3, iV z)], [(64, some (.box (cD (d73 b))))], 960⟩ : St)) (show wrap64 (v3 + 1) = (v3 + 1) by rw [w64 (n := (v3 + 1)) (by omega) (by omega)])) ?_
           refine ⟨⟨(v3 + 1), ⟨by first | omega | (dsimp only; omega), by first | omega | (dsimp only; omega), upto_nx (by first | omega | (dsimp only; omega)) hA ‹_› (‹_›)⟩⟩, by first | exact rfl | omega | (dsimp only; omega) | (simp only [List.length_append, List.length_cons, List.length_nil, List.length_set]; omega) | (simp; done) | (simp; omega), Wk.mk' [(64, 64)] (by kernel_rfl) (by kernel_rfl) (by kernel_rfl)⟩
         ·replace hb35 := of_decide_eq_false (hb35)
          refine X.exit ?_
          refine X.seq ?_
          refine sk ⟨[(1, .pt 64 0 0), (58, bV (!b.f7))], [(64, some (.box (cD (d73 b))))], 848⟩ ?_
          refine if_ (b := !b.f7) (fun hb42 => ?_) (fun hb42 => ?_)
          ·replace hb42 := bnot_yes (hb42)
           refine X.seq ?_
           have el43 : (b.f8.map d121).length = b.f8.length := List.length_map ..
           refine rs 5 ?_
           rcases Bool.eq_false_or_eq_true ((((b.f8.map d121).length : Int) == 0)) with hb44 | hb44
           ·refine aT 62 hb44 ?_
            refine aT 63 hb44 ?_
            replace hb44 := eq_of_beq (hb44)
            refine go 5 ?_
            refine ek ⟨[(2, bV (b.f9.toList == (⟨#[]⟩ : ByteArray).toList))], [], 1008⟩ ?_
            refine X.ret ?_
            exact ⟨trivial, _, _, ⟨(b.f9.toList == (⟨#[]⟩ : ByteArray).toList), (by (first | have hz := all_yes (p := txOk) (upto_all hA (by omega)) | have hz := all_no (p := txOk) ‹_› ‹_› | skip); rw [Bool.eq_iff_iff]; simp only [blockOk, Bool.and_eq_true, Bool.or_eq_true, inR_iff, decide_eq_true_eq, beq_iff_eq, Bool.false_eq_true, false_iff, true_iff, List.length_map]; first | (intro h; omega) | (intro h; simp_all; done) | (simp_all; done) | (simp_all; omega) | (constructor <;> intro h <;> (first | (simp_all; done) | (simp_all; omega) | omega))), rfl, rfl⟩, mkr⟩
           ·refine aF 62 hb44 ?_
            refine aF 63 hb44 ?_
            replace hb44 := beq_eq_false_iff_ne.1 (hb44)
            refine go 5 ?_
            refine ek ⟨[(2, bV false)], [], 1008⟩ ?_
            refine X.ret ?_
            exact ⟨trivial, _, _, ⟨false, (by (first | have hz := all_yes (p := txOk) (upto_all hA (by omega)) | have hz := all_no (p := txOk) ‹_› ‹_› | skip); rw [Bool.eq_iff_iff]; simp only [blockOk, Bool.and_eq_true, Bool.or_eq_true, inR_iff, decide_eq_true_eq, beq_iff_eq, Bool.false_eq_true, false_iff, true_iff, List.length_map]; first | (intro h; omega) | (intro h; simp_all; done) | (simp_all; done) | (simp_all; omega) | (constructor <;> intro h <;> (first | (simp_all; done) | (simp_all; omega) | omega))), rfl, rfl⟩, mkr⟩
          ·replace hb42 := bnot_no (hb42)
           refine X.skip ?_
           refine X.seq (rs 2 ?_)
           obtain ⟨r45, hr47, hf46⟩ := s_SetOk b.f8 (by exact hb.2.2.2.2.1)
           replace hr47 := hr47.symm; subst hr47
           refine ca hf46 Tryz.func22 ?_
           refine go 1 ?_
           rcases Bool.eq_false_or_eq_true ((setOk b.f8)) with hb49 | hb49
           ·refine aT 70 hb49 ?_
            refine aT 71 hb49 ?_
            refine go 6 ?_
            refine ek ⟨[(2, bV ((b.f9.size : Int) == 32))], [], 1008⟩ ?_
            refine X.ret ?_
            exact ⟨trivial, _, _, ⟨((b.f9.size : Int) == 32), (by (first | have hz := all_yes (p := txOk) (upto_all hA (by omega)) | have hz := all_no (p := txOk) ‹_› ‹_› | skip); rw [Bool.eq_iff_iff]; simp only [blockOk, Bool.and_eq_true, Bool.or_eq_true, inR_iff, decide_eq_true_eq, beq_iff_eq, Bool.false_eq_true, false_iff, true_iff, List.length_map]; first | (intro h; omega) | (intro h; simp_all; done) | (simp_all; done) | (simp_all; omega) | (constructor <;> intro h <;> (first | (simp_all; done) | (simp_all; omega) | omega))), rfl, rfl⟩, mkr⟩
           ·refine aF 70 hb49 ?_
            refine aF 71 hb49 ?_
            refine go 6 ?_
            refine ek ⟨[(2, bV false)], [], 1008⟩ ?_
            refine X.ret ?_
            exact ⟨trivial, _, _, ⟨false, (by (first | have hz := all_yes (p := txOk) (upto_all hA (by omega)) | have hz := all_no (p := txOk) ‹_› ‹_› | skip); rw [Bool.eq_iff_iff]; simp only [blockOk, Bool.and_eq_true, Bool.or_eq_true, inR_iff, decide_eq_true_eq, beq_iff_eq, Bool.false_eq_true, false_iff, true_iff, List.length_map]; first | (intro h; omega) | (intro h; simp_all; done) | (simp_all; done) | (simp_all; omega) | (constructor <;> intro h <;> (first | (simp_all; done) | (simp_all; omega) | omega))), rfl, rfl⟩, mkr⟩
 obtain ⟨_, _, ⟨r0, h1_, rfl, rfl⟩, hf⟩ := key
 exact ⟨r0, h1_, hf⟩

theorem i_BlockOk (b : S73) (hb : Sm73 b) : ∃ r0 : Bool, (r0 = blockOk b) ∧ Fn Tryz.prog 89 [.e (.agg (cD (d73 b)))] (lookH []) (bV r0) (lookH []) := by
 have key : ∃ x' h', ((fun x' h' => ∃ r0 : Bool, (r0 = blockOk b) ∧ x' = bV r0 ∧ h' = [])) x' h' ∧ Fn Tryz.prog 89 [.e (.agg (cD (d73 b)))] (lookH []) x' (lookH h') := by
  refine Fn.bodyX (N := 77) hτ Tryz.func89 rfl rfl rfl rfl ?_
  refine sk ⟨[(1, .pt 64 0 0)], [(64, some (.box (cD (d73 b))))], 96⟩ ?_
  refine X.seq ?_
  refine X.seq (rs 2 ?_)
  obtain ⟨r1, hr3, hf2⟩ := i_inRange b.f0 0 100000
  replace hr3 := hr3.symm; subst hr3
  refine ca hf2 Tryz.func41 ?_
  refine go 2 ?_
  rcases Bool.eq_false_or_eq_true (!(inR b.f0 0 100000)) with hb5 | hb5
  ·refine aT 6 hb5 ?_
   refine aT 7 hb5 ?_
   replace hb5 := inR_no (bnot_yes (hb5))
   refine go 17 ?_
   refine ek ⟨[(1, .pt 64 0 0), (24, bV true)], [(64, some (.box (cD (d73 b))))], 448⟩ ?_
   refine X.ifT (by kernel_rfl) ?_
   refine sk ⟨[(2, bV false)], [], 464⟩ ?_
   refine X.ret ?_
   exact ⟨trivial, _, _, ⟨false, (by (first | have hz := all_yes (p := txOk) (upto_all hA (by omega)) | have hz := all_no (p := txOk) ‹_› ‹_› | skip); rw [Bool.eq_iff_iff]; simp only [blockOk, Bool.and_eq_true, Bool.or_eq_true, inR_iff, decide_eq_true_eq, beq_iff_eq, Bool.false_eq_true, false_iff, true_iff, List.length_map]; first | (intro h; omega) | (intro h; simp_all; done) | (simp_all; done) | (simp_all; omega) | (constructor <;> intro h <;> (first | (simp_all; done) | (simp_all; omega) | omega))), rfl, rfl⟩, mkr⟩
  ·refine aF 6 hb5 ?_
   refine aF 7 hb5 ?_
   replace hb5 := inR_yes (bnot_no (hb5))
   refine go 2 ?_
   obtain ⟨r6, hr8, hf7⟩ := i_inRange b.f1 0 900
   replace hr8 := hr8.symm; subst hr8
   refine ca hf7 Tryz.func41 ?_
   refine go 3 ?_
   rcases Bool.eq_false_or_eq_true (!(inR b.f1 0 900)) with hb10 | hb10
   ·refine aT 11 hb10 ?_
    refine aT 12 hb10 ?_
    refine aT 13 hb10 ?_
    replace hb10 := inR_no (bnot_yes (hb10))
    refine go 11 ?_
    refine ek ⟨[(1, .pt 64 0 0), (24, bV true)], [(64, some (.box (cD (d73 b))))], 448⟩ ?_
    refine X.ifT (by kernel_rfl) ?_
    refine sk ⟨[(2, bV false)], [], 464⟩ ?_
    refine X.ret ?_
    exact ⟨trivial, _, _, ⟨false, (by (first | have hz := all_yes (p := txOk) (upto_all hA (by omega)) | have hz := all_no (p := txOk) ‹_› ‹_› | skip); rw [Bool.eq_iff_iff]; simp only [blockOk, Bool.and_eq_true, Bool.or_eq_true, inR_iff, decide_eq_true_eq, beq_iff_eq, Bool.false_eq_true, false_iff, true_iff, List.length_map]; first | (intro h; omega) | (intro h; simp_all; done) | (simp_all; done) | (simp_all; omega) | (constructor <;> intro h <;> (first | (simp_all; done) | (simp_all; omega) | omega))), rfl, rfl⟩, mkr⟩
   ·refine aF 11 hb10 ?_
    refine aF 12 hb10 ?_
    refine aF 13 hb10 ?_
    replace hb10 := inR_yes (bnot_no (hb10))
    refine go 2 ?_
    obtain ⟨r11, hr13, hf12⟩ := i_inRange b.f2 1 10000
    replace hr13 := hr13.symm; subst hr13
    refine ca hf12 Tryz.func41 ?_
    refine go 3 ?_
    rcases Bool.eq_false_or_eq_true (!(inR b.f2 1 10000)) with hb15 | hb15
    ·refine aT 17 hb15 ?_
     refine aT 18 hb15 ?_
     refine aT 19 hb15 ?_
     replace hb15 := inR_no (bnot_yes (hb15))
     refine go 5 ?_
     refine ek ⟨[(1, .pt 64 0 0), (24, bV true)], [(64, some (.box (cD (d73 b))))], 448⟩ ?_
     refine X.ifT (by kernel_rfl) ?_
     refine sk ⟨[(2, bV false)], [], 464⟩ ?_
     refine X.ret ?_
     exact ⟨trivial, _, _, ⟨false, (by (first | have hz := all_yes (p := txOk) (upto_all hA (by omega)) | have hz := all_no (p := txOk) ‹_› ‹_› | skip); rw [Bool.eq_iff_iff]; simp only [blockOk, Bool.and_eq_true, Bool.or_eq_true, inR_iff, decide_eq_true_eq, beq_iff_eq, Bool.false_eq_true, false_iff, true_iff, List.length_map]; first | (intro h; omega) | (intro h; simp_all; done) | (simp_all; done) | (simp_all; omega) | (constructor <;> intro h <;> (first | (simp_all; done) | (simp_all; omega) | omega))), rfl, rfl⟩, mkr⟩
    ·refine aF 17 hb15 ?_
     refine aF 18 hb15 ?_
     refine aF 19 hb15 ?_
     replace hb15 := inR_yes (bnot_no (hb15))
     refine go 2 ?_
     obtain ⟨r16, hr18, hf17⟩ := i_NameOk b.f3 (by exact hb.1)
     replace hr18 := hr18.symm; subst hr18
     refine ca hf17 Tryz.func37 ?_
     refine go 2 ?_
     refine ek ⟨[(1, .pt 64 0 0), (24, bV (!(nameOk b.f3)))], [(64, some (.box (cD (d73 b))))], 448⟩ ?_
     refine if_ (b := !(nameOk b.f3)) (fun hb20 => ?_) (fun hb20 => ?_)
     ·replace hb20 := bnot_yes (hb20)
      refine sk ⟨[(2, bV false)], [], 464⟩ ?_
      refine X.ret ?_
      exact ⟨trivial, _, _, ⟨false, (by (first | have hz := all_yes (p := txOk) (upto_all hA (by omega)) | have hz := all_no (p := txOk) ‹_› ‹_› | skip); rw [Bool.eq_iff_iff]; simp only [blockOk, Bool.and_eq_true, Bool.or_eq_true, inR_iff, decide_eq_true_eq, beq_iff_eq, Bool.false_eq_true, false_iff, true_iff, List.length_map]; first | (intro h; omega) | (intro h; simp_all; done) | (simp_all; done) | (simp_all; omega) | (constructor <;> intro h <;> (first | (simp_all; done) | (simp_all; omega) | omega))), rfl, rfl⟩, mkr⟩
     ·replace hb20 := bnot_no (hb20)
      refine X.skip ?_
      refine X.seq ?_
      refine X.seq ?_
      have hm := hb.2.2.2.1.1
      refine rs 8 ?_
      obtain ⟨r21, hr23, hf22⟩ := i_qcForm b.f4 (wr .i64 (b.f2 - 1)) (wr .i64 (b.f0 - 1)) (by exact hb.2.1)
      replace hr23 := hr23.symm; subst hr23
      refine ca hf22 Tryz.func84 ?_
      refine go 2 ?_
      rcases Bool.eq_false_or_eq_true (!(qcForm b.f4 (wr .i64 (b.f2 - 1)) (wr .i64 (b.f0 - 1)))) with hb25 | hb25
      ·refine aT 34 hb25 ?_
       refine aT 35 hb25 ?_
       replace hb25 := bnot_yes (hb25)
       refine go 20 ?_
       refine ek ⟨[(1, .pt 64 0 0), (55, bV true)], [(64, some (.box (cD (d73 b))))], 944⟩ ?_
       refine X.ifT (by kernel_rfl) ?_
       refine sk ⟨[(2, bV false)], [], 960⟩ ?_
       refine X.ret ?_
       exact ⟨trivial, _, _, ⟨false, (by (first | have hz := all_yes (p := txOk) (upto_all hA (by omega)) | have hz := all_no (p := txOk) ‹_› ‹_› | skip); rw [Bool.eq_iff_iff]; simp only [blockOk, Bool.and_eq_true, Bool.or_eq_true, inR_iff, decide_eq_true_eq, beq_iff_eq, Bool.false_eq_true, false_iff, true_iff, List.length_map]; first | (intro h; omega) | (intro h; simp_all; done) | (simp_all; done) | (simp_all; omega) | (constructor <;> intro h <;> (first | (simp_all; done) | (simp_all; omega) | omega))), rfl, rfl⟩, mkr⟩
      ·refine aF 34 hb25 ?_
       refine aF 35 hb25 ?_
       replace hb25 := bnot_no (hb25)
       refine go 5 ?_
       obtain ⟨r26, hr28, hf27⟩ := i_tcForm b.f5 (wr .i64 (b.f2 - 1)) (by exact hb.2.2.1)
       replace hr28 := hr28.symm; subst hr28
       refine ca hf27 Tryz.func88 ?_
       refine go 3 ?_
       rcases Bool.eq_false_or_eq_true (!(tcForm b.f5 (wr .i64 (b.f2 - 1)))) with hb30 | hb30
       ·refine aT 42 hb30 ?_
        refine aT 43 hb30 ?_
        refine aT 44 hb30 ?_
        replace hb30 := bnot_yes (hb30)
        refine go 11 ?_
        refine ek ⟨[(1, .pt 64 0 0), (55, bV true)], [(64, some (.box (cD (d73 b))))], 944⟩ ?_
        refine X.ifT (by kernel_rfl) ?_
        refine sk ⟨[(2, bV false)], [], 960⟩ ?_
        refine X.ret ?_
        exact ⟨trivial, _, _, ⟨false, (by (first | have hz := all_yes (p := txOk) (upto_all hA (by omega)) | have hz := all_no (p := txOk) ‹_› ‹_› | skip); rw [Bool.eq_iff_iff]; simp only [blockOk, Bool.and_eq_true, Bool.or_eq_true, inR_iff, decide_eq_true_eq, beq_iff_eq, Bool.false_eq_true, false_iff, true_iff, List.length_map]; first | (intro h; omega) | (intro h; simp_all; done) | (simp_all; done) | (simp_all; omega) | (constructor <;> intro h <;> (first | (simp_all; done) | (simp_all; omega) | omega))), rfl, rfl⟩, mkr⟩
       ·refine aF 42 hb30 ?_
        refine aF 43 hb30 ?_
        refine aF 44 hb30 ?_
        replace hb30 := bnot_no (hb30)
        refine go 6 ?_
        have el31 : (b.f6.map d119).length = b.f6.length := List.length_map ..
        rcases Bool.eq_false_or_eq_true (decide ((((b.f6.map d119).length : Int) : Int) > 4)) with hb32 | hb32
        ·refine aT 48 hb32 ?_
         refine aT 49 hb32 ?_
         refine aT 50 hb32 ?_
         replace hb32 := of_decide_eq_true (hb32)
         refine go 5 ?_
         refine ek ⟨[(1, .pt 64 0 0), (55, bV true)], [(64, some (.box (cD (d73 b))))], 944⟩ ?_
         refine X.ifT (by kernel_rfl) ?_
         refine sk ⟨[(2, bV false)], [], 960⟩ ?_
         refine X.ret ?_
         exact ⟨trivial, _, _, ⟨false, (by (first | have hz := all_yes (p := txOk) (upto_all hA (by omega)) | have hz := all_no (p := txOk) ‹_› ‹_› | skip); rw [Bool.eq_iff_iff]; simp only [blockOk, Bool.and_eq_true, Bool.or_eq_true, inR_iff, decide_eq_true_eq, beq_iff_eq, Bool.false_eq_true, false_iff, true_iff, List.length_map]; first | (intro h; omega) | (intro h; simp_all; done) | (simp_all; done) | (simp_all; omega) | (constructor <;> intro h <;> (first | (simp_all; done) | (simp_all; omega) | omega))), rfl, rfl⟩, mkr⟩
        ·refine aF 48 hb32 ?_
         refine aF 49 hb32 ?_
         refine aF 50 hb32 ?_
         replace hb32 := of_decide_eq_false (hb32)
         refine go 2 ?_
         obtain ⟨r33, hr35, hf34⟩ := i_txsOk b.f6 (by exact hb.2.2.2.1)
         replace hr35 := hr35.symm; subst hr35
         refine ca hf34 Tryz.func116 ?_
         refine go 2 ?_
         refine ek ⟨[(1, .pt 64 0 0), (55, bV (!(b.f6.all txOk)))], [(64, some (.box (cD (d73 b))))], 944⟩ ?_
         refine if_ (b := !(b.f6.all txOk)) (fun hb37 => ?_) (fun hb37 => ?_)
         ·replace hb37 := bnot_yes (hb37)
          refine sk ⟨[(2, bV false)], [], 960⟩ ?_
          refine X.ret ?_
          exact ⟨trivial, _, _, ⟨false, (by (first | have hz := all_yes (p := txOk) (upto_all hA (by omega)) | have hz := all_no (p := txOk) ‹_› ‹_› | skip); rw [Bool.eq_iff_iff]; simp only [blockOk, Bool.and_eq_true, Bool.or_eq_true, inR_iff, decide_eq_true_eq, beq_iff_eq, Bool.false_eq_true, false_iff, true_iff, List.length_map]; first | (intro h; omega) | (intro h; simp_all; done) | (simp_all; done) | (simp_all; omega) | (constructor <;> intro h <;> (first | (simp_all; done) | (simp_all; omega) | omega))), rfl, rfl⟩, mkr⟩
         ·replace hb37 := bnot_no (hb37)
          refine X.skip ?_
          refine X.seq ?_
          refine sk ⟨[(1, .pt 64 0 0), (58, bV (!b.f7))], [(64, some (.box (cD (d73 b))))], 992⟩ ?_
          refine if_ (b := !b.f7) (fun hb38 => ?_) (fun hb38 => ?_)
          ·replace hb38 := bnot_yes (hb38)
           refine X.seq ?_
           have el39 : (b.f8.map d121).length = b.f8.length := List.length_map ..
           refine rs 5 ?_
           rcases Bool.eq_false_or_eq_true ((((b.f8.map d121).length : Int) == 0)) with hb40 | hb40
           ·refine aT 62 hb40 ?_
            refine aT 63 hb40 ?_
            replace hb40 := eq_of_beq (hb40)
            refine go 5 ?_
            refine ek ⟨[(2, bV (b.f9.toList == (⟨#[]⟩ : ByteArray).toList))], [], 1152⟩ ?_
            refine X.ret ?_
            exact ⟨trivial, _, _, ⟨(b.f9.toList == (⟨#[]⟩ : ByteArray).toList), (by (first | have hz := all_yes (p := txOk) (upto_all hA (by omega)) | have hz := all_no (p := txOk) ‹_› ‹_› | skip); rw [Bool.eq_iff_iff]; simp only [blockOk, Bool.and_eq_true, Bool.or_eq_true, inR_iff, decide_eq_true_eq, beq_iff_eq, Bool.false_eq_true, false_iff, true_iff, List.length_map]; first | (intro h; omega) | (intro h; simp_all; done) | (simp_all; done) | (simp_all; omega) | (constructor <;> intro h <;> (first | (simp_all; done) | (simp_all; omega) | omega))), rfl, rfl⟩, mkr⟩
           ·refine aF 62 hb40 ?_
            refine aF 63 hb40 ?_
            replace hb40 := beq_eq_false_iff_ne.1 (hb40)
            refine go 5 ?_
            refine ek ⟨[(2, bV false)], [], 1152⟩ ?_
            refine X.ret ?_
            exact ⟨trivial, _, _, ⟨false, (by (first | have hz := all_yes (p := txOk) (upto_all hA (by omega)) | have hz := all_no (p := txOk) ‹_› ‹_› | skip); rw [Bool.eq_iff_iff]; simp only [blockOk, Bool.and_eq_true, Bool.or_eq_true, inR_iff, decide_eq_true_eq, beq_iff_eq, Bool.false_eq_true, false_iff, true_iff, List.length_map]; first | (intro h; omega) | (intro h; simp_all; done) | (simp_all; done) | (simp_all; omega) | (constructor <;> intro h <;> (first | (simp_all; done) | (simp_all; omega) | omega))), rfl, rfl⟩, mkr⟩
          ·replace hb38 := bnot_no (hb38)
           refine X.skip ?_
           refine X.seq (rs 2 ?_)
           obtain ⟨r41, hr43, hf42⟩ := i_SetOk b.f8 (by exact hb.2.2.2.2.1)
           replace hr43 := hr43.symm; subst hr43
           refine ca hf42 Tryz.func39 ?_
           refine go 1 ?_
           rcases Bool.eq_false_or_eq_true ((setOk b.f8)) with hb45 | hb45
           ·refine aT 70 hb45 ?_
            refine aT 71 hb45 ?_
            refine go 6 ?_
            refine ek ⟨[(2, bV ((b.f9.size : Int) == 32))], [], 1152⟩ ?_
            refine X.ret ?_
            exact ⟨trivial, _, _, ⟨((b.f9.size : Int) == 32), (by (first | have hz := all_yes (p := txOk) (upto_all hA (by omega)) | have hz := all_no (p := txOk) ‹_› ‹_› | skip); rw [Bool.eq_iff_iff]; simp only [blockOk, Bool.and_eq_true, Bool.or_eq_true, inR_iff, decide_eq_true_eq, beq_iff_eq, Bool.false_eq_true, false_iff, true_iff, List.length_map]; first | (intro h; omega) | (intro h; simp_all; done) | (simp_all; done) | (simp_all; omega) | (constructor <;> intro h <;> (first | (simp_all; done) | (simp_all; omega) | omega))), rfl, rfl⟩, mkr⟩
           ·refine aF 70 hb45 ?_
            refine aF 71 hb45 ?_
            refine go 6 ?_
            refine ek ⟨[(2, bV false)], [], 1152⟩ ?_
            refine X.ret ?_
            exact ⟨trivial, _, _, ⟨false, (by (first | have hz := all_yes (p := txOk) (upto_all hA (by omega)) | have hz := all_no (p := txOk) ‹_› ‹_› | skip); rw [Bool.eq_iff_iff]; simp only [blockOk, Bool.and_eq_true, Bool.or_eq_true, inR_iff, decide_eq_true_eq, beq_iff_eq, Bool.false_eq_true, false_iff, true_iff, List.length_map]; first | (intro h; omega) | (intro h; simp_all; done) | (simp_all; done) | (simp_all; omega) | (constructor <;> intro h <;> (first | (simp_all; done) | (simp_all; omega) | omega))), rfl, rfl⟩, mkr⟩
 obtain ⟨_, _, ⟨r0, h1_, rfl, rfl⟩, hf⟩ := key
 exact ⟨r0, h1_, hf⟩

theorem s_TreeOk (l : List S73) (hl : SmL l) : ∃ r0 : Bool, (r0 = treeOk l) ∧ Fn Tryz.prog 23 [lV (l.map d73)] (lookH []) (bV r0) (lookH []) := by
 have key : ∃ x' h', ((fun x' h' => ∃ r0 : Bool, (r0 = treeOk l) ∧ x' = bV r0 ∧ h' = [])) x' h' ∧ Fn Tryz.prog 23 [lV (l.map d73)] (lookH []) x' (lookH h') := by
  refine Fn.bodyX (N := 70) hτ Tryz.func23 rfl rfl rfl rfl ?_
  refine sk ⟨[(0, lV (l.map d73))], [], 80⟩ ?_
  refine X.seq ?_
  refine sk ⟨[(0, lV (l.map d73)), (3, iV 0)], [], 96⟩ ?_
  refine X.block ?_
  -- 2: v3 : Int
  refine X.loop (σ := { g : Int // (fun (v3 : Int) => 0 ≤ v3 ∧ v3 ≤ l.length ∧ Upto (treeR l) (fun n => l[n]?) v3) g }) (fun g => (fun (v3 : Int) => ⟨[(0, lV (l.map d73)), (3, iV v3)], [], 96⟩) g.1) (fun g => (fun (v3 : Int) => (l.length - v3).toNat) g.1) ⟨0, ⟨by first | omega | (dsimp only; omega), by first | omega | (dsimp only; omega), upto_zero⟩⟩ (Wk.less (by kernel_rfl)) (fun g => ?_)
  obtain ⟨v3, hg2⟩ := g
  have hg2 : 0 ≤ v3 ∧ v3 ≤ l.length ∧ Upto (treeR l) (fun n => l[n]?) v3 := hg2
  obtain ⟨_, _, hA⟩ := hg2
  refine X.seq ?_
  refine X.seq ?_
  have hm := hl.1
  have el3 : (l.map d73).length = l.length := List.length_map ..
  refine rk ⟨[(0, lV (l.map d73)), (3, iV v3), (9, bV (decide ((v3 : Int) < ((l.map d73).length : Int))))], [], 160⟩ ?_
  refine if_ (b := decide ((v3 : Int) < ((l.map d73).length : Int))) (fun hb4 => ?_) (fun hb4 => ?_)
  ·replace hb4 := of_decide_eq_true (hb4)
   refine X.skip ?_
   refine X.seq ?_
   refine X.block ?_
   refine X.seq (rs 2 ?_)
   obtain ⟨x5, hx5⟩ : ∃ x, l[Int.toNat v3]? = some x := ⟨_, List.getElem?_eq_getElem (by first | omega | (simp; done) | (simp; omega))⟩
   refine CH.idx hτ (d73 x5) (rows := (l.map d73)) (n := v3) (sz := 14) (by kernel_rfl) (by kernel_rfl) (by first | omega | (simp; done) | (simp; omega)) (by rw [List.getElem?_map, hx5]; rfl) (by kernel_rfl) ?_
   refine go 3 ?_
   refine ek ⟨[(0, lV (l.map d73)), (3, iV v3), (4, .pt 224 0 0)], [(224, some (.box (cD (d73 x5))))], 256⟩ ?_
   refine X.seq ?_
   refine X.seq (rs 1 ?_)
   obtain ⟨r6, hr8, hf7⟩ := s_BlockOk x5 (by exact hl.at ‹_›)
   replace hr8 := hr8.symm; subst hr8
   refine ca hf7 Tryz.func66 ?_
   refine go 2 ?_
   rcases Bool.eq_false_or_eq_true (!(blockOk x5)) with hb10 | hb10
   ·refine aT 18 hb10 ?_
    refine aT 19 hb10 ?_
    replace hb10 := bnot_yes (hb10)
    refine go 23 ?_
    refine ek ⟨[(0, lV (l.map d73)), (3, iV v3), (4, .pt 224 0 0), (42, bV true)], [(224, some (.box (cD (d73 x5))))], 688⟩ ?_
    refine X.ifT (by kernel_rfl) ?_
    refine sk ⟨[(2, bV false)], [], 704⟩ ?_
    refine X.ret ?_
    exact ⟨trivial, _, _, ⟨false, (by first | exact (fls (fun h => upto_no (by omega) (by omega) ‹_› (fun hr => by first | exact tf hr.1 ‹_› | exact absurd (hr.2.1 _ ‹_›) ‹_› | (have := hr.2.2.1 _ (by omega) ‹_›; omega)) h.1)) | exact (fls (fun h => tk_no1 h (by omega) ‹_› ‹_› ‹_›)) | exact (fls (fun h => tk_no2 h (by omega) ‹_› ‹_› ‹_› ‹_› ‹_›)) | exact (dcd (by simp only [decide_eq_true_eq, List.length_map]; exact ⟨fun h => ⟨upto_all hA (by omega), by omega⟩, fun h => by have := h.2; omega⟩))), rfl, rfl⟩, mkr⟩
   ·refine aF 18 hb10 ?_
    refine aF 19 hb10 ?_
    replace hb10 := bnot_no (hb10)
    refine go 3 ?_
    obtain ⟨x11, hx11⟩ : ∃ x, l[Int.toNat 0]? = some x := ⟨_, List.getElem?_eq_getElem (by first | omega | (simp; done) | (simp; omega))⟩
    refine CH.idx hτ (d73 x11) (rows := (l.map d73)) (n := 0) (sz := 14) (by kernel_rfl) (by kernel_rfl) (by first | omega | (simp; done) | (simp; omega)) (by rw [List.getElem?_map, hx11]; rfl) (by kernel_rfl) ?_
    refine go 5 ?_
    rcases Bool.eq_false_or_eq_true ((x5.f1 != x11.f1)) with hb12 | hb12
    ·refine aT 26 hb12 ?_
     refine aT 27 hb12 ?_
     refine aT 28 hb12 ?_
     replace hb12 := bne_iff_ne.1 (hb12)
     refine go 14 ?_
     refine ek ⟨[(0, lV (l.map d73)), (3, iV v3), (4, .pt 224 0 0), (42, bV true)], [(224, some (.box (cD (d73 x5))))], 688⟩ ?_
     refine X.ifT (by kernel_rfl) ?_
     refine sk ⟨[(2, bV false)], [], 704⟩ ?_
     refine X.ret ?_
     exact ⟨trivial, _, _, ⟨false, (by first | exact (fls (fun h => upto_no (by omega) (by omega) ‹_› (fun hr => by first | exact tf hr.1 ‹_› | exact absurd (hr.2.1 _ ‹_›) ‹_› | (have := hr.2.2.1 _ (by omega) ‹_›; omega)) h.1)) | exact (fls (fun h => tk_no1 h (by omega) ‹_› ‹_› ‹_›)) | exact (fls (fun h => tk_no2 h (by omega) ‹_› ‹_› ‹_› ‹_› ‹_›)) | exact (dcd (by simp only [decide_eq_true_eq, List.length_map]; exact ⟨fun h => ⟨upto_all hA (by omega), by omega⟩, fun h => by have := h.2; omega⟩))), rfl, rfl⟩, mkr⟩
    ·refine aF 26 hb12 ?_
     refine aF 27 hb12 ?_
     refine aF 28 hb12 ?_
     replace hb12 := bne_eq_false_iff_eq.1 (hb12)
     refine go 3 ?_
     rcases Bool.eq_false_or_eq_true (decide ((v3 : Int) > 0)) with hb13 | hb13
     ·refine aT 30 hb13 ?_
      refine aT 31 hb13 ?_
      replace hb13 := of_decide_eq_true (hb13)
      refine go 3 ?_
      obtain ⟨x14, hx14⟩ : ∃ x, l[Int.toNat (v3 - 1)]? = some x := ⟨_, List.getElem?_eq_getElem (by first | omega | (simp; done) | (simp; omega))⟩
      refine CH.alt 34 (sV (.int .i64 (wrap64 (v3 - 1)))) (sV (.int .i64 ((v3 - 1)))) (by kernel_rfl) (by rw [w64 (n := (v3 - 1)) (by omega) (by omega)]) ?_
      refine CH.idx hτ (d73 x14) (rows := (l.map d73)) (n := (v3 - 1)) (sz := 14) (by kernel_rfl) (by kernel_rfl) (by first | omega | (simp; done) | (simp; omega)) (by rw [List.getElem?_map, hx14]; rfl) (by kernel_rfl) ?_
      refine go 7 ?_
      refine ek ⟨[(0, lV (l.map d73)), (3, iV v3), (4, .pt 224 0 0), (42, bV (decide ((x14.f0 : Int) ≥ x5.f0)))], [(224, some (.box (cD (d73 x5))))], 688⟩ ?_
      refine if_ (b := decide ((x14.f0 : Int) ≥ x5.f0)) (fun hb15 => ?_) (fun hb15 => ?_)
      ·replace hb15 := of_decide_eq_true (hb15)
       refine sk ⟨[(2, bV false)], [], 704⟩ ?_
       refine X.ret ?_
       exact ⟨trivial, _, _, ⟨false, (by first | exact (fls (fun h => upto_no (by omega) (by omega) ‹_› (fun hr => by first | exact tf hr.1 ‹_› | exact absurd (hr.2.1 _ ‹_›) ‹_› | (have := hr.2.2.1 _ (by omega) ‹_›; omega)) h.1)) | exact (fls (fun h => tk_no1 h (by omega) ‹_› ‹_› ‹_›)) | exact (fls (fun h => tk_no2 h (by omega) ‹_› ‹_› ‹_› ‹_› ‹_›)) | exact (dcd (by simp only [decide_eq_true_eq, List.length_map]; exact ⟨fun h => ⟨upto_all hA (by omega), by omega⟩, fun h => by have := h.2; omega⟩))), rfl, rfl⟩, mkr⟩
      ·replace hb15 := of_decide_eq_false (hb15)
       refine X.skip ?_
       refine X.seq (rs 2 ?_)
       obtain ⟨r16, hr18, hf17⟩ := s_l8Root x5.f4
       replace hr18 := hr18.symm; subst hr18
       refine ca hf17 Tryz.func67 ?_
       refine go 1 ?_
       refine ek ⟨[(0, lV (l.map d73)), (3, iV v3), (4, .pt 224 0 0), (46, bV (!(rootQ x5.f4)))], [(224, some (.box (cD (d73 x5))))], 752⟩ ?_
       refine if_ (b := !(rootQ x5.f4)) (fun hb20 => ?_) (fun hb20 => ?_)
       ·replace hb20 := bnot_yes (hb20)
        refine X.seq (rs 2 ?_)
        refine CH.cut hτ (cc := .d (.sl (l.map d73))) (rows := (l.map d73)) (sz := 14) (l := 0) (h := v3) (by kernel_rfl) (by kernel_rfl) (by first | omega | (simp; done) | (simp; omega)) (by first | omega | (simp; done) | (simp; omega)) (by first | omega | (simp only [List.length_map]; omega)) (flat_ok (f := d73) (fun x => rfl)) ?_
        refine CH.alt 49 (.e (.c (.d (.sl (((l.map d73).drop (Int.toNat 0)).take (Int.toNat v3 - Int.toNat 0)))))) (.e (.c (.d (.sl (((l.drop (Int.toNat 0)).take (Int.toNat v3 - Int.toNat 0)).map d73))))) (by kernel_rfl) (by rw [List.map_take, List.map_drop]) ?_
        refine go 3 ?_
        obtain ⟨r21, hr23, hf22⟩ := s_l10At ((l.drop (Int.toNat 0)).take (Int.toNat v3 - Int.toNat 0)) x5.f4.f1 (by first | (simp only [List.length_take, List.length_drop]; omega) | (simp; omega))
        replace hr23 := hr23.symm; subst hr23
        have hid := idAt_bd ((l.drop (Int.toNat 0)).take (Int.toNat v3 - Int.toNat 0)) x5.f4.f1
        have hid2 := hid
        simp only [List.length_take, List.length_drop] at hid2
        refine ca hf22 Tryz.func68 ?_
        refine go 1 ?_
        refine ek ⟨[(0, lV (l.map d73)), (3, iV v3), (4, .pt 224 0 0), (5, iV (idAt ((l.drop (Int.toNat 0)).take (Int.toNat v3 - Int.toNat 0)) x5.f4.f1))], [(224, some (.box (cD (d73 x5))))], 880⟩ ?_
        refine X.seq (rs 3 ?_)
        rcases Bool.eq_false_or_eq_true (decide (((idAt ((l.drop (Int.toNat 0)).take (Int.toNat v3 - Int.toNat 0)) x5.f4.f1) : Int) < 0)) with hb25 | hb25
        ·refine aT 55 hb25 ?_
         refine aT 56 hb25 ?_
         replace hb25 := of_decide_eq_true (hb25)
         refine go 10 ?_
         refine ek ⟨[(0, lV (l.map d73)), (3, iV v3), (66, bV true)], [], 1088⟩ ?_
         refine X.ifT (by kernel_rfl) ?_
         refine sk ⟨[(2, bV false)], [], 1104⟩ ?_
         refine X.ret ?_
         exact ⟨trivial, _, _, ⟨false, (by first | exact (fls (fun h => upto_no (by omega) (by omega) ‹_› (fun hr => by first | exact tf hr.1 ‹_› | exact absurd (hr.2.1 _ ‹_›) ‹_› | (have := hr.2.2.1 _ (by omega) ‹_›; omega)) h.1)) | exact (fls (fun h => tk_no1 h (by omega) ‹_› ‹_› ‹_›)) | exact (fls (fun h => tk_no2 h (by omega) ‹_› ‹_› ‹_› ‹_› ‹_›)) | exact (dcd (by simp only [decide_eq_true_eq, List.length_map]; exact ⟨fun h => ⟨upto_all hA (by omega), by omega⟩, fun h => by have := h.2; omega⟩))), rfl, rfl⟩, mkr⟩
        ·refine aF 55 hb25 ?_
         refine aF 56 hb25 ?_
         replace hb25 := of_decide_eq_false (hb25)
         refine go 2 ?_
         obtain ⟨x26, hx26⟩ : ∃ x, l[Int.toNat (idAt ((l.drop (Int.toNat 0)).take (Int.toNat v3 - Int.toNat 0)) x5.f4.f1)]? = some x := ⟨_, List.getElem?_eq_getElem (by first | omega | (simp; done) | (simp; omega))⟩
         refine CH.idx hτ (d73 x26) (rows := (l.map d73)) (n := (idAt ((l.drop (Int.toNat 0)).take (Int.toNat v3 - Int.toNat 0)) x5.f4.f1)) (sz := 14) (by kernel_rfl) (by kernel_rfl) (by first | omega | (simp; done) | (simp; omega)) (by rw [List.getElem?_map, hx26]; rfl) (by kernel_rfl) ?_
         refine go 7 ?_
         refine ek ⟨[(0, lV (l.map d73)), (3, iV v3), (66, bV (x26.f2 != x5.f4.f0))], [], 1088⟩ ?_
         refine if_ (b := (x26.f2 != x5.f4.f0)) (fun hb27 => ?_) (fun hb27 => ?_)
         ·replace hb27 := bne_iff_ne.1 (hb27)
          refine sk ⟨[(2, bV false)], [], 1104⟩ ?_
          refine X.ret ?_
          exact ⟨trivial, _, _, ⟨false, (by first | exact (fls (fun h => upto_no (by omega) (by omega) ‹_› (fun hr => by first | exact tf hr.1 ‹_› | exact absurd (hr.2.1 _ ‹_›) ‹_› | (have := hr.2.2.1 _ (by omega) ‹_›; omega)) h.1)) | exact (fls (fun h => tk_no1 h (by omega) ‹_› ‹_› ‹_›)) | exact (fls (fun h => tk_no2 h (by omega) ‹_› ‹_› ‹_› ‹_› ‹_›)) | exact (dcd (by simp only [decide_eq_true_eq, List.length_map]; exact ⟨fun h => ⟨upto_all hA (by omega), by omega⟩, fun h => by have := h.2; omega⟩))), rfl, rfl⟩, mkr⟩
         ·replace hb27 := bne_eq_false_iff_eq.1 (hb27)
          refine X.skip ?_
          refine X.rk ⟨[(0, lV (l.map d73)), (3, iV (wrap64 (v3 + 1)))], [], 1136⟩ hτ hmix (by kernel_rfl) (by kernel_rfl) (s2 := ⟨[(0, lV (l.map d73)), (3, iV (v3 + 1))], [], 1136⟩) (congrArg (fun z : Int => (⟨[(0, lV (l.map d73)), (3, iV z)], [], 1136⟩ : St)) (show wrap64 (v3 + 1) = (v3 + 1) by rw [w64 (n := (v3 + 1)) (by omega) (by omega)])) ?_
          refine ⟨⟨(v3 + 1), ⟨by first | omega | (dsimp only; omega), by first | omega | (dsimp only; omega), upto_nx (by first | omega | (dsimp only; omega)) hA ‹_› (⟨‹_›, at_fn ‹_› ‹_›, (by first | exact fun y h0 hy => absurd h0 (by first | omega | (dsimp only; omega)) | exact prev_fn ‹_› (by first | omega | (dsimp only; omega))), (by first | exact .inl ‹_› | exact .inr ⟨_, tk_find ‹_› ‹_›, ‹_›⟩)⟩)⟩⟩, by first | exact rfl | omega | (dsimp only; omega) | (simp only [List.length_append, List.length_cons, List.length_nil, List.length_set]; omega) | (simp; done) | (simp; omega), Wk.mk' [] (by kernel_rfl) (by kernel_rfl) (by kernel_rfl)⟩
       ·replace hb20 := bnot_no (hb20)
        refine X.skip ?_
        refine X.rk ⟨[(0, lV (l.map d73)), (3, iV (wrap64 (v3 + 1)))], [], 800⟩ hτ hmix (by kernel_rfl) (by kernel_rfl) (s2 := ⟨[(0, lV (l.map d73)), (3, iV (v3 + 1))], [], 800⟩) (congrArg (fun z : Int => (⟨[(0, lV (l.map d73)), (3, iV z)], [], 800⟩ : St)) (show wrap64 (v3 + 1) = (v3 + 1) by rw [w64 (n := (v3 + 1)) (by omega) (by omega)])) ?_
        refine ⟨⟨(v3 + 1), ⟨by first | omega | (dsimp only; omega), by first | omega | (dsimp only; omega), upto_nx (by first | omega | (dsimp only; omega)) hA ‹_› (⟨‹_›, at_fn ‹_› ‹_›, (by first | exact fun y h0 hy => absurd h0 (by first | omega | (dsimp only; omega)) | exact prev_fn ‹_› (by first | omega | (dsimp only; omega))), (by first | exact .inl ‹_› | exact .inr ⟨_, tk_find ‹_› ‹_›, ‹_›⟩)⟩)⟩⟩, by first | exact rfl | omega | (dsimp only; omega) | (simp only [List.length_append, List.length_cons, List.length_nil, List.length_set]; omega) | (simp; done) | (simp; omega), Wk.mk' [] (by kernel_rfl) (by kernel_rfl) (by kernel_rfl)⟩
     ·refine aF 30 hb13 ?_
      refine aF 31 hb13 ?_
      replace hb13 := of_decide_eq_false (hb13)
      refine go 11 ?_
      refine ek ⟨[(0, lV (l.map d73)), (3, iV v3), (4, .pt 224 0 0), (42, bV false)], [(224, some (.box (cD (d73 x5))))], 688⟩ ?_
      refine X.ifF (by kernel_rfl) ?_
      refine X.skip ?_
      refine X.seq (rs 2 ?_)
      obtain ⟨r28, hr30, hf29⟩ := s_l8Root x5.f4
      replace hr30 := hr30.symm; subst hr30
      refine ca hf29 Tryz.func67 ?_
      refine go 1 ?_
      refine ek ⟨[(0, lV (l.map d73)), (3, iV v3), (4, .pt 224 0 0), (46, bV (!(rootQ x5.f4)))], [(224, some (.box (cD (d73 x5))))], 752⟩ ?_
      refine if_ (b := !(rootQ x5.f4)) (fun hb32 => ?_) (fun hb32 => ?_)
      ·replace hb32 := bnot_yes (hb32)
       refine X.seq (rs 2 ?_)
       refine CH.cut hτ (cc := .d (.sl (l.map d73))) (rows := (l.map d73)) (sz := 14) (l := 0) (h := v3) (by kernel_rfl) (by kernel_rfl) (by first | omega | (simp; done) | (simp; omega)) (by first | omega | (simp; done) | (simp; omega)) (by first | omega | (simp only [List.length_map]; omega)) (flat_ok (f := d73) (fun x => rfl)) ?_
       refine CH.alt 49 (.e (.c (.d (.sl (((l.map d73).drop (Int.toNat 0)).take (Int.toNat v3 - Int.toNat 0)))))) (.e (.c (.d (.sl (((l.drop (Int.toNat 0)).take (Int.toNat v3 - Int.toNat 0)).map d73))))) (by kernel_rfl) (by rw [List.map_take, List.map_drop]) ?_
       refine go 3 ?_
       obtain ⟨r33, hr35, hf34⟩ := s_l10At ((l.drop (Int.toNat 0)).take (Int.toNat v3 - Int.toNat 0)) x5.f4.f1 (by first | (simp only [List.length_take, List.length_drop]; omega) | (simp; omega))
       replace hr35 := hr35.symm; subst hr35
       have hid := idAt_bd ((l.drop (Int.toNat 0)).take (Int.toNat v3 - Int.toNat 0)) x5.f4.f1
       have hid2 := hid
       simp only [List.length_take, List.length_drop] at hid2
       refine ca hf34 Tryz.func68 ?_
       refine go 1 ?_
       refine ek ⟨[(0, lV (l.map d73)), (3, iV v3), (4, .pt 224 0 0), (5, iV (idAt ((l.drop (Int.toNat 0)).take (Int.toNat v3 - Int.toNat 0)) x5.f4.f1))], [(224, some (.box (cD (d73 x5))))], 880⟩ ?_
       refine X.seq (rs 3 ?_)
       rcases Bool.eq_false_or_eq_true (decide (((idAt ((l.drop (Int.toNat 0)).take (Int.toNat v3 - Int.toNat 0)) x5.f4.f1) : Int) < 0)) with hb37 | hb37
       ·refine aT 55 hb37 ?_
        refine aT 56 hb37 ?_
        replace hb37 := of_decide_eq_true (hb37)
        refine go 10 ?_
        refine ek ⟨[(0, lV (l.map d73)), (3, iV v3), (66, bV true)], [], 1088⟩ ?_
        refine X.ifT (by kernel_rfl) ?_
        refine sk ⟨[(2, bV false)], [], 1104⟩ ?_
        refine X.ret ?_
        exact ⟨trivial, _, _, ⟨false, (by first | exact (fls (fun h => upto_no (by omega) (by omega) ‹_› (fun hr => by first | exact tf hr.1 ‹_› | exact absurd (hr.2.1 _ ‹_›) ‹_› | (have := hr.2.2.1 _ (by omega) ‹_›; omega)) h.1)) | exact (fls (fun h => tk_no1 h (by omega) ‹_› ‹_› ‹_›)) | exact (fls (fun h => tk_no2 h (by omega) ‹_› ‹_› ‹_› ‹_› ‹_›)) | exact (dcd (by simp only [decide_eq_true_eq, List.length_map]; exact ⟨fun h => ⟨upto_all hA (by omega), by omega⟩, fun h => by have := h.2; omega⟩))), rfl, rfl⟩, mkr⟩
       ·refine aF 55 hb37 ?_
        refine aF 56 hb37 ?_
        replace hb37 := of_decide_eq_false (hb37)
        refine go 2 ?_
        obtain ⟨x38, hx38⟩ : ∃ x, l[Int.toNat (idAt ((l.drop (Int.toNat 0)).take (Int.toNat v3 - Int.toNat 0)) x5.f4.f1)]? = some x := ⟨_, List.getElem?_eq_getElem (by first | omega | (simp; done) | (simp; omega))⟩
        refine CH.idx hτ (d73 x38) (rows := (l.map d73)) (n := (idAt ((l.drop (Int.toNat 0)).take (Int.toNat v3 - Int.toNat 0)) x5.f4.f1)) (sz := 14) (by kernel_rfl) (by kernel_rfl) (by first | omega | (simp; done) | (simp; omega)) (by rw [List.getElem?_map, hx38]; rfl) (by kernel_rfl) ?_
        refine go 7 ?_
        refine ek ⟨[(0, lV (l.map d73)), (3, iV v3), (66, bV (x38.f2 != x5.f4.f0))], [], 1088⟩ ?_
        refine if_ (b := (x38.f2 != x5.f4.f0)) (fun hb39 => ?_) (fun hb39 => ?_)
        ·replace hb39 := bne_iff_ne.1 (hb39)
         refine sk ⟨[(2, bV false)], [], 1104⟩ ?_
         refine X.ret ?_
         exact ⟨trivial, _, _, ⟨false, (by first | exact (fls (fun h => upto_no (by omega) (by omega) ‹_› (fun hr => by first | exact tf hr.1 ‹_› | exact absurd (hr.2.1 _ ‹_›) ‹_› | (have := hr.2.2.1 _ (by omega) ‹_›; omega)) h.1)) | exact (fls (fun h => tk_no1 h (by omega) ‹_› ‹_› ‹_›)) | exact (fls (fun h => tk_no2 h (by omega) ‹_› ‹_› ‹_› ‹_› ‹_›)) | exact (dcd (by simp only [decide_eq_true_eq, List.length_map]; exact ⟨fun h => ⟨upto_all hA (by omega), by omega⟩, fun h => by have := h.2; omega⟩))), rfl, rfl⟩, mkr⟩
        ·replace hb39 := bne_eq_false_iff_eq.1 (hb39)
         refine X.skip ?_
         refine X.rk ⟨[(0, lV (l.map d73)), (3, iV (wrap64 (v3 + 1)))], [], 1136⟩ hτ hmix (by kernel_rfl) (by kernel_rfl) (s2 := ⟨[(0, lV (l.map d73)), (3, iV (v3 + 1))], [], 1136⟩) (congrArg (fun z : Int => (⟨[(0, lV (l.map d73)), (3, iV z)], [], 1136⟩ : St)) (show wrap64 (v3 + 1) = (v3 + 1) by rw [w64 (n := (v3 + 1)) (by omega) (by omega)])) ?_
         refine ⟨⟨(v3 + 1), ⟨by first | omega | (dsimp only; omega), by first | omega | (dsimp only; omega), upto_nx (by first | omega | (dsimp only; omega)) hA ‹_› (⟨‹_›, at_fn ‹_› ‹_›, (by first | exact fun y h0 hy => absurd h0 (by first | omega | (dsimp only; omega)) | exact prev_fn ‹_› (by first | omega | (dsimp only; omega))), (by first | exact .inl ‹_› | exact .inr ⟨_, tk_find ‹_› ‹_›, ‹_›⟩)⟩)⟩⟩, by first | exact rfl | omega | (dsimp only; omega) | (simp only [List.length_append, List.length_cons, List.length_nil, List.length_set]; omega) | (simp; done) | (simp; omega), Wk.mk' [] (by kernel_rfl) (by kernel_rfl) (by kernel_rfl)⟩
      ·replace hb32 := bnot_no (hb32)
       refine X.skip ?_
       refine X.rk ⟨[(0, lV (l.map d73)), (3, iV (wrap64 (v3 + 1)))], [], 800⟩ hτ hmix (by kernel_rfl) (by kernel_rfl) (s2 := ⟨[(0, lV (l.map d73)), (3, iV (v3 + 1))], [], 800⟩) (congrArg (fun z : Int => (⟨[(0, lV (l.map d73)), (3, iV z)], [], 800⟩ : St)) (show wrap64 (v3 + 1) = (v3 + 1) by rw [w64 (n := (v3 + 1)) (by omega) (by omega)])) ?_
       refine ⟨⟨(v3 + 1), ⟨by first | omega | (dsimp only; omega), by first | omega | (dsimp only; omega), upto_nx (by first | omega | (dsimp only; omega)) hA ‹_› (⟨‹_›, at_fn ‹_› ‹_›, (by first | exact fun y h0 hy => absurd h0 (by first | omega | (dsimp only; omega)) | exact prev_fn ‹_› (by first | omega | (dsimp only; omega))), (by first | exact .inl ‹_› | exact .inr ⟨_, tk_find ‹_› ‹_›, ‹_›⟩)⟩)⟩⟩, by first | exact rfl | omega | (dsimp only; omega) | (simp only [List.length_append, List.length_cons, List.length_nil, List.length_set]; omega) | (simp; done) | (simp; omega), Wk.mk' [] (by kernel_rfl) (by kernel_rfl) (by kernel_rfl)⟩
  ·replace hb4 := of_decide_eq_false (hb4)
   refine X.exit ?_
   refine sk ⟨[(2, bV (decide ((((l.map d73).length : Int) : Int) ≤ 400)))], [], 224⟩ ?_
   refine X.ret ?_
   exact ⟨trivial, _, _, ⟨decide ((((l.map d73).length : Int) : Int) ≤ 400), (by first | exact (fls (fun h => upto_no (by omega) (by omega) ‹_› (fun hr => by first | exact tf hr.1 ‹_› | exact absurd (hr.2.1 _ ‹_›) ‹_› | (have := hr.2.2.1 _ (by omega) ‹_›; omega)) h.1)) | exact (fls (fun h => tk_no1 h (by omega) ‹_› ‹_› ‹_›)) | exact (fls (fun h => tk_no2 h (by omega) ‹_› ‹_› ‹_› ‹_› ‹_›)) | exact (dcd (by simp only [decide_eq_true_eq, List.length_map]; exact ⟨fun h => ⟨upto_all hA (by omega), by omega⟩, fun h => by have := h.2; omega⟩))), rfl, rfl⟩, mkr⟩
 obtain ⟨_, _, ⟨r0, h1_, rfl, rfl⟩, hf⟩ := key
 exact ⟨r0, h1_, hf⟩
end Go.Proofs.YtpegmlbbeookbaaGreat.Av
