/-
What functions of the program come to, walked one by one.
Conditions: none beside those that each theorem names.
-/
import Derived.Test.YtggmeldoecnkaaaAvC
set_option linter.unusedVariables false
set_option linter.unusedSimpArgs false
namespace Go.Proofs.Ytggmeldoecnkaaa.Av
open Go.RowKit
set_option maxRecDepth 20000
set_option maxHeartbeats 4000000

theorem i_TreeOk (l : List S72) (hl : SmL l) : ∃ r0 : Bool, (r0 = treeOk l) ∧ Fn Try.prog 74 [lV (l.map d72)] (lookH []) (bV r0) (lookH []) := by
 have key : ∃ x' h', ((fun x' h' => ∃ r0 : Bool, (r0 = treeOk l) ∧ x' = bV r0 ∧ h' = [])) x' h' ∧ Fn Try.prog 74 [lV (l.map d72)] (lookH []) x' (lookH h') := by
  refine Fn.bodyX (N := 65) hτ Try.func74 rfl rfl rfl rfl ?_
  refine sk ⟨[(0, lV (l.map d72))], [], 80⟩ ?_
  refine X.seq ?_
  refine X.seq ?_
  have el1 : (l.map d72).length = l.length := List.length_map ..
  refine rk ⟨[(0, lV (l.map d72)), (6, lV (l.map d72)), (7, iV ((l.map d72).length : Int)), (8, iV 0)], [], 128⟩ ?_
  refine X.block ?_
  -- 2: v8 : Int
  refine X.loop (σ := { g : Int // (fun (v8 : Int) => 0 ≤ v8 ∧ v8 ≤ l.length ∧ Upto (treeR l) (fun n => l[n]?) v8) g }) (fun g => (fun (v8 : Int) => ⟨[(0, lV (l.map d72)), (6, lV (l.map d72)), (7, iV ((l.map d72).length : Int)), (8, iV v8)], [], 128⟩) g.1) (fun g => (fun (v8 : Int) => (l.length - v8).toNat) g.1) ⟨0, ⟨by first | omega | (dsimp only; omega), by first | omega | (dsimp only; omega), upto_zero⟩⟩ (Wk.less (by kernel_rfl)) (fun g => ?_)
  obtain ⟨v8, hg3⟩ := g
  have hg3 : 0 ≤ v8 ∧ v8 ≤ l.length ∧ Upto (treeR l) (fun n => l[n]?) v8 := hg3
  obtain ⟨_, _, hA⟩ := hg3
  refine X.seq ?_
  have hm := hl.1
  refine rk ⟨[(0, lV (l.map d72)), (6, lV (l.map d72)), (7, iV ((l.map d72).length : Int)), (8, iV v8), (9, bV (decide ((v8 : Int) < ((l.map d72).length : Int))))], [], 144⟩ ?_
  refine X.seq ?_
  refine if_ (b := decide ((v8 : Int) < ((l.map d72).length : Int))) (fun hb4 => ?_) (fun hb4 => ?_)
  ·replace hb4 := of_decide_eq_true (hb4)
   refine X.skip ?_
   refine X.seq ?_
   refine X.block ?_
   refine X.seq (rs 1 ?_)
   obtain ⟨x5, hx5⟩ : ∃ x, l[Int.toNat v8]? = some x := ⟨_, List.getElem?_eq_getElem (by first | omega | (simp; done) | (simp; omega))⟩
   refine CH.idx hτ (d72 x5) (rows := (l.map d72)) (n := v8) (sz := 14) (by kernel_rfl) (by kernel_rfl) (by first | omega | (simp; done) | (simp; omega)) (by rw [List.getElem?_map, hx5]; rfl) (by kernel_rfl) ?_
   refine go 4 ?_
   refine ek ⟨[(0, lV (l.map d72)), (3, iV v8), (4, .pt 192 0 0), (6, lV (l.map d72)), (7, iV ((l.map d72).length : Int)), (8, iV v8)], [(192, some (.box (cD (d72 x5))))], 240⟩ ?_
   refine X.seq ?_
   refine X.seq (rs 1 ?_)
   obtain ⟨r6, hr8, hf7⟩ := i_BlockOk x5 (by exact hl.at ‹_›)
   replace hr8 := hr8.symm; subst hr8
   refine ca hf7 Try.func142 ?_
   refine go 2 ?_
   rcases Bool.eq_false_or_eq_true (!(blockOk x5)) with hb10 | hb10
   ·refine aT 15 hb10 ?_
    refine aT 16 hb10 ?_
    replace hb10 := bnot_yes (hb10)
    refine go 23 ?_
    refine ek ⟨[(0, lV (l.map d72)), (4, .pt 192 0 0), (6, lV (l.map d72)), (7, iV ((l.map d72).length : Int)), (8, iV v8), (39, bV true)], [(192, some (.box (cD (d72 x5))))], 672⟩ ?_
    refine X.ifT (by kernel_rfl) ?_
    refine sk ⟨[(2, bV false)], [], 688⟩ ?_
    refine X.ret ?_
    exact ⟨trivial, _, _, ⟨false, (by first | exact (fls (fun h => upto_no (by omega) (by omega) ‹_› (fun hr => by first | exact tf hr.1 ‹_› | exact absurd (hr.2.1 _ ‹_›) ‹_› | (have := hr.2.2.1 _ (by omega) ‹_›; omega)) h.1)) | exact (fls (fun h => ti_no1 h ‹_› ‹_› ‹_›)) | exact (fls (fun h => ti_no2 h ‹_› ‹_› ‹_› ‹_› ‹_›)) | exact (dcd (by simp only [decide_eq_true_eq, List.length_map]; exact ⟨fun h => ⟨upto_all hA (by omega), by omega⟩, fun h => by have := h.2; omega⟩))), rfl, rfl⟩, mkr⟩
   ·refine aF 15 hb10 ?_
    refine aF 16 hb10 ?_
    replace hb10 := bnot_no (hb10)
    refine go 3 ?_
    obtain ⟨x11, hx11⟩ : ∃ x, l[Int.toNat 0]? = some x := ⟨_, List.getElem?_eq_getElem (by first | omega | (simp; done) | (simp; omega))⟩
    refine CH.idx hτ (d72 x11) (rows := (l.map d72)) (n := 0) (sz := 14) (by kernel_rfl) (by kernel_rfl) (by first | omega | (simp; done) | (simp; omega)) (by rw [List.getElem?_map, hx11]; rfl) (by kernel_rfl) ?_
    refine go 5 ?_
    rcases Bool.eq_false_or_eq_true ((x5.f1 != x11.f1)) with hb12 | hb12
    ·refine aT 23 hb12 ?_
     refine aT 24 hb12 ?_
     refine aT 25 hb12 ?_
     replace hb12 := bne_iff_ne.1 (hb12)
     refine go 14 ?_
     refine ek ⟨[(0, lV (l.map d72)), (4, .pt 192 0 0), (6, lV (l.map d72)), (7, iV ((l.map d72).length : Int)), (8, iV v8), (39, bV true)], [(192, some (.box (cD (d72 x5))))], 672⟩ ?_
     refine X.ifT (by kernel_rfl) ?_
     refine sk ⟨[(2, bV false)], [], 688⟩ ?_
     refine X.ret ?_
     exact ⟨trivial, _, _, ⟨false, (by first | exact (fls (fun h => upto_no (by omega) (by omega) ‹_› (fun hr => by first | exact tf hr.1 ‹_› | exact absurd (hr.2.1 _ ‹_›) ‹_› | (have := hr.2.2.1 _ (by omega) ‹_›; omega)) h.1)) | exact (fls (fun h => ti_no1 h ‹_› ‹_› ‹_›)) | exact (fls (fun h => ti_no2 h ‹_› ‹_› ‹_› ‹_› ‹_›)) | exact (dcd (by simp only [decide_eq_true_eq, List.length_map]; exact ⟨fun h => ⟨upto_all hA (by omega), by omega⟩, fun h => by have := h.2; omega⟩))), rfl, rfl⟩, mkr⟩
    ·refine aF 23 hb12 ?_
     refine aF 24 hb12 ?_
     refine aF 25 hb12 ?_
     replace hb12 := bne_eq_false_iff_eq.1 (hb12)
     refine go 3 ?_
     rcases Bool.eq_false_or_eq_true (decide ((v8 : Int) > 0)) with hb13 | hb13
     ·refine aT 27 hb13 ?_
      refine aT 28 hb13 ?_
      replace hb13 := of_decide_eq_true (hb13)
      refine go 5 ?_
      obtain ⟨x14, hx14⟩ : ∃ x, l[Int.toNat (v8 - 1)]? = some x := ⟨_, List.getElem?_eq_getElem (by first | omega | (simp; done) | (simp; omega))⟩
      refine CH.alt 33 (sV (.int .i64 (wrap64 (v8 - 1)))) (sV (.int .i64 ((v8 - 1)))) (by kernel_rfl) (by rw [w64 (n := (v8 - 1)) (by omega) (by omega)]) ?_
      refine CH.idx hτ (d72 x14) (rows := (l.map d72)) (n := (v8 - 1)) (sz := 14) (by kernel_rfl) (by kernel_rfl) (by first | omega | (simp; done) | (simp; omega)) (by rw [List.getElem?_map, hx14]; rfl) (by kernel_rfl) ?_
      refine go 5 ?_
      refine ek ⟨[(0, lV (l.map d72)), (4, .pt 192 0 0), (6, lV (l.map d72)), (7, iV ((l.map d72).length : Int)), (8, iV v8), (39, bV (decide ((x5.f0 : Int) ≤ x14.f0)))], [(192, some (.box (cD (d72 x5))))], 672⟩ ?_
      refine if_ (b := decide ((x5.f0 : Int) ≤ x14.f0)) (fun hb15 => ?_) (fun hb15 => ?_)
      ·replace hb15 := of_decide_eq_true (hb15)
       refine sk ⟨[(2, bV false)], [], 688⟩ ?_
       refine X.ret ?_
       exact ⟨trivial, _, _, ⟨false, (by first | exact (fls (fun h => upto_no (by omega) (by omega) ‹_› (fun hr => by first | exact tf hr.1 ‹_› | exact absurd (hr.2.1 _ ‹_›) ‹_› | (have := hr.2.2.1 _ (by omega) ‹_›; omega)) h.1)) | exact (fls (fun h => ti_no1 h ‹_› ‹_› ‹_›)) | exact (fls (fun h => ti_no2 h ‹_› ‹_› ‹_› ‹_› ‹_›)) | exact (dcd (by simp only [decide_eq_true_eq, List.length_map]; exact ⟨fun h => ⟨upto_all hA (by omega), by omega⟩, fun h => by have := h.2; omega⟩))), rfl, rfl⟩, mkr⟩
      ·replace hb15 := of_decide_eq_false (hb15)
       refine X.skip ?_
       refine X.seq ?_
       refine X.seq (rs 2 ?_)
       obtain ⟨r16, hr18, hf17⟩ := i_isRoot x5.f4
       replace hr18 := hr18.symm; subst hr18
       refine ca hf17 Try.func143 ?_
       refine ek ⟨[(0, lV (l.map d72)), (4, .pt 192 0 0), (6, lV (l.map d72)), (7, iV ((l.map d72).length : Int)), (8, iV v8), (42, bV (rootQ x5.f4))], [(192, some (.box (cD (d72 x5))))], 720⟩ ?_
       refine if_ (b := (rootQ x5.f4)) (fun hb20 => ?_) (fun hb20 => ?_)
       ·refine X.exit ?_
        refine X.rk ⟨[(0, lV (l.map d72)), (6, lV (l.map d72)), (7, iV ((l.map d72).length : Int)), (8, iV (wrap64 (v8 + 1)))], [], 752⟩ hτ hmix (by kernel_rfl) (by kernel_rfl) (s2 := ⟨[(0, lV (l.map d72)), (6, lV (l.map d72)), (7, iV ((l.map d72).length : Int)), (8, iV (v8 + 1))], [], 752⟩) (congrArg (fun z : Int => (⟨[(0, lV (l.map d72)), (6, lV (l.map d72)), (7, iV ((l.map d72).length : Int)), (8, iV z)], [], 752⟩ : St)) (show wrap64 (v8 + 1) = (v8 + 1) by rw [w64 (n := (v8 + 1)) (by omega) (by omega)])) ?_
        refine ⟨⟨(v8 + 1), ⟨by first | omega | (dsimp only; omega), by first | omega | (dsimp only; omega), upto_nx (by first | omega | (dsimp only; omega)) hA ‹_› (⟨‹_›, at_fn ‹_› ‹_›, (by first | exact fun y h0 hy => absurd h0 (by first | omega | (dsimp only; omega)) | exact prev_fn ‹_› (by first | omega | (dsimp only; omega))), (by first | exact .inl ‹_› | exact .inr ⟨_, idAt_at ‹_› ‹_›, ‹_›⟩)⟩)⟩⟩, by first | exact rfl | omega | (dsimp only; omega) | (simp only [List.length_append, List.length_cons, List.length_nil, List.length_set]; omega) | (simp; done) | (simp; omega), Wk.mk' [] (by kernel_rfl) (by kernel_rfl) (by kernel_rfl)⟩
       ·refine X.skip ?_
        refine X.seq (rs 4 ?_)
        obtain ⟨r21, hr23, hf22⟩ := i_blockAt l x5.f4.f1 (by omega)
        replace hr23 := hr23.symm; subst hr23
        have hid := idAt_bd l x5.f4.f1
        refine ca hf22 Try.func73 ?_
        refine go 1 ?_
        refine ek ⟨[(0, lV (l.map d72)), (4, .pt 192 0 0), (5, iV (idAt l x5.f4.f1)), (6, lV (l.map d72)), (7, iV ((l.map d72).length : Int)), (8, iV v8)], [(192, some (.box (cD (d72 x5))))], 816⟩ ?_
        refine X.seq (rs 3 ?_)
        rcases Bool.eq_false_or_eq_true (decide (((idAt l x5.f4.f1) : Int) < 0)) with hb25 | hb25
        ·refine aT 49 hb25 ?_
         refine aT 50 hb25 ?_
         replace hb25 := of_decide_eq_true (hb25)
         refine go 10 ?_
         refine ek ⟨[(0, lV (l.map d72)), (6, lV (l.map d72)), (7, iV ((l.map d72).length : Int)), (8, iV v8), (60, bV true)], [], 1024⟩ ?_
         refine X.ifT (by kernel_rfl) ?_
         refine sk ⟨[(2, bV false)], [], 1040⟩ ?_
         refine X.ret ?_
         exact ⟨trivial, _, _, ⟨false, (by first | exact (fls (fun h => upto_no (by omega) (by omega) ‹_› (fun hr => by first | exact tf hr.1 ‹_› | exact absurd (hr.2.1 _ ‹_›) ‹_› | (have := hr.2.2.1 _ (by omega) ‹_›; omega)) h.1)) | exact (fls (fun h => ti_no1 h ‹_› ‹_› ‹_›)) | exact (fls (fun h => ti_no2 h ‹_› ‹_› ‹_› ‹_› ‹_›)) | exact (dcd (by simp only [decide_eq_true_eq, List.length_map]; exact ⟨fun h => ⟨upto_all hA (by omega), by omega⟩, fun h => by have := h.2; omega⟩))), rfl, rfl⟩, mkr⟩
        ·refine aF 49 hb25 ?_
         refine aF 50 hb25 ?_
         replace hb25 := of_decide_eq_false (hb25)
         refine go 2 ?_
         obtain ⟨x26, hx26⟩ : ∃ x, l[Int.toNat (idAt l x5.f4.f1)]? = some x := ⟨_, List.getElem?_eq_getElem (by first | omega | (simp; done) | (simp; omega))⟩
         refine CH.idx hτ (d72 x26) (rows := (l.map d72)) (n := (idAt l x5.f4.f1)) (sz := 14) (by kernel_rfl) (by kernel_rfl) (by first | omega | (simp; done) | (simp; omega)) (by rw [List.getElem?_map, hx26]; rfl) (by kernel_rfl) ?_
         refine go 7 ?_
         refine ek ⟨[(0, lV (l.map d72)), (6, lV (l.map d72)), (7, iV ((l.map d72).length : Int)), (8, iV v8), (60, bV (x26.f2 != x5.f4.f0))], [], 1024⟩ ?_
         refine if_ (b := (x26.f2 != x5.f4.f0)) (fun hb27 => ?_) (fun hb27 => ?_)
         ·replace hb27 := bne_iff_ne.1 (hb27)
          refine sk ⟨[(2, bV false)], [], 1040⟩ ?_
          refine X.ret ?_
          exact ⟨trivial, _, _, ⟨false, (by first | exact (fls (fun h => upto_no (by omega) (by omega) ‹_› (fun hr => by first | exact tf hr.1 ‹_› | exact absurd (hr.2.1 _ ‹_›) ‹_› | (have := hr.2.2.1 _ (by omega) ‹_›; omega)) h.1)) | exact (fls (fun h => ti_no1 h ‹_› ‹_› ‹_›)) | exact (fls (fun h => ti_no2 h ‹_› ‹_› ‹_› ‹_› ‹_›)) | exact (dcd (by simp only [decide_eq_true_eq, List.length_map]; exact ⟨fun h => ⟨upto_all hA (by omega), by omega⟩, fun h => by have := h.2; omega⟩))), rfl, rfl⟩, mkr⟩
         ·replace hb27 := bne_eq_false_iff_eq.1 (hb27)
          refine X.skip ?_
          refine X.rk ⟨[(0, lV (l.map d72)), (6, lV (l.map d72)), (7, iV ((l.map d72).length : Int)), (8, iV (wrap64 (v8 + 1)))], [], 1056⟩ hτ hmix (by kernel_rfl) (by kernel_rfl) (s2 := ⟨[(0, lV (l.map d72)), (6, lV (l.map d72)), (7, iV ((l.map d72).length : Int)), (8, iV (v8 + 1))], [], 1056⟩) (congrArg (fun z : Int => (⟨[(0, lV (l.map d72)), (6, lV (l.map d72)), (7, iV ((l.map d72).length : Int)), (8, iV z)], [], 1056⟩ : St)) (show wrap64 (v8 + 1) = (v8 + 1) by rw [w64 (n := (v8 + 1)) (by omega) (by omega)])) ?_
          refine ⟨⟨(v8 + 1), ⟨by first | omega | (dsimp only; omega), by first | omega | (dsimp only; omega), upto_nx (by first | omega | (dsimp only; omega)) hA ‹_› (⟨‹_›, at_fn ‹_› ‹_›, (by first | exact fun y h0 hy => absurd h0 (by first | omega | (dsimp only; omega)) | exact prev_fn ‹_› (by first | omega | (dsimp only; omega))), (by first | exact .inl ‹_› | exact .inr ⟨_, idAt_at ‹_› ‹_›, ‹_›⟩)⟩)⟩⟩, by first | exact rfl | omega | (dsimp only; omega) | (simp only [List.length_append, List.length_cons, List.length_nil, List.length_set]; omega) | (simp; done) | (simp; omega), Wk.mk' [] (by kernel_rfl) (by kernel_rfl) (by kernel_rfl)⟩
     ·refine aF 27 hb13 ?_
      refine aF 28 hb13 ?_
      replace hb13 := of_decide_eq_false (hb13)
      refine go 11 ?_
      refine ek ⟨[(0, lV (l.map d72)), (4, .pt 192 0 0), (6, lV (l.map d72)), (7, iV ((l.map d72).length : Int)), (8, iV v8), (39, bV false)], [(192, some (.box (cD (d72 x5))))], 672⟩ ?_
      refine X.ifF (by kernel_rfl) ?_
      refine X.skip ?_
      refine X.seq ?_
      refine X.seq (rs 2 ?_)
      obtain ⟨r28, hr30, hf29⟩ := i_isRoot x5.f4
      replace hr30 := hr30.symm; subst hr30
      refine ca hf29 Try.func143 ?_
      refine ek ⟨[(0, lV (l.map d72)), (4, .pt 192 0 0), (6, lV (l.map d72)), (7, iV ((l.map d72).length : Int)), (8, iV v8), (42, bV (rootQ x5.f4))], [(192, some (.box (cD (d72 x5))))], 720⟩ ?_
      refine if_ (b := (rootQ x5.f4)) (fun hb32 => ?_) (fun hb32 => ?_)
      ·refine X.exit ?_
       refine X.rk ⟨[(0, lV (l.map d72)), (6, lV (l.map d72)), (7, iV ((l.map d72).length : Int)), (8, iV (wrap64 (v8 + 1)))], [], 752⟩ hτ hmix (by kernel_rfl) (by kernel_rfl) (s2 := ⟨[(0, lV (l.map d72)), (6, lV (l.map d72)), (7, iV ((l.map d72).length : Int)), (8, iV (v8 + 1))], [], 752⟩) (congrArg (fun z : Int => (⟨[(0, lV (l.map d72)), (6, lV (l.map d72)), (7, iV ((l.map d72).length : Int)), (8, iV z)], [], 752⟩ : St)) (show wrap64 (v8 + 1) = (v8 + 1) by rw [w64 (n := (v8 + 1)) (by omega) (by omega)])) ?_
       refine ⟨⟨(v8 + 1), ⟨by first | omega | (dsimp only; omega), by first | omega | (dsimp only; omega), upto_nx (by first | omega | (dsimp only; omega)) hA ‹_› (⟨‹_›, at_fn ‹_› ‹_›, (by first | exact fun y h0 hy => absurd h0 (by first | omega | (dsimp only; omega)) | exact prev_fn ‹_› (by first | omega | (dsimp only; omega))), (by first | exact .inl ‹_› | exact .inr ⟨_, idAt_at ‹_› ‹_›, ‹_›⟩)⟩)⟩⟩, by first | exact rfl | omega | (dsimp only; omega) | (simp only [List.length_append, List.length_cons, List.length_nil, List.length_set]; omega) | (simp; done) | (simp; omega), Wk.mk' [] (by kernel_rfl) (by kernel_rfl) (by kernel_rfl)⟩
      ·refine X.skip ?_
       refine X.seq (rs 4 ?_)
       obtain ⟨r33, hr35, hf34⟩ := i_blockAt l x5.f4.f1 (by omega)
       replace hr35 := hr35.symm; subst hr35
       have hid := idAt_bd l x5.f4.f1
       refine ca hf34 Try.func73 ?_
       refine go 1 ?_
       refine ek ⟨[(0, lV (l.map d72)), (4, .pt 192 0 0), (5, iV (idAt l x5.f4.f1)), (6, lV (l.map d72)), (7, iV ((l.map d72).length : Int)), (8, iV v8)], [(192, some (.box (cD (d72 x5))))], 816⟩ ?_
       refine X.seq (rs 3 ?_)
       rcases Bool.eq_false_or_eq_true (decide (((idAt l x5.f4.f1) : Int) < 0)) with hb37 | hb37
       ·refine aT 49 hb37 ?_
        refine aT 50 hb37 ?_
        replace hb37 := of_decide_eq_true (hb37)
        refine go 10 ?_
        refine ek ⟨[(0, lV (l.map d72)), (6, lV (l.map d72)), (7, iV ((l.map d72).length : Int)), (8, iV v8), (60, bV true)], [], 1024⟩ ?_
        refine X.ifT (by kernel_rfl) ?_
        refine sk ⟨[(2, bV false)], [], 1040⟩ ?_
        refine X.ret ?_
        exact ⟨trivial, _, _, ⟨false, (by first | exact (fls (fun h => upto_no (by omega) (by omega) ‹_› (fun hr => by first | exact tf hr.1 ‹_› | exact absurd (hr.2.1 _ ‹_›) ‹_› | (have := hr.2.2.1 _ (by omega) ‹_›; omega)) h.1)) | exact (fls (fun h => ti_no1 h ‹_› ‹_› ‹_›)) | exact (fls (fun h => ti_no2 h ‹_› ‹_› ‹_› ‹_› ‹_›)) | exact (dcd (by simp only [decide_eq_true_eq, List.length_map]; exact ⟨fun h => ⟨upto_all hA (by omega), by omega⟩, fun h => by have := h.2; omega⟩))), rfl, rfl⟩, mkr⟩
       ·refine aF 49 hb37 ?_
        refine aF 50 hb37 ?_
        replace hb37 := of_decide_eq_false (hb37)
        refine go 2 ?_
        obtain ⟨x38, hx38⟩ : ∃ x, l[Int.toNat (idAt l x5.f4.f1)]? = some x := ⟨_, List.getElem?_eq_getElem (by first | omega | (simp; done) | (simp; omega))⟩
        refine CH.idx hτ (d72 x38) (rows := (l.map d72)) (n := (idAt l x5.f4.f1)) (sz := 14) (by kernel_rfl) (by kernel_rfl) (by first | omega | (simp; done) | (simp; omega)) (by rw [List.getElem?_map, hx38]; rfl) (by kernel_rfl) ?_
        refine go 7 ?_
        refine ek ⟨[(0, lV (l.map d72)), (6, lV (l.map d72)), (7, iV ((l.map d72).length : Int)), (8, iV v8), (60, bV (x38.f2 != x5.f4.f0))], [], 1024⟩ ?_
        refine if_ (b := (x38.f2 != x5.f4.f0)) (fun hb39 => ?_) (fun hb39 => ?_)
        ·replace hb39 := bne_iff_ne.1 (hb39)
         refine sk ⟨[(2, bV false)], [], 1040⟩ ?_
         refine X.ret ?_
         exact ⟨trivial, _, _, ⟨false, (by first | exact (fls (fun h => upto_no (by omega) (by omega) ‹_› (fun hr => by first | exact tf hr.1 ‹_› | exact absurd (hr.2.1 _ ‹_›) ‹_› | (have := hr.2.2.1 _ (by omega) ‹_›; omega)) h.1)) | exact (fls (fun h => ti_no1 h ‹_› ‹_› ‹_›)) | exact (fls (fun h => ti_no2 h ‹_› ‹_› ‹_› ‹_› ‹_›)) | exact (dcd (by simp only [decide_eq_true_eq, List.length_map]; exact ⟨fun h => ⟨upto_all hA (by omega), by omega⟩, fun h => by have := h.2; omega⟩))), rfl, rfl⟩, mkr⟩
        ·replace hb39 := bne_eq_false_iff_eq.1 (hb39)
         refine X.skip ?_
         refine X.rk ⟨[(0, lV (l.map d72)), (6, lV (l.map d72)), (7, iV ((l.map d72).length : Int)), (8, iV (wrap64 (v8 + 1)))], [], 1056⟩ hτ hmix (by kernel_rfl) (by kernel_rfl) (s2 := ⟨[(0, lV (l.map d72)), (6, lV (l.map d72)), (7, iV ((l.map d72).length : Int)), (8, iV (v8 + 1))], [], 1056⟩) (congrArg (fun z : Int => (⟨[(0, lV (l.map d72)), (6, lV (l.map d72)), (7, iV ((l.map d72).length : Int)), (8, iV z)], [], 1056⟩ : St)) (show wrap64 (v8 + 1) = (v8 + 1) by rw [w64 (n := (v8 + 1)) (by omega) (by omega)])) ?_
         refine ⟨⟨(v8 + 1), ⟨by first | omega | (dsimp only; omega), by first | omega | (dsimp only; omega), upto_nx (by first | omega | (dsimp only; omega)) hA ‹_› (⟨‹_›, at_fn ‹_› ‹_›, (by first | exact fun y h0 hy => absurd h0 (by first | omega | (dsimp only; omega)) | exact prev_fn ‹_› (by first | omega | (dsimp only; omega))), (by first | exact .inl ‹_› | exact .inr ⟨_, idAt_at ‹_› ‹_›, ‹_›⟩)⟩)⟩⟩, by first | exact rfl | omega | (dsimp only; omega) | (simp only [List.length_append, List.length_cons, List.length_nil, List.length_set]; omega) | (simp; done) | (simp; omega), Wk.mk' [] (by kernel_rfl) (by kernel_rfl) (by kernel_rfl)⟩
  ·replace hb4 := of_decide_eq_false (hb4)
   refine X.exit ?_
   refine sk ⟨[(2, bV (decide ((((l.map d72).length : Int) : Int) ≤ 400)))], [], 208⟩ ?_
   refine X.ret ?_
   exact ⟨trivial, _, _, ⟨decide ((((l.map d72).length : Int) : Int) ≤ 400), (by first | exact (fls (fun h => upto_no (by omega) (by omega) ‹_› (fun hr => by first | exact tf hr.1 ‹_› | exact absurd (hr.2.1 _ ‹_›) ‹_› | (have := hr.2.2.1 _ (by omega) ‹_›; omega)) h.1)) | exact (fls (fun h => ti_no1 h ‹_› ‹_› ‹_›)) | exact (fls (fun h => ti_no2 h ‹_› ‹_› ‹_› ‹_› ‹_›)) | exact (dcd (by simp only [decide_eq_true_eq, List.length_map]; exact ⟨fun h => ⟨upto_all hA (by omega), by omega⟩, fun h => by have := h.2; omega⟩))), rfl, rfl⟩, mkr⟩
 obtain ⟨_, _, ⟨r0, h1_, rfl, rfl⟩, hf⟩ := key
 exact ⟨r0, h1_, hf⟩
end Go.Proofs.Ytggmeldoecnkaaa.Av
