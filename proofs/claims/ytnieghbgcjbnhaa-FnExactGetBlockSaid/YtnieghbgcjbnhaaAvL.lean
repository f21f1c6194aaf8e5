/-
What functions of the program come to, walked one by one.
Conditions: none beside those that each theorem names.
-/
import Derived.Test.YtnieghbgcjbnhaaAvK
set_option linter.unusedVariables false
set_option linter.unusedSimpArgs false
namespace Go.Proofs.Ytnieghbgcjbnhaa.Av
open Go.RowKit
set_option maxRecDepth 20000
set_option maxHeartbeats 4000000

section
variable {α : Type} {l L : List α} {b : α} {k : Nat}
end

section
variable {l L : List S49} {b : S49} {k : Nat}
end
theorem s_SetOk (l : List S107) (hl : SmV l) : ∃ r0 : Bool, (r0 = setOk l) ∧ Fn Try.prog 71 [lV (l.map d107)] (lookH []) (bV r0) (lookH []) := by
 have key : ∃ x' h', ((fun x' h' => ∃ r0 : Bool, (r0 = setOk l) ∧ x' = bV r0 ∧ h' = [])) x' h' ∧ Fn Try.prog 71 [lV (l.map d107)] (lookH []) x' (lookH h') := by
  refine Fn.bodyX (N := 47) hτ Try.func71 rfl rfl rfl rfl ?_
  refine X.seq ?_
  refine X.rk ⟨[(0, lV (l.map d107))], [], 80⟩ hτ hmix (by kernel_rfl) (by kernel_rfl) rfl ?_
  refine X.seq ?_
  refine X.seq ?_
  refine X.rk ⟨[(0, lV (l.map d107)), (3, iV 0)], [], 96⟩ hτ hmix (by kernel_rfl) (by kernel_rfl) rfl ?_
  refine X.block ?_
  -- 2: v3 : Int
  refine X.loop (σ := { g : Int // (fun (v3 : Int) => 0 ≤ v3 ∧ v3 ≤ l.length ∧ Upto (setR l) (fun n => l[n]?) v3) g }) (fun g => (fun (v3 : Int) => ⟨[(0, lV (l.map d107)), (3, iV v3)], [], 96⟩) g.1) (fun g => (fun (v3 : Int) => (l.length - v3).toNat) g.1) ⟨0, ⟨by first | omega | (dsimp only; omega), by first | omega | (dsimp only; omega), upto_zero⟩⟩ (Wk.less (by kernel_rfl)) (fun g => ?_)
  obtain ⟨v3, hg2⟩ := g
  have hg2 : 0 ≤ v3 ∧ v3 ≤ l.length ∧ Upto (setR l) (fun n => l[n]?) v3 := hg2
  obtain ⟨_, _, hA⟩ := hg2
  refine X.seq ?_
  refine X.seq ?_
  have hm := hl.1
  have el3 : (l.map d107).length = l.length := List.length_map ..
  refine X.rk ⟨[(0, lV (l.map d107)), (3, iV v3), (7, bV (decide ((v3 : Int) < ((l.map d107).length : Int))))], [], 160⟩ hτ hmix (by kernel_rfl) (by kernel_rfl) rfl ?_
  refine X.if_ (b := decide ((v3 : Int) < ((l.map d107).length : Int))) (by kernel_rfl) (fun hb4 => ?_) (fun hb4 => ?_)
  ·replace hb4 := of_decide_eq_true (hb4)
   refine X.skip ?_
   refine X.seq ?_
   refine X.block ?_
   refine X.seq ?_
   refine X.rs 2 hτ hmix (by kernel_rfl) ?_
   obtain ⟨x5, hx5⟩ : ∃ x, l[Int.toNat v3]? = some x := ⟨_, List.getElem?_eq_getElem (by first | omega | (simp; done) | (simp; omega))⟩
   refine CH.idx hτ (d107 x5) (rows := (l.map d107)) (n := v3) (sz := 2) (by kernel_rfl) (by kernel_rfl) (by first | omega | (simp; done) | (simp; omega)) (by rw [List.getElem?_map, hx5]; rfl) (by kernel_rfl) ?_
   refine CH.go 2 hτ (by kernel_rfl) ?_
   obtain ⟨r6, hr8, hf7⟩ := s_NameOk x5.f0 (by exact all_at hl.2 ‹_›)
   replace hr8 := hr8.symm; subst hr8
   refine CH.call hf7 Try.func67 ⟨rfl, rfl⟩ [] (by kernel_rfl) (by kernel_rfl) (by kernel_rfl) (by kernel_rfl) ?_
   refine CH.go 2 hτ (by kernel_rfl) ?_
   rcases Bool.eq_false_or_eq_true (!(nameOk x5.f0)) with hb10 | hb10
   ·refine CH.alt 16 (sV (.bool (!(nameOk x5.f0)))) (sV (.bool true)) (by kernel_rfl) (by rw [hb10]) ?_
    refine CH.alt 17 (sV (.bool (!(nameOk x5.f0)))) (sV (.bool true)) (by kernel_rfl) (by rw [hb10]) ?_
    replace hb10 := bnot_yes (hb10)
    refine CH.go 26 hτ (by kernel_rfl) ?_
    refine CH.endk ⟨[(0, lV (l.map d107)), (3, iV v3), (43, bV true)], [], 704⟩ (by kernel_rfl) (by kernel_rfl) rfl ?_
    refine X.ifT (by kernel_rfl) ?_
    refine X.seq ?_
    refine X.rk ⟨[(2, bV false)], [], 720⟩ hτ hmix (by kernel_rfl) (by kernel_rfl) rfl ?_
    refine X.ret ?_
    exact ⟨trivial, _, _, ⟨false, (by first | exact (fls (fun h => upto_no (by omega) (by omega) ‹_› (fun hr => by first | exact tf hr.1 ‹_› | exact absurd hr.2.1 ‹_› | exact tf (hr.2.2 _ (by omega) ‹_›) ‹_›) h.1)) | exact (dcd (by rw [inR_iff]; simp only [List.length_map]; exact ⟨fun h => ⟨upto_all hA (by omega), h⟩, fun h => h.2⟩))), rfl, rfl⟩, .inl (Ret.mk' [] (by kernel_rfl) (by kernel_rfl) (by kernel_rfl))⟩
   ·refine CH.alt 16 (sV (.bool (!(nameOk x5.f0)))) (sV (.bool false)) (by kernel_rfl) (by rw [hb10]) ?_
    refine CH.alt 17 (sV (.bool (!(nameOk x5.f0)))) (sV (.bool false)) (by kernel_rfl) (by rw [hb10]) ?_
    replace hb10 := bnot_no (hb10)
    refine CH.go 2 hτ (by kernel_rfl) ?_
    refine CH.idx hτ (d107 x5) (rows := (l.map d107)) (n := v3) (sz := 2) (by kernel_rfl) (by kernel_rfl) (by first | omega | (simp; done) | (simp; omega)) (by rw [List.getElem?_map, hx5]; rfl) (by kernel_rfl) ?_
    refine CH.go 2 hτ (by kernel_rfl) ?_
    obtain ⟨r11, hr13, hf12⟩ := s_l1In x5.f1 1 1000000
    replace hr13 := hr13.symm; subst hr13
    refine CH.call hf12 Try.func66 ⟨rfl, rfl⟩ [] (by kernel_rfl) (by kernel_rfl) (by kernel_rfl) (by kernel_rfl) ?_
    refine CH.go 3 hτ (by kernel_rfl) ?_
    rcases Bool.eq_false_or_eq_true (!(inR x5.f1 1 1000000)) with hb15 | hb15
    ·refine CH.alt 24 (sV (.bool (!(inR x5.f1 1 1000000)))) (sV (.bool true)) (by kernel_rfl) (by rw [hb15]) ?_
     refine CH.alt 25 (sV (.bool (!(inR x5.f1 1 1000000)))) (sV (.bool true)) (by kernel_rfl) (by rw [hb15]) ?_
     refine CH.alt 26 (sV (.bool (!(inR x5.f1 1 1000000)))) (sV (.bool true)) (by kernel_rfl) (by rw [hb15]) ?_
     replace hb15 := inR_no (bnot_yes (hb15))
     refine CH.go 17 hτ (by kernel_rfl) ?_
     refine CH.endk ⟨[(0, lV (l.map d107)), (3, iV v3), (43, bV true)], [], 704⟩ (by kernel_rfl) (by kernel_rfl) rfl ?_
     refine X.ifT (by kernel_rfl) ?_
     refine X.seq ?_
     refine X.rk ⟨[(2, bV false)], [], 720⟩ hτ hmix (by kernel_rfl) (by kernel_rfl) rfl ?_
     refine X.ret ?_
     exact ⟨trivial, _, _, ⟨false, (by first | exact (fls (fun h => upto_no (by omega) (by omega) ‹_› (fun hr => by first | exact tf hr.1 ‹_› | exact absurd hr.2.1 ‹_› | exact tf (hr.2.2 _ (by omega) ‹_›) ‹_›) h.1)) | exact (dcd (by rw [inR_iff]; simp only [List.length_map]; exact ⟨fun h => ⟨upto_all hA (by omega), h⟩, fun h => h.2⟩))), rfl, rfl⟩, .inl (Ret.mk' [] (by kernel_rfl) (by kernel_rfl) (by kernel_rfl))⟩
    ·refine CH.alt 24 (sV (.bool (!(inR x5.f1 1 1000000)))) (sV (.bool false)) (by kernel_rfl) (by rw [hb15]) ?_
     refine CH.alt 25 (sV (.bool (!(inR x5.f1 1 1000000)))) (sV (.bool false)) (by kernel_rfl) (by rw [hb15]) ?_
     refine CH.alt 26 (sV (.bool (!(inR x5.f1 1 1000000)))) (sV (.bool false)) (by kernel_rfl) (by rw [hb15]) ?_
     replace hb15 := inR_yes (bnot_no (hb15))
     refine CH.go 3 hτ (by kernel_rfl) ?_
     rcases Bool.eq_false_or_eq_true (decide ((v3 : Int) > 0)) with hb16 | hb16
     ·refine CH.alt 28 (sV (.bool (decide ((v3 : Int) > 0)))) (sV (.bool true)) (by kernel_rfl) (by rw [hb16]) ?_
      refine CH.alt 29 (sV (.bool (decide ((v3 : Int) > 0)))) (sV (.bool true)) (by kernel_rfl) (by rw [hb16]) ?_
      replace hb16 := of_decide_eq_true (hb16)
      refine CH.go 3 hτ (by kernel_rfl) ?_
      obtain ⟨x17, hx17⟩ : ∃ x, l[Int.toNat (v3 - 1)]? = some x := ⟨_, List.getElem?_eq_getElem (by first | omega | (simp; done) | (simp; omega))⟩
      refine CH.alt 32 (sV (.int .i64 (wrap64 (v3 - 1)))) (sV (.int .i64 ((v3 - 1)))) (by kernel_rfl) (by rw [w64 (n := (v3 - 1)) (by omega) (by omega)]) ?_
      refine CH.idx hτ (d107 x17) (rows := (l.map d107)) (n := (v3 - 1)) (sz := 2) (by kernel_rfl) (by kernel_rfl) (by first | omega | (simp; done) | (simp; omega)) (by rw [List.getElem?_map, hx17]; rfl) (by kernel_rfl) ?_
      refine CH.go 4 hτ (by kernel_rfl) ?_
      refine CH.idx hτ (d107 x5) (rows := (l.map d107)) (n := v3) (sz := 2) (by kernel_rfl) (by kernel_rfl) (by first | omega | (simp; done) | (simp; omega)) (by rw [List.getElem?_map, hx5]; rfl) (by kernel_rfl) ?_
      refine CH.go 5 hτ (by kernel_rfl) ?_
      refine CH.endk ⟨[(0, lV (l.map d107)), (3, iV v3), (43, bV (!(Op.bytesLess x17.f0.toList x5.f0.toList)))], [], 704⟩ (by kernel_rfl) (by kernel_rfl) rfl ?_
      refine X.if_ (b := !(Op.bytesLess x17.f0.toList x5.f0.toList)) (by kernel_rfl) (fun hb18 => ?_) (fun hb18 => ?_)
      ·replace hb18 := bnot_yes (hb18)
       refine X.seq ?_
       refine X.rk ⟨[(2, bV false)], [], 720⟩ hτ hmix (by kernel_rfl) (by kernel_rfl) rfl ?_
       refine X.ret ?_
       exact ⟨trivial, _, _, ⟨false, (by first | exact (fls (fun h => upto_no (by omega) (by omega) ‹_› (fun hr => by first | exact tf hr.1 ‹_› | exact absurd hr.2.1 ‹_› | exact tf (hr.2.2 _ (by omega) ‹_›) ‹_›) h.1)) | exact (dcd (by rw [inR_iff]; simp only [List.length_map]; exact ⟨fun h => ⟨upto_all hA (by omega), h⟩, fun h => h.2⟩))), rfl, rfl⟩, .inl (Ret.mk' [] (by kernel_rfl) (by kernel_rfl) (by kernel_rfl))⟩
      ·replace hb18 := bnot_no (hb18)
       refine X.skip ?_
       refine X.rk ⟨[(0, lV (l.map d107)), (3, iV (wrap64 (v3 + 1)))], [], 752⟩ hτ hmix (by kernel_rfl) (by kernel_rfl) (s2 := ⟨[(0, lV (l.map d107)), (3, iV (v3 + 1))], [], 752⟩) (congrArg (fun z : Int => (⟨[(0, lV (l.map d107)), (3, iV z)], [], 752⟩ : St)) (show wrap64 (v3 + 1) = (v3 + 1) by rw [w64 (n := (v3 + 1)) (by omega) (by omega)])) ?_
       refine ⟨⟨(v3 + 1), ⟨by first | omega | (dsimp only; omega), by first | omega | (dsimp only; omega), upto_nx (by first | omega | (dsimp only; omega)) hA ‹_› (⟨‹_›, ‹_›, (by first | exact fun y h0 hy => absurd h0 (by first | omega | (dsimp only; omega)) | exact prev_fn ‹_› ‹_›)⟩)⟩⟩, by first | exact rfl | omega | (dsimp only; omega) | (simp only [List.length_append, List.length_cons, List.length_nil, List.length_set]; omega) | (simp; done) | (simp; omega), Wk.mk' [] (by kernel_rfl) (by kernel_rfl) (by kernel_rfl)⟩
     ·refine CH.alt 28 (sV (.bool (decide ((v3 : Int) > 0)))) (sV (.bool false)) (by kernel_rfl) (by rw [hb16]) ?_
      refine CH.alt 29 (sV (.bool (decide ((v3 : Int) > 0)))) (sV (.bool false)) (by kernel_rfl) (by rw [hb16]) ?_
      replace hb16 := of_decide_eq_false (hb16)
      refine CH.go 14 hτ (by kernel_rfl) ?_
      refine CH.endk ⟨[(0, lV (l.map d107)), (3, iV v3), (43, bV false)], [], 704⟩ (by kernel_rfl) (by kernel_rfl) rfl ?_
      refine X.ifF (by kernel_rfl) ?_
      refine X.skip ?_
      refine X.rk ⟨[(0, lV (l.map d107)), (3, iV (wrap64 (v3 + 1)))], [], 752⟩ hτ hmix (by kernel_rfl) (by kernel_rfl) (s2 := ⟨[(0, lV (l.map d107)), (3, iV (v3 + 1))], [], 752⟩) (congrArg (fun z : Int => (⟨[(0, lV (l.map d107)), (3, iV z)], [], 752⟩ : St)) (show wrap64 (v3 + 1) = (v3 + 1) by rw [w64 (n := (v3 + 1)) (by omega) (by omega)])) ?_
      refine ⟨⟨(v3 + 1), ⟨by first | omega | (dsimp only; omega), by first | omega | (dsimp only; omega), upto_nx (by first | omega | (dsimp only; omega)) hA ‹_› (⟨‹_›, ‹_›, (by first | exact fun y h0 hy => absurd h0 (by first | omega | (dsimp only; omega)) | exact prev_fn ‹_› ‹_›)⟩)⟩⟩, by first | exact rfl | omega | (dsimp only; omega) | (simp only [List.length_append, List.length_cons, List.length_nil, List.length_set]; omega) | (simp; done) | (simp; omega), Wk.mk' [] (by kernel_rfl) (by kernel_rfl) (by kernel_rfl)⟩
  ·replace hb4 := of_decide_eq_false (hb4)
   refine X.exit ?_
   refine X.seq ?_
   refine X.rs 2 hτ hmix (by kernel_rfl) ?_
   obtain ⟨r19, hr21, hf20⟩ := s_l1In ((l.map d107).length : Int) 1 12
   replace hr21 := hr21.symm; subst hr21
   refine CH.call hf20 Try.func66 ⟨rfl, rfl⟩ [] (by kernel_rfl) (by kernel_rfl) (by kernel_rfl) (by kernel_rfl) ?_
   refine CH.go 1 hτ (by kernel_rfl) ?_
   refine CH.endk ⟨[(2, bV (inR ((l.map d107).length : Int) 1 12))], [], 224⟩ (by kernel_rfl) (by kernel_rfl) rfl ?_
   refine X.ret ?_
   exact ⟨trivial, _, _, ⟨(inR ((l.map d107).length : Int) 1 12), (by first | exact (fls (fun h => upto_no (by omega) (by omega) ‹_› (fun hr => by first | exact tf hr.1 ‹_› | exact absurd hr.2.1 ‹_› | exact tf (hr.2.2 _ (by omega) ‹_›) ‹_›) h.1)) | exact (dcd (by rw [inR_iff]; simp only [List.length_map]; exact ⟨fun h => ⟨upto_all hA (by omega), h⟩, fun h => h.2⟩))), rfl, rfl⟩, .inl (Ret.mk' [] (by kernel_rfl) (by kernel_rfl) (by kernel_rfl))⟩
 obtain ⟨_, _, ⟨r0, h1_, rfl, rfl⟩, hf⟩ := key
 exact ⟨r0, h1_, hf⟩

theorem i_SetOk (l : List S107) (hl : SmV l) : ∃ r0 : Bool, (r0 = setOk l) ∧ Fn Try.prog 77 [lV (l.map d107)] (lookH []) (bV r0) (lookH []) := by
 have key : ∃ x' h', ((fun x' h' => ∃ r0 : Bool, (r0 = setOk l) ∧ x' = bV r0 ∧ h' = [])) x' h' ∧ Fn Try.prog 77 [lV (l.map d107)] (lookH []) x' (lookH h') := by
  refine Fn.bodyX (N := 41) hτ Try.func77 rfl rfl rfl rfl ?_
  refine X.seq ?_
  refine X.rk ⟨[(0, lV (l.map d107))], [], 80⟩ hτ hmix (by kernel_rfl) (by kernel_rfl) rfl ?_
  refine X.seq ?_
  refine X.seq ?_
  have el1 : (l.map d107).length = l.length := List.length_map ..
  refine X.rk ⟨[(0, lV (l.map d107)), (5, lV (l.map d107)), (6, iV ((l.map d107).length : Int)), (7, iV 0)], [], 128⟩ hτ hmix (by kernel_rfl) (by kernel_rfl) rfl ?_
  refine X.block ?_
  -- 2: v7 : Int
  refine X.loop (σ := { g : Int // (fun (v7 : Int) => 0 ≤ v7 ∧ v7 ≤ l.length ∧ Upto (setR l) (fun n => l[n]?) v7) g }) (fun g => (fun (v7 : Int) => ⟨[(0, lV (l.map d107)), (5, lV (l.map d107)), (6, iV ((l.map d107).length : Int)), (7, iV v7)], [], 128⟩) g.1) (fun g => (fun (v7 : Int) => (l.length - v7).toNat) g.1) ⟨0, ⟨by first | omega | (dsimp only; omega), by first | omega | (dsimp only; omega), upto_zero⟩⟩ (Wk.less (by kernel_rfl)) (fun g => ?_)
  obtain ⟨v7, hg3⟩ := g
  have hg3 : 0 ≤ v7 ∧ v7 ≤ l.length ∧ Upto (setR l) (fun n => l[n]?) v7 := hg3
  obtain ⟨_, _, hA⟩ := hg3
  refine X.seq ?_
  have hm := hl.1
  refine X.rk ⟨[(0, lV (l.map d107)), (5, lV (l.map d107)), (6, iV ((l.map d107).length : Int)), (7, iV v7), (8, bV (decide ((v7 : Int) < ((l.map d107).length : Int))))], [], 144⟩ hτ hmix (by kernel_rfl) (by kernel_rfl) rfl ?_
  refine X.seq ?_
  refine X.if_ (b := decide ((v7 : Int) < ((l.map d107).length : Int))) (by kernel_rfl) (fun hb4 => ?_) (fun hb4 => ?_)
  ·replace hb4 := of_decide_eq_true (hb4)
   refine X.skip ?_
   refine X.seq ?_
   refine X.block ?_
   refine X.seq ?_
   refine X.rs 1 hτ hmix (by kernel_rfl) ?_
   obtain ⟨x5, hx5⟩ : ∃ x, l[Int.toNat v7]? = some x := ⟨_, List.getElem?_eq_getElem (by first | omega | (simp; done) | (simp; omega))⟩
   refine CH.idx hτ (d107 x5) (rows := (l.map d107)) (n := v7) (sz := 2) (by kernel_rfl) (by kernel_rfl) (by first | omega | (simp; done) | (simp; omega)) (by rw [List.getElem?_map, hx5]; rfl) (by kernel_rfl) ?_
   refine CH.go 4 hτ (by kernel_rfl) ?_
   refine CH.endk ⟨[(0, lV (l.map d107)), (3, iV v7), (4, .pt 192 0 0), (5, lV (l.map d107)), (6, iV ((l.map d107).length : Int)), (7, iV v7)], [(192, some (.box [.d (.v (.string x5.f0)), .d (.v (.int .i64 x5.f1))]))], 240⟩ (by kernel_rfl) (by kernel_rfl) rfl ?_
   refine X.seq ?_
   refine X.rs 2 hτ hmix (by kernel_rfl) ?_
   obtain ⟨r6, hr8, hf7⟩ := i_NameOk x5.f0 (by exact all_at hl.2 ‹_›)
   replace hr8 := hr8.symm; subst hr8
   refine CH.call hf7 Try.func73 ⟨rfl, rfl⟩ [] (by kernel_rfl) (by kernel_rfl) (by kernel_rfl) (by kernel_rfl) ?_
   refine CH.go 2 hτ (by kernel_rfl) ?_
   rcases Bool.eq_false_or_eq_true (!(nameOk x5.f0)) with hb10 | hb10
   ·refine CH.alt 15 (sV (.bool (!(nameOk x5.f0)))) (sV (.bool true)) (by kernel_rfl) (by rw [hb10]) ?_
    refine CH.alt 16 (sV (.bool (!(nameOk x5.f0)))) (sV (.bool true)) (by kernel_rfl) (by rw [hb10]) ?_
    replace hb10 := bnot_yes (hb10)
    refine CH.go 20 hτ (by kernel_rfl) ?_
    refine CH.endk ⟨[(0, lV (l.map d107)), (5, lV (l.map d107)), (6, iV ((l.map d107).length : Int)), (7, iV v7), (36, bV true)], [], 640⟩ (by kernel_rfl) (by kernel_rfl) rfl ?_
    refine X.ifT (by kernel_rfl) ?_
    refine X.seq ?_
    refine X.rk ⟨[(2, bV false)], [], 656⟩ hτ hmix (by kernel_rfl) (by kernel_rfl) rfl ?_
    refine X.ret ?_
    exact ⟨trivial, _, _, ⟨false, (by first | exact (fls (fun h => upto_no (by omega) (by omega) ‹_› (fun hr => by first | exact tf hr.1 ‹_› | exact absurd hr.2.1 ‹_› | exact tf (hr.2.2 _ (by omega) ‹_›) ‹_›) h.1)) | exact (dcd (by rw [inR_iff]; simp only [List.length_map]; exact ⟨fun h => ⟨upto_all hA (by omega), h⟩, fun h => h.2⟩))), rfl, rfl⟩, .inl (Ret.mk' [] (by kernel_rfl) (by kernel_rfl) (by kernel_rfl))⟩
   ·refine CH.alt 15 (sV (.bool (!(nameOk x5.f0)))) (sV (.bool false)) (by kernel_rfl) (by rw [hb10]) ?_
    refine CH.alt 16 (sV (.bool (!(nameOk x5.f0)))) (sV (.bool false)) (by kernel_rfl) (by rw [hb10]) ?_
    replace hb10 := bnot_no (hb10)
    refine CH.go 2 hτ (by kernel_rfl) ?_
    obtain ⟨r11, hr13, hf12⟩ := i_inRange x5.f1 1 1000000
    replace hr13 := hr13.symm; subst hr13
    refine CH.call hf12 Try.func72 ⟨rfl, rfl⟩ [] (by kernel_rfl) (by kernel_rfl) (by kernel_rfl) (by kernel_rfl) ?_
    refine CH.go 3 hτ (by kernel_rfl) ?_
    rcases Bool.eq_false_or_eq_true (!(inR x5.f1 1 1000000)) with hb15 | hb15
    ·refine CH.alt 20 (sV (.bool (!(inR x5.f1 1 1000000)))) (sV (.bool true)) (by kernel_rfl) (by rw [hb15]) ?_
     refine CH.alt 21 (sV (.bool (!(inR x5.f1 1 1000000)))) (sV (.bool true)) (by kernel_rfl) (by rw [hb15]) ?_
     refine CH.alt 22 (sV (.bool (!(inR x5.f1 1 1000000)))) (sV (.bool true)) (by kernel_rfl) (by rw [hb15]) ?_
     replace hb15 := inR_no (bnot_yes (hb15))
     refine CH.go 14 hτ (by kernel_rfl) ?_
     refine CH.endk ⟨[(0, lV (l.map d107)), (5, lV (l.map d107)), (6, iV ((l.map d107).length : Int)), (7, iV v7), (36, bV true)], [], 640⟩ (by kernel_rfl) (by kernel_rfl) rfl ?_
     refine X.ifT (by kernel_rfl) ?_
     refine X.seq ?_
     refine X.rk ⟨[(2, bV false)], [], 656⟩ hτ hmix (by kernel_rfl) (by kernel_rfl) rfl ?_
     refine X.ret ?_
     exact ⟨trivial, _, _, ⟨false, (by first | exact (fls (fun h => upto_no (by omega) (by omega) ‹_› (fun hr => by first | exact tf hr.1 ‹_› | exact absurd hr.2.1 ‹_› | exact tf (hr.2.2 _ (by omega) ‹_›) ‹_›) h.1)) | exact (dcd (by rw [inR_iff]; simp only [List.length_map]; exact ⟨fun h => ⟨upto_all hA (by omega), h⟩, fun h => h.2⟩))), rfl, rfl⟩, .inl (Ret.mk' [] (by kernel_rfl) (by kernel_rfl) (by kernel_rfl))⟩
    ·refine CH.alt 20 (sV (.bool (!(inR x5.f1 1 1000000)))) (sV (.bool false)) (by kernel_rfl) (by rw [hb15]) ?_
     refine CH.alt 21 (sV (.bool (!(inR x5.f1 1 1000000)))) (sV (.bool false)) (by kernel_rfl) (by rw [hb15]) ?_
     refine CH.alt 22 (sV (.bool (!(inR x5.f1 1 1000000)))) (sV (.bool false)) (by kernel_rfl) (by rw [hb15]) ?_
     replace hb15 := inR_yes (bnot_no (hb15))
     refine CH.go 3 hτ (by kernel_rfl) ?_
     rcases Bool.eq_false_or_eq_true (decide ((v7 : Int) > 0)) with hb16 | hb16
     ·refine CH.alt 24 (sV (.bool (decide ((v7 : Int) > 0)))) (sV (.bool true)) (by kernel_rfl) (by rw [hb16]) ?_
      refine CH.alt 25 (sV (.bool (decide ((v7 : Int) > 0)))) (sV (.bool true)) (by kernel_rfl) (by rw [hb16]) ?_
      replace hb16 := of_decide_eq_true (hb16)
      refine CH.go 5 hτ (by kernel_rfl) ?_
      obtain ⟨x17, hx17⟩ : ∃ x, l[Int.toNat (v7 - 1)]? = some x := ⟨_, List.getElem?_eq_getElem (by first | omega | (simp; done) | (simp; omega))⟩
      refine CH.alt 30 (sV (.int .i64 (wrap64 (v7 - 1)))) (sV (.int .i64 ((v7 - 1)))) (by kernel_rfl) (by rw [w64 (n := (v7 - 1)) (by omega) (by omega)]) ?_
      refine CH.idx hτ (d107 x17) (rows := (l.map d107)) (n := (v7 - 1)) (sz := 2) (by kernel_rfl) (by kernel_rfl) (by first | omega | (simp; done) | (simp; omega)) (by rw [List.getElem?_map, hx17]; rfl) (by kernel_rfl) ?_
      refine CH.go 5 hτ (by kernel_rfl) ?_
      refine CH.endk ⟨[(0, lV (l.map d107)), (5, lV (l.map d107)), (6, iV ((l.map d107).length : Int)), (7, iV v7), (36, bV (Op.bytesLess x5.f0.toList x17.f0.toList || x5.f0.toList == x17.f0.toList))], [], 640⟩ (by kernel_rfl) (by kernel_rfl) rfl ?_
      refine X.if_ (b := (Op.bytesLess x5.f0.toList x17.f0.toList || x5.f0.toList == x17.f0.toList)) (by kernel_rfl) (fun hb18 => ?_) (fun hb18 => ?_)
      ·replace hb18 := leq_yes (hb18)
       refine X.seq ?_
       refine X.rk ⟨[(2, bV false)], [], 656⟩ hτ hmix (by kernel_rfl) (by kernel_rfl) rfl ?_
       refine X.ret ?_
       exact ⟨trivial, _, _, ⟨false, (by first | exact (fls (fun h => upto_no (by omega) (by omega) ‹_› (fun hr => by first | exact tf hr.1 ‹_› | exact absurd hr.2.1 ‹_› | exact tf (hr.2.2 _ (by omega) ‹_›) ‹_›) h.1)) | exact (dcd (by rw [inR_iff]; simp only [List.length_map]; exact ⟨fun h => ⟨upto_all hA (by omega), h⟩, fun h => h.2⟩))), rfl, rfl⟩, .inl (Ret.mk' [] (by kernel_rfl) (by kernel_rfl) (by kernel_rfl))⟩
      ·replace hb18 := leq_no (hb18)
       refine X.skip ?_
       refine X.rk ⟨[(0, lV (l.map d107)), (5, lV (l.map d107)), (6, iV ((l.map d107).length : Int)), (7, iV (wrap64 (v7 + 1)))], [], 672⟩ hτ hmix (by kernel_rfl) (by kernel_rfl) (s2 := ⟨[(0, lV (l.map d107)), (5, lV (l.map d107)), (6, iV ((l.map d107).length : Int)), (7, iV (v7 + 1))], [], 672⟩) (congrArg (fun z : Int => (⟨[(0, lV (l.map d107)), (5, lV (l.map d107)), (6, iV ((l.map d107).length : Int)), (7, iV z)], [], 672⟩ : St)) (show wrap64 (v7 + 1) = (v7 + 1) by rw [w64 (n := (v7 + 1)) (by omega) (by omega)])) ?_
       refine ⟨⟨(v7 + 1), ⟨by first | omega | (dsimp only; omega), by first | omega | (dsimp only; omega), upto_nx (by first | omega | (dsimp only; omega)) hA ‹_› (⟨‹_›, ‹_›, (by first | exact fun y h0 hy => absurd h0 (by first | omega | (dsimp only; omega)) | exact prev_fn ‹_› ‹_›)⟩)⟩⟩, by first | exact rfl | omega | (dsimp only; omega) | (simp only [List.length_append, List.length_cons, List.length_nil, List.length_set]; omega) | (simp; done) | (simp; omega), Wk.mk' [] (by kernel_rfl) (by kernel_rfl) (by kernel_rfl)⟩
     ·refine CH.alt 24 (sV (.bool (decide ((v7 : Int) > 0)))) (sV (.bool false)) (by kernel_rfl) (by rw [hb16]) ?_
      refine CH.alt 25 (sV (.bool (decide ((v7 : Int) > 0)))) (sV (.bool false)) (by kernel_rfl) (by rw [hb16]) ?_
      replace hb16 := of_decide_eq_false (hb16)
      refine CH.go 11 hτ (by kernel_rfl) ?_
      refine CH.endk ⟨[(0, lV (l.map d107)), (5, lV (l.map d107)), (6, iV ((l.map d107).length : Int)), (7, iV v7), (36, bV false)], [], 640⟩ (by kernel_rfl) (by kernel_rfl) rfl ?_
      refine X.ifF (by kernel_rfl) ?_
      refine X.skip ?_
      refine X.rk ⟨[(0, lV (l.map d107)), (5, lV (l.map d107)), (6, iV ((l.map d107).length : Int)), (7, iV (wrap64 (v7 + 1)))], [], 672⟩ hτ hmix (by kernel_rfl) (by kernel_rfl) (s2 := ⟨[(0, lV (l.map d107)), (5, lV (l.map d107)), (6, iV ((l.map d107).length : Int)), (7, iV (v7 + 1))], [], 672⟩) (congrArg (fun z : Int => (⟨[(0, lV (l.map d107)), (5, lV (l.map d107)), (6, iV ((l.map d107).length : Int)), (7, iV z)], [], 672⟩ : St)) (show wrap64 (v7 + 1) = (v7 + 1) by rw [w64 (n := (v7 + 1)) (by omega) (by omega)])) ?_
      refine ⟨⟨(v7 + 1), ⟨by first | omega | (dsimp only; omega), by first | omega | (dsimp only; omega), upto_nx (by first | omega | (dsimp only; omega)) hA ‹_› (⟨‹_›, ‹_›, (by first | exact fun y h0 hy => absurd h0 (by first | omega | (dsimp only; omega)) | exact prev_fn ‹_› ‹_›)⟩)⟩⟩, by first | exact rfl | omega | (dsimp only; omega) | (simp only [List.length_append, List.length_cons, List.length_nil, List.length_set]; omega) | (simp; done) | (simp; omega), Wk.mk' [] (by kernel_rfl) (by kernel_rfl) (by kernel_rfl)⟩
  ·replace hb4 := of_decide_eq_false (hb4)
   refine X.exit ?_
   refine X.seq ?_
   refine X.rs 2 hτ hmix (by kernel_rfl) ?_
   obtain ⟨r19, hr21, hf20⟩ := i_inRange ((l.map d107).length : Int) 1 12
   replace hr21 := hr21.symm; subst hr21
   refine CH.call hf20 Try.func72 ⟨rfl, rfl⟩ [] (by kernel_rfl) (by kernel_rfl) (by kernel_rfl) (by kernel_rfl) ?_
   refine CH.go 1 hτ (by kernel_rfl) ?_
   refine CH.endk ⟨[(2, bV (inR ((l.map d107).length : Int) 1 12))], [], 208⟩ (by kernel_rfl) (by kernel_rfl) rfl ?_
   refine X.ret ?_
   exact ⟨trivial, _, _, ⟨(inR ((l.map d107).length : Int) 1 12), (by first | exact (fls (fun h => upto_no (by omega) (by omega) ‹_› (fun hr => by first | exact tf hr.1 ‹_› | exact absurd hr.2.1 ‹_› | exact tf (hr.2.2 _ (by omega) ‹_›) ‹_›) h.1)) | exact (dcd (by rw [inR_iff]; simp only [List.length_map]; exact ⟨fun h => ⟨upto_all hA (by omega), h⟩, fun h => h.2⟩))), rfl, rfl⟩, .inl (Ret.mk' [] (by kernel_rfl) (by kernel_rfl) (by kernel_rfl))⟩
 obtain ⟨_, _, ⟨r0, h1_, rfl, rfl⟩, hf⟩ := key
 exact ⟨r0, h1_, hf⟩

theorem s_BlockOk (b : S49) (hb : Sm49 b) : ∃ r0 : Bool, (r0 = blockOk b) ∧ Fn Try.prog 24 [.e (.agg (cD (d49 b)))] (lookH []) (bV r0) (lookH []) := by
 have key : ∃ x' h', ((fun x' h' => ∃ r0 : Bool, (r0 = blockOk b) ∧ x' = bV r0 ∧ h' = [])) x' h' ∧ Fn Try.prog 24 [.e (.agg (cD (d49 b)))] (lookH []) x' (lookH h') := by
  refine Fn.bodyX (N := 77) hτ Try.func24 rfl rfl rfl rfl ?_
  refine X.seq ?_
  refine X.rk ⟨[(1, .pt 64 0 0)], [(64, some (.box (cD (d49 b))))], 96⟩ hτ hmix (by kernel_rfl) (by kernel_rfl) rfl ?_
  refine X.seq ?_
  refine X.seq ?_
  refine X.rs 2 hτ hmix (by kernel_rfl) ?_
  obtain ⟨r1, hr3, hf2⟩ := s_l1In b.f0 0 100000
  replace hr3 := hr3.symm; subst hr3
  refine CH.call hf2 Try.func66 ⟨rfl, rfl⟩ [] (by kernel_rfl) (by kernel_rfl) (by kernel_rfl) (by kernel_rfl) ?_
  refine CH.go 2 hτ (by kernel_rfl) ?_
  rcases Bool.eq_false_or_eq_true (!(inR b.f0 0 100000)) with hb5 | hb5
  ·refine CH.alt 7 (sV (.bool (!(inR b.f0 0 100000)))) (sV (.bool true)) (by kernel_rfl) (by rw [hb5]) ?_
   refine CH.alt 8 (sV (.bool (!(inR b.f0 0 100000)))) (sV (.bool true)) (by kernel_rfl) (by rw [hb5]) ?_
   replace hb5 := inR_no (bnot_yes (hb5))
   refine CH.go 33 hτ (by kernel_rfl) ?_
   refine CH.endk ⟨[(1, .pt 64 0 0), (41, bV true)], [(64, some (.box (cD (d49 b))))], 704⟩ (by kernel_rfl) (by kernel_rfl) rfl ?_
   refine X.ifT (by kernel_rfl) ?_
   refine X.seq ?_
   refine X.rk ⟨[(2, bV false)], [], 720⟩ hτ hmix (by kernel_rfl) (by kernel_rfl) rfl ?_
   refine X.ret ?_
   exact ⟨trivial, _, _, ⟨false, (by (first | have hz := all_yes (p := txOk) (upto_all hA (by omega)) | have hz := all_no (p := txOk) ‹_› ‹_› | skip); rw [Bool.eq_iff_iff]; simp only [blockOk, Bool.and_eq_true, Bool.or_eq_true, inR_iff, decide_eq_true_eq, beq_iff_eq, Bool.false_eq_true, false_iff, true_iff, List.length_map]; first | (intro h; omega) | (intro h; simp_all; done) | (simp_all; done) | (simp_all; omega) | (constructor <;> intro h <;> (first | (simp_all; done) | (simp_all; omega) | omega))), rfl, rfl⟩, .inl (Ret.mk' [] (by kernel_rfl) (by kernel_rfl) (by kernel_rfl))⟩
  ·refine CH.alt 7 (sV (.bool (!(inR b.f0 0 100000)))) (sV (.bool false)) (by kernel_rfl) (by rw [hb5]) ?_
   refine CH.alt 8 (sV (.bool (!(inR b.f0 0 100000)))) (sV (.bool false)) (by kernel_rfl) (by rw [hb5]) ?_
   replace hb5 := inR_yes (bnot_no (hb5))
   refine CH.go 2 hτ (by kernel_rfl) ?_
   obtain ⟨r6, hr8, hf7⟩ := s_l1In b.f1 0 900
   replace hr8 := hr8.symm; subst hr8
   refine CH.call hf7 Try.func66 ⟨rfl, rfl⟩ [] (by kernel_rfl) (by kernel_rfl) (by kernel_rfl) (by kernel_rfl) ?_
   refine CH.go 3 hτ (by kernel_rfl) ?_
   rcases Bool.eq_false_or_eq_true (!(inR b.f1 0 900)) with hb10 | hb10
   ·refine CH.alt 12 (sV (.bool (!(inR b.f1 0 900)))) (sV (.bool true)) (by kernel_rfl) (by rw [hb10]) ?_
    refine CH.alt 13 (sV (.bool (!(inR b.f1 0 900)))) (sV (.bool true)) (by kernel_rfl) (by rw [hb10]) ?_
    refine CH.alt 14 (sV (.bool (!(inR b.f1 0 900)))) (sV (.bool true)) (by kernel_rfl) (by rw [hb10]) ?_
    replace hb10 := inR_no (bnot_yes (hb10))
    refine CH.go 27 hτ (by kernel_rfl) ?_
    refine CH.endk ⟨[(1, .pt 64 0 0), (41, bV true)], [(64, some (.box (cD (d49 b))))], 704⟩ (by kernel_rfl) (by kernel_rfl) rfl ?_
    refine X.ifT (by kernel_rfl) ?_
    refine X.seq ?_
    refine X.rk ⟨[(2, bV false)], [], 720⟩ hτ hmix (by kernel_rfl) (by kernel_rfl) rfl ?_
    refine X.ret ?_
    exact ⟨trivial, _, _, ⟨false, (by (first | have hz := all_yes (p := txOk) (upto_all hA (by omega)) | have hz := all_no (p := txOk) ‹_› ‹_› | skip); rw [Bool.eq_iff_iff]; simp only [blockOk, Bool.and_eq_true, Bool.or_eq_true, inR_iff, decide_eq_true_eq, beq_iff_eq, Bool.false_eq_true, false_iff, true_iff, List.length_map]; first | (intro h; omega) | (intro h; simp_all; done) | (simp_all; done) | (simp_all; omega) | (constructor <;> intro h <;> (first | (simp_all; done) | (simp_all; omega) | omega))), rfl, rfl⟩, .inl (Ret.mk' [] (by kernel_rfl) (by kernel_rfl) (by kernel_rfl))⟩
   ·refine CH.alt 12 (sV (.bool (!(inR b.f1 0 900)))) (sV (.bool false)) (by kernel_rfl) (by rw [hb10]) ?_
    refine CH.alt 13 (sV (.bool (!(inR b.f1 0 900)))) (sV (.bool false)) (by kernel_rfl) (by rw [hb10]) ?_
    refine CH.alt 14 (sV (.bool (!(inR b.f1 0 900)))) (sV (.bool false)) (by kernel_rfl) (by rw [hb10]) ?_
    replace hb10 := inR_yes (bnot_no (hb10))
    refine CH.go 2 hτ (by kernel_rfl) ?_
    obtain ⟨r11, hr13, hf12⟩ := s_l1In b.f2 1 10000
    replace hr13 := hr13.symm; subst hr13
    refine CH.call hf12 Try.func66 ⟨rfl, rfl⟩ [] (by kernel_rfl) (by kernel_rfl) (by kernel_rfl) (by kernel_rfl) ?_
    refine CH.go 3 hτ (by kernel_rfl) ?_
    rcases Bool.eq_false_or_eq_true (!(inR b.f2 1 10000)) with hb15 | hb15
    ·refine CH.alt 18 (sV (.bool (!(inR b.f2 1 10000)))) (sV (.bool true)) (by kernel_rfl) (by rw [hb15]) ?_
     refine CH.alt 19 (sV (.bool (!(inR b.f2 1 10000)))) (sV (.bool true)) (by kernel_rfl) (by rw [hb15]) ?_
     refine CH.alt 20 (sV (.bool (!(inR b.f2 1 10000)))) (sV (.bool true)) (by kernel_rfl) (by rw [hb15]) ?_
     replace hb15 := inR_no (bnot_yes (hb15))
     refine CH.go 21 hτ (by kernel_rfl) ?_
     refine CH.endk ⟨[(1, .pt 64 0 0), (41, bV true)], [(64, some (.box (cD (d49 b))))], 704⟩ (by kernel_rfl) (by kernel_rfl) rfl ?_
     refine X.ifT (by kernel_rfl) ?_
     refine X.seq ?_
     refine X.rk ⟨[(2, bV false)], [], 720⟩ hτ hmix (by kernel_rfl) (by kernel_rfl) rfl ?_
     refine X.ret ?_
     exact ⟨trivial, _, _, ⟨false, (by (first | have hz := all_yes (p := txOk) (upto_all hA (by omega)) | have hz := all_no (p := txOk) ‹_› ‹_› | skip); rw [Bool.eq_iff_iff]; simp only [blockOk, Bool.and_eq_true, Bool.or_eq_true, inR_iff, decide_eq_true_eq, beq_iff_eq, Bool.false_eq_true, false_iff, true_iff, List.length_map]; first | (intro h; omega) | (intro h; simp_all; done) | (simp_all; done) | (simp_all; omega) | (constructor <;> intro h <;> (first | (simp_all; done) | (simp_all; omega) | omega))), rfl, rfl⟩, .inl (Ret.mk' [] (by kernel_rfl) (by kernel_rfl) (by kernel_rfl))⟩
    ·refine CH.alt 18 (sV (.bool (!(inR b.f2 1 10000)))) (sV (.bool false)) (by kernel_rfl) (by rw [hb15]) ?_
     refine CH.alt 19 (sV (.bool (!(inR b.f2 1 10000)))) (sV (.bool false)) (by kernel_rfl) (by rw [hb15]) ?_
     refine CH.alt 20 (sV (.bool (!(inR b.f2 1 10000)))) (sV (.bool false)) (by kernel_rfl) (by rw [hb15]) ?_
     replace hb15 := inR_yes (bnot_no (hb15))
     refine CH.go 2 hτ (by kernel_rfl) ?_
     obtain ⟨r16, hr18, hf17⟩ := s_NameOk b.f3 (by exact hb.1)
     replace hr18 := hr18.symm; subst hr18
     refine CH.call hf17 Try.func67 ⟨rfl, rfl⟩ [] (by kernel_rfl) (by kernel_rfl) (by kernel_rfl) (by kernel_rfl) ?_
     refine CH.go 3 hτ (by kernel_rfl) ?_
     rcases Bool.eq_false_or_eq_true (!(nameOk b.f3)) with hb20 | hb20
     ·refine CH.alt 24 (sV (.bool (!(nameOk b.f3)))) (sV (.bool true)) (by kernel_rfl) (by rw [hb20]) ?_
      refine CH.alt 25 (sV (.bool (!(nameOk b.f3)))) (sV (.bool true)) (by kernel_rfl) (by rw [hb20]) ?_
      refine CH.alt 26 (sV (.bool (!(nameOk b.f3)))) (sV (.bool true)) (by kernel_rfl) (by rw [hb20]) ?_
      replace hb20 := bnot_yes (hb20)
      refine CH.go 15 hτ (by kernel_rfl) ?_
      refine CH.endk ⟨[(1, .pt 64 0 0), (41, bV true)], [(64, some (.box (cD (d49 b))))], 704⟩ (by kernel_rfl) (by kernel_rfl) rfl ?_
      refine X.ifT (by kernel_rfl) ?_
      refine X.seq ?_
      refine X.rk ⟨[(2, bV false)], [], 720⟩ hτ hmix (by kernel_rfl) (by kernel_rfl) rfl ?_
      refine X.ret ?_
      exact ⟨trivial, _, _, ⟨false, (by (first | have hz := all_yes (p := txOk) (upto_all hA (by omega)) | have hz := all_no (p := txOk) ‹_› ‹_› | skip); rw [Bool.eq_iff_iff]; simp only [blockOk, Bool.and_eq_true, Bool.or_eq_true, inR_iff, decide_eq_true_eq, beq_iff_eq, Bool.false_eq_true, false_iff, true_iff, List.length_map]; first | (intro h; omega) | (intro h; simp_all; done) | (simp_all; done) | (simp_all; omega) | (constructor <;> intro h <;> (first | (simp_all; done) | (simp_all; omega) | omega))), rfl, rfl⟩, .inl (Ret.mk' [] (by kernel_rfl) (by kernel_rfl) (by kernel_rfl))⟩
     ·refine CH.alt 24 (sV (.bool (!(nameOk b.f3)))) (sV (.bool false)) (by kernel_rfl) (by rw [hb20]) ?_
      refine CH.alt 25 (sV (.bool (!(nameOk b.f3)))) (sV (.bool false)) (by kernel_rfl) (by rw [hb20]) ?_
      refine CH.alt 26 (sV (.bool (!(nameOk b.f3)))) (sV (.bool false)) (by kernel_rfl) (by rw [hb20]) ?_
      replace hb20 := bnot_no (hb20)
      refine CH.go 1 hτ (by kernel_rfl) ?_
      obtain ⟨r21, hr23, hf22⟩ := s_l9Qc b (by assumption)
      replace hr23 := hr23.symm; subst hr23
      refine CH.call hf22 Try.func68 ⟨rfl, rfl⟩ [] (by kernel_rfl) (by kernel_rfl) (by kernel_rfl) (by kernel_rfl) ?_
      refine CH.go 3 hτ (by kernel_rfl) ?_
      rcases Bool.eq_false_or_eq_true (!(qcForm b.f4 (wr .i64 (b.f2 - 1)) (wr .i64 (b.f0 - 1)))) with hb25 | hb25
      ·refine CH.alt 29 (sV (.bool (!(qcForm b.f4 (wr .i64 (b.f2 - 1)) (wr .i64 (b.f0 - 1)))))) (sV (.bool true)) (by kernel_rfl) (by rw [hb25]) ?_
       refine CH.alt 30 (sV (.bool (!(qcForm b.f4 (wr .i64 (b.f2 - 1)) (wr .i64 (b.f0 - 1)))))) (sV (.bool true)) (by kernel_rfl) (by rw [hb25]) ?_
       refine CH.alt 31 (sV (.bool (!(qcForm b.f4 (wr .i64 (b.f2 - 1)) (wr .i64 (b.f0 - 1)))))) (sV (.bool true)) (by kernel_rfl) (by rw [hb25]) ?_
       replace hb25 := bnot_yes (hb25)
       refine CH.go 10 hτ (by kernel_rfl) ?_
       refine CH.endk ⟨[(1, .pt 64 0 0), (41, bV true)], [(64, some (.box (cD (d49 b))))], 704⟩ (by kernel_rfl) (by kernel_rfl) rfl ?_
       refine X.ifT (by kernel_rfl) ?_
       refine X.seq ?_
       refine X.rk ⟨[(2, bV false)], [], 720⟩ hτ hmix (by kernel_rfl) (by kernel_rfl) rfl ?_
       refine X.ret ?_
       exact ⟨trivial, _, _, ⟨false, (by (first | have hz := all_yes (p := txOk) (upto_all hA (by omega)) | have hz := all_no (p := txOk) ‹_› ‹_› | skip); rw [Bool.eq_iff_iff]; simp only [blockOk, Bool.and_eq_true, Bool.or_eq_true, inR_iff, decide_eq_true_eq, beq_iff_eq, Bool.false_eq_true, false_iff, true_iff, List.length_map]; first | (intro h; omega) | (intro h; simp_all; done) | (simp_all; done) | (simp_all; omega) | (constructor <;> intro h <;> (first | (simp_all; done) | (simp_all; omega) | omega))), rfl, rfl⟩, .inl (Ret.mk' [] (by kernel_rfl) (by kernel_rfl) (by kernel_rfl))⟩
      ·refine CH.alt 29 (sV (.bool (!(qcForm b.f4 (wr .i64 (b.f2 - 1)) (wr .i64 (b.f0 - 1)))))) (sV (.bool false)) (by kernel_rfl) (by rw [hb25]) ?_
       refine CH.alt 30 (sV (.bool (!(qcForm b.f4 (wr .i64 (b.f2 - 1)) (wr .i64 (b.f0 - 1)))))) (sV (.bool false)) (by kernel_rfl) (by rw [hb25]) ?_
       refine CH.alt 31 (sV (.bool (!(qcForm b.f4 (wr .i64 (b.f2 - 1)) (wr .i64 (b.f0 - 1)))))) (sV (.bool false)) (by kernel_rfl) (by rw [hb25]) ?_
       replace hb25 := bnot_no (hb25)
       refine CH.go 1 hτ (by kernel_rfl) ?_
       obtain ⟨r26, hr28, hf27⟩ := s_l9Tc b (by assumption)
       replace hr28 := hr28.symm; subst hr28
       refine CH.call hf27 Try.func69 ⟨rfl, rfl⟩ [] (by kernel_rfl) (by kernel_rfl) (by kernel_rfl) (by kernel_rfl) ?_
       refine CH.go 3 hτ (by kernel_rfl) ?_
       rcases Bool.eq_false_or_eq_true (!(tcForm b.f5 (wr .i64 (b.f2 - 1)))) with hb30 | hb30
       ·refine CH.alt 34 (sV (.bool (!(tcForm b.f5 (wr .i64 (b.f2 - 1)))))) (sV (.bool true)) (by kernel_rfl) (by rw [hb30]) ?_
        refine CH.alt 35 (sV (.bool (!(tcForm b.f5 (wr .i64 (b.f2 - 1)))))) (sV (.bool true)) (by kernel_rfl) (by rw [hb30]) ?_
        refine CH.alt 36 (sV (.bool (!(tcForm b.f5 (wr .i64 (b.f2 - 1)))))) (sV (.bool true)) (by kernel_rfl) (by rw [hb30]) ?_
        replace hb30 := bnot_yes (hb30)
        refine CH.go 5 hτ (by kernel_rfl) ?_
        refine CH.endk ⟨[(1, .pt 64 0 0), (41, bV true)], [(64, some (.box (cD (d49 b))))], 704⟩ (by kernel_rfl) (by kernel_rfl) rfl ?_
        refine X.ifT (by kernel_rfl) ?_
        refine X.seq ?_
        refine X.rk ⟨[(2, bV false)], [], 720⟩ hτ hmix (by kernel_rfl) (by kernel_rfl) rfl ?_
        refine X.ret ?_
        exact ⟨trivial, _, _, ⟨false, (by (first | have hz := all_yes (p := txOk) (upto_all hA (by omega)) | have hz := all_no (p := txOk) ‹_› ‹_› | skip); rw [Bool.eq_iff_iff]; simp only [blockOk, Bool.and_eq_true, Bool.or_eq_true, inR_iff, decide_eq_true_eq, beq_iff_eq, Bool.false_eq_true, false_iff, true_iff, List.length_map]; first | (intro h; omega) | (intro h; simp_all; done) | (simp_all; done) | (simp_all; omega) | (constructor <;> intro h <;> (first | (simp_all; done) | (simp_all; omega) | omega))), rfl, rfl⟩, .inl (Ret.mk' [] (by kernel_rfl) (by kernel_rfl) (by kernel_rfl))⟩
       ·refine CH.alt 34 (sV (.bool (!(tcForm b.f5 (wr .i64 (b.f2 - 1)))))) (sV (.bool false)) (by kernel_rfl) (by rw [hb30]) ?_
        refine CH.alt 35 (sV (.bool (!(tcForm b.f5 (wr .i64 (b.f2 - 1)))))) (sV (.bool false)) (by kernel_rfl) (by rw [hb30]) ?_
        refine CH.alt 36 (sV (.bool (!(tcForm b.f5 (wr .i64 (b.f2 - 1)))))) (sV (.bool false)) (by kernel_rfl) (by rw [hb30]) ?_
        replace hb30 := bnot_no (hb30)
        refine CH.go 5 hτ (by kernel_rfl) ?_
        have el31 : (b.f6.map d26).length = b.f6.length := List.length_map ..
        refine CH.endk ⟨[(1, .pt 64 0 0), (41, bV (decide ((((b.f6.map d26).length : Int) : Int) > 4)))], [(64, some (.box (cD (d49 b))))], 704⟩ (by kernel_rfl) (by kernel_rfl) rfl ?_
        refine X.if_ (b := decide ((((b.f6.map d26).length : Int) : Int) > 4)) (by kernel_rfl) (fun hb32 => ?_) (fun hb32 => ?_)
        ·replace hb32 := of_decide_eq_true (hb32)
         refine X.seq ?_
         refine X.rk ⟨[(2, bV false)], [], 720⟩ hτ hmix (by kernel_rfl) (by kernel_rfl) rfl ?_
         refine X.ret ?_
         exact ⟨trivial, _, _, ⟨false, (by (first | have hz := all_yes (p := txOk) (upto_all hA (by omega)) | have hz := all_no (p := txOk) ‹_› ‹_› | skip); rw [Bool.eq_iff_iff]; simp only [blockOk, Bool.and_eq_true, Bool.or_eq_true, inR_iff, decide_eq_true_eq, beq_iff_eq, Bool.false_eq_true, false_iff, true_iff, List.length_map]; first | (intro h; omega) | (intro h; simp_all; done) | (simp_all; done) | (simp_all; omega) | (constructor <;> intro h <;> (first | (simp_all; done) | (simp_all; omega) | omega))), rfl, rfl⟩, .inl (Ret.mk' [] (by kernel_rfl) (by kernel_rfl) (by kernel_rfl))⟩
        ·replace hb32 := of_decide_eq_false (hb32)
         refine X.skip ?_
         refine X.seq ?_
         refine X.seq ?_
         refine X.rk ⟨[(1, .pt 64 0 0), (3, iV 0)], [(64, some (.box (cD (d49 b))))], 720⟩ hτ hmix (by kernel_rfl) (by kernel_rfl) rfl ?_
         refine X.block ?_
         -- 4: v3 : Int
         refine X.loop (σ := { g : Int // (fun (v3 : Int) => 0 ≤ v3 ∧ v3 ≤ b.f6.length ∧ Upto (fun _ x => txOk x = true) (fun n => b.f6[n]?) v3) g }) (fun g => (fun (v3 : Int) => ⟨[(1, .pt 64 0 0), (3, iV v3)], [(64, some (.box (cD (d49 b))))], 720⟩) g.1) (fun g => (fun (v3 : Int) => (b.f6.length - v3).toNat) g.1) ⟨0, ⟨by first | omega | (dsimp only; omega), by first | omega | (dsimp only; omega), upto_zero⟩⟩ (Wk.less (by kernel_rfl)) (fun g => ?_)
         obtain ⟨v3, hg34⟩ := g
         have hg34 : 0 ≤ v3 ∧ v3 ≤ b.f6.length ∧ Upto (fun _ x => txOk x = true) (fun n => b.f6[n]?) v3 := hg34
         obtain ⟨_, _, hA⟩ := hg34
         refine X.seq ?_
         refine X.seq ?_
         have hm := hb.2.2.2.1.1
         refine X.rk ⟨[(1, .pt 64 0 0), (3, iV v3), (46, bV (decide ((v3 : Int) < ((b.f6.map d26).length : Int))))], [(64, some (.box (cD (d49 b))))], 800⟩ hτ hmix (by kernel_rfl) (by kernel_rfl) rfl ?_
         refine X.if_ (b := decide ((v3 : Int) < ((b.f6.map d26).length : Int))) (by kernel_rfl) (fun hb35 => ?_) (fun hb35 => ?_)
         ·replace hb35 := of_decide_eq_true (hb35)
          refine X.skip ?_
          refine X.seq ?_
          refine X.block ?_
          refine X.seq ?_
          refine X.rs 3 hτ hmix (by kernel_rfl) ?_
          obtain ⟨x36, hx36⟩ : ∃ x, b.f6[Int.toNat v3]? = some x := ⟨_, List.getElem?_eq_getElem (by first | omega | (simp; done) | (simp; omega))⟩
          refine CH.idx hτ (d26 x36) (rows := (b.f6.map d26)) (n := v3) (sz := 5) (by kernel_rfl) (by kernel_rfl) (by first | omega | (simp; done) | (simp; omega)) (by rw [List.getElem?_map, hx36]; rfl) (by kernel_rfl) ?_
          refine CH.go 1 hτ (by kernel_rfl) ?_
          obtain ⟨r37, hr39, hf38⟩ := s_TxOk x36 (by exact all_at hb.2.2.2.1.2 ‹_›)
          replace hr39 := hr39.symm; subst hr39
          refine CH.call hf38 Try.func70 ⟨rfl, rfl⟩ [] (by kernel_rfl) (by kernel_rfl) (by kernel_rfl) (by kernel_rfl) ?_
          refine CH.go 1 hτ (by kernel_rfl) ?_
          refine CH.endk ⟨[(1, .pt 64 0 0), (3, iV v3), (55, bV (!(txOk x36)))], [(64, some (.box (cD (d49 b))))], 912⟩ (by kernel_rfl) (by kernel_rfl) rfl ?_
          refine X.if_ (b := !(txOk x36)) (by kernel_rfl) (fun hb41 => ?_) (fun hb41 => ?_)
          ·replace hb41 := bnot_yes (hb41)
           refine X.seq ?_
           refine X.rk ⟨[(2, bV false)], [], 928⟩ hτ hmix (by kernel_rfl) (by kernel_rfl) rfl ?_
           refine X.ret ?_
           exact ⟨trivial, _, _, ⟨false, (by (first | have hz := all_yes (p := txOk) (upto_all hA (by omega)) | have hz := all_no (p := txOk) ‹_› ‹_› | skip); rw [Bool.eq_iff_iff]; simp only [blockOk, Bool.and_eq_true, Bool.or_eq_true, inR_iff, decide_eq_true_eq, beq_iff_eq, Bool.false_eq_true, false_iff, true_iff, List.length_map]; first | (intro h; omega) | (intro h; simp_all; done) | (simp_all; done) | (simp_all; omega) | (constructor <;> intro h <;> (first | (simp_all; done) | (simp_all; omega) | omega))), rfl, rfl⟩, .inl (Ret.mk' [] (by kernel_rfl) (by kernel_rfl) (by kernel_rfl))⟩
          ·replace hb41 := bnot_no (hb41)
           refine X.skip ?_
           refine X.rk ⟨[(1, .pt 64 0 0), (3, iV (wrap64 (v3 + 1)))], [(64, some (.box (cD (d49 b))))], 960⟩ hτ hmix (by kernel_rfl) (by kernel_rfl) (s2 := ⟨[(1, .pt 64 0 0), (3, iV (v3 + 1))], [(64, some (.box (cD (d49 b))))], 960⟩) (congrArg (fun z : Int => (⟨[(1, .pt 64 0 0), (3, iV z)], [(64, some (.box (cD (d49 b))))], 960⟩ : St)) (show wrap64 (v3 + 1) = (v3 + 1) by rw [w64 (n := (v3 + 1)) (by omega) (by omega)])) ?_
           refine ⟨⟨(v3 + 1), ⟨by first | omega | (dsimp only; omega), by first | omega | (dsimp only; omega), upto_nx (by first | omega | (dsimp only; omega)) hA ‹_› (‹_›)⟩⟩, by first | exact rfl | omega | (dsimp only; omega) | (simp only [List.length_append, List.length_cons, List.length_nil, List.length_set]; omega) | (simp; done) | (simp; omega), Wk.mk' [(64, 64)] (by kernel_rfl) (by kernel_rfl) (by kernel_rfl)⟩
         ·replace hb35 := of_decide_eq_false (hb35)
          refine X.exit ?_
          refine X.seq ?_
          refine X.seq ?_
          refine X.rk ⟨[(1, .pt 64 0 0), (58, bV (!b.f7))], [(64, some (.box (cD (d49 b))))], 848⟩ hτ hmix (by kernel_rfl) (by kernel_rfl) rfl ?_
          refine X.if_ (b := !b.f7) (by kernel_rfl) (fun hb42 => ?_) (fun hb42 => ?_)
          ·replace hb42 := bnot_yes (hb42)
           refine X.seq ?_
           have el43 : (b.f8.map d107).length = b.f8.length := List.length_map ..
           refine X.rs 5 hτ hmix (by kernel_rfl) ?_
           rcases Bool.eq_false_or_eq_true ((((b.f8.map d107).length : Int) == 0)) with hb44 | hb44
           ·refine CH.alt 62 (sV (.bool ((((b.f8.map d107).length : Int) == 0)))) (sV (.bool true)) (by kernel_rfl) (by rw [hb44]) ?_
            refine CH.alt 63 (sV (.bool ((((b.f8.map d107).length : Int) == 0)))) (sV (.bool true)) (by kernel_rfl) (by rw [hb44]) ?_
            replace hb44 := eq_of_beq (hb44)
            refine CH.go 5 hτ (by kernel_rfl) ?_
            refine CH.endk ⟨[(2, bV (b.f9.toList == (⟨#[]⟩ : ByteArray).toList))], [], 1008⟩ (by kernel_rfl) (by kernel_rfl) rfl ?_
            refine X.ret ?_
            exact ⟨trivial, _, _, ⟨(b.f9.toList == (⟨#[]⟩ : ByteArray).toList), (by (first | have hz := all_yes (p := txOk) (upto_all hA (by omega)) | have hz := all_no (p := txOk) ‹_› ‹_› | skip); rw [Bool.eq_iff_iff]; simp only [blockOk, Bool.and_eq_true, Bool.or_eq_true, inR_iff, decide_eq_true_eq, beq_iff_eq, Bool.false_eq_true, false_iff, true_iff, List.length_map]; first | (intro h; omega) | (intro h; simp_all; done) | (simp_all; done) | (simp_all; omega) | (constructor <;> intro h <;> (first | (simp_all; done) | (simp_all; omega) | omega))), rfl, rfl⟩, .inl (Ret.mk' [] (by kernel_rfl) (by kernel_rfl) (by kernel_rfl))⟩
           ·refine CH.alt 62 (sV (.bool ((((b.f8.map d107).length : Int) == 0)))) (sV (.bool false)) (by kernel_rfl) (by rw [hb44]) ?_
            refine CH.alt 63 (sV (.bool ((((b.f8.map d107).length : Int) == 0)))) (sV (.bool false)) (by kernel_rfl) (by rw [hb44]) ?_
            replace hb44 := beq_eq_false_iff_ne.1 (hb44)
            refine CH.go 5 hτ (by kernel_rfl) ?_
            refine CH.endk ⟨[(2, bV false)], [], 1008⟩ (by kernel_rfl) (by kernel_rfl) rfl ?_
            refine X.ret ?_
            exact ⟨trivial, _, _, ⟨false, (by (first | have hz := all_yes (p := txOk) (upto_all hA (by omega)) | have hz := all_no (p := txOk) ‹_› ‹_› | skip); rw [Bool.eq_iff_iff]; simp only [blockOk, Bool.and_eq_true, Bool.or_eq_true, inR_iff, decide_eq_true_eq, beq_iff_eq, Bool.false_eq_true, false_iff, true_iff, List.length_map]; first | (intro h; omega) | (intro h; simp_all; done) | (simp_all; done) | (simp_all; omega) | (constructor <;> intro h <;> (first | (simp_all; done) | (simp_all; omega) | omega))), rfl, rfl⟩, .inl (Ret.mk' [] (by kernel_rfl) (by kernel_rfl) (by kernel_rfl))⟩
          ·replace hb42 := bnot_no (hb42)
           refine X.skip ?_
           refine X.seq ?_
           refine X.rs 2 hτ hmix (by kernel_rfl) ?_
           obtain ⟨r45, hr47, hf46⟩ := s_SetOk b.f8 (by exact hb.2.2.2.2.1)
           replace hr47 := hr47.symm; subst hr47
           refine CH.call hf46 Try.func71 ⟨rfl, rfl⟩ [] (by kernel_rfl) (by kernel_rfl) (by kernel_rfl) (by kernel_rfl) ?_
           refine CH.go 1 hτ (by kernel_rfl) ?_
           rcases Bool.eq_false_or_eq_true ((setOk b.f8)) with hb49 | hb49
           ·refine CH.alt 70 (sV (.bool ((setOk b.f8)))) (sV (.bool true)) (by kernel_rfl) (by rw [hb49]) ?_
            refine CH.alt 71 (sV (.bool ((setOk b.f8)))) (sV (.bool true)) (by kernel_rfl) (by rw [hb49]) ?_
            refine CH.go 6 hτ (by kernel_rfl) ?_
            refine CH.endk ⟨[(2, bV ((b.f9.size : Int) == 32))], [], 1008⟩ (by kernel_rfl) (by kernel_rfl) rfl ?_
            refine X.ret ?_
            exact ⟨trivial, _, _, ⟨((b.f9.size : Int) == 32), (by (first | have hz := all_yes (p := txOk) (upto_all hA (by omega)) | have hz := all_no (p := txOk) ‹_› ‹_› | skip); rw [Bool.eq_iff_iff]; simp only [blockOk, Bool.and_eq_true, Bool.or_eq_true, inR_iff, decide_eq_true_eq, beq_iff_eq, Bool.false_eq_true, false_iff, true_iff, List.length_map]; first | (intro h; omega) | (intro h; simp_all; done) | (simp_all; done) | (simp_all; omega) | (constructor <;> intro h <;> (first | (simp_all; done) | (simp_all; omega) | omega))), rfl, rfl⟩, .inl (Ret.mk' [] (by kernel_rfl) (by kernel_rfl) (by kernel_rfl))⟩
           ·refine CH.alt 70 (sV (.bool ((setOk b.f8)))) (sV (.bool false)) (by kernel_rfl) (by rw [hb49]) ?_
            refine CH.alt 71 (sV (.bool ((setOk b.f8)))) (sV (.bool false)) (by kernel_rfl) (by rw [hb49]) ?_
            refine CH.go 6 hτ (by kernel_rfl) ?_
            refine CH.endk ⟨[(2, bV false)], [], 1008⟩ (by kernel_rfl) (by kernel_rfl) rfl ?_
            refine X.ret ?_
            exact ⟨trivial, _, _, ⟨false, (by (first | have hz := all_yes (p := txOk) (upto_all hA (by omega)) | have hz := all_no (p := txOk) ‹_› ‹_› | skip); rw [Bool.eq_iff_iff]; simp only [blockOk, Bool.and_eq_true, Bool.or_eq_true, inR_iff, decide_eq_true_eq, beq_iff_eq, Bool.false_eq_true, false_iff, true_iff, List.length_map]; first | (intro h; omega) | (intro h; simp_all; done) | (simp_all; done) | (simp_all; omega) | (constructor <;> intro h <;> (first | (simp_all; done) | (simp_all; omega) | omega))), rfl, rfl⟩, .inl (Ret.mk' [] (by kernel_rfl) (by kernel_rfl) (by kernel_rfl))⟩
 obtain ⟨_, _, ⟨r0, h1_, rfl, rfl⟩, hf⟩ := key
 exact ⟨r0, h1_, hf⟩

theorem i_BlockOk (b : S49) (hb : Sm49 b) : ∃ r0 : Bool, (r0 = blockOk b) ∧ Fn Try.prog 25 [.e (.agg (cD (d49 b)))] (lookH []) (bV r0) (lookH []) := by
 have key : ∃ x' h', ((fun x' h' => ∃ r0 : Bool, (r0 = blockOk b) ∧ x' = bV r0 ∧ h' = [])) x' h' ∧ Fn Try.prog 25 [.e (.agg (cD (d49 b)))] (lookH []) x' (lookH h') := by
  refine Fn.bodyX (N := 77) hτ Try.func25 rfl rfl rfl rfl ?_
  refine X.seq ?_
  refine X.rk ⟨[(1, .pt 64 0 0)], [(64, some (.box (cD (d49 b))))], 96⟩ hτ hmix (by kernel_rfl) (by kernel_rfl) rfl ?_
  refine X.seq ?_
  refine X.seq ?_
  refine X.rs 2 hτ hmix (by kernel_rfl) ?_
  obtain ⟨r1, hr3, hf2⟩ := i_inRange b.f0 0 100000
  replace hr3 := hr3.symm; subst hr3
  refine CH.call hf2 Try.func72 ⟨rfl, rfl⟩ [] (by kernel_rfl) (by kernel_rfl) (by kernel_rfl) (by kernel_rfl) ?_
  refine CH.go 2 hτ (by kernel_rfl) ?_
  rcases Bool.eq_false_or_eq_true (!(inR b.f0 0 100000)) with hb5 | hb5
  ·refine CH.alt 6 (sV (.bool (!(inR b.f0 0 100000)))) (sV (.bool true)) (by kernel_rfl) (by rw [hb5]) ?_
   refine CH.alt 7 (sV (.bool (!(inR b.f0 0 100000)))) (sV (.bool true)) (by kernel_rfl) (by rw [hb5]) ?_
   replace hb5 := inR_no (bnot_yes (hb5))
   refine CH.go 17 hτ (by kernel_rfl) ?_
   refine CH.endk ⟨[(1, .pt 64 0 0), (24, bV true)], [(64, some (.box (cD (d49 b))))], 448⟩ (by kernel_rfl) (by kernel_rfl) rfl ?_
   refine X.ifT (by kernel_rfl) ?_
   refine X.seq ?_
   refine X.rk ⟨[(2, bV false)], [], 464⟩ hτ hmix (by kernel_rfl) (by kernel_rfl) rfl ?_
   refine X.ret ?_
   exact ⟨trivial, _, _, ⟨false, (by (first | have hz := all_yes (p := txOk) (upto_all hA (by omega)) | have hz := all_no (p := txOk) ‹_› ‹_› | skip); rw [Bool.eq_iff_iff]; simp only [blockOk, Bool.and_eq_true, Bool.or_eq_true, inR_iff, decide_eq_true_eq, beq_iff_eq, Bool.false_eq_true, false_iff, true_iff, List.length_map]; first | (intro h; omega) | (intro h; simp_all; done) | (simp_all; done) | (simp_all; omega) | (constructor <;> intro h <;> (first | (simp_all; done) | (simp_all; omega) | omega))), rfl, rfl⟩, .inl (Ret.mk' [] (by kernel_rfl) (by kernel_rfl) (by kernel_rfl))⟩
  ·refine CH.alt 6 (sV (.bool (!(inR b.f0 0 100000)))) (sV (.bool false)) (by kernel_rfl) (by rw [hb5]) ?_
   refine CH.alt 7 (sV (.bool (!(inR b.f0 0 100000)))) (sV (.bool false)) (by kernel_rfl) (by rw [hb5]) ?_
   replace hb5 := inR_yes (bnot_no (hb5))
   refine CH.go 2 hτ (by kernel_rfl) ?_
   obtain ⟨r6, hr8, hf7⟩ := i_inRange b.f1 0 900
   replace hr8 := hr8.symm; subst hr8
   refine CH.call hf7 Try.func72 ⟨rfl, rfl⟩ [] (by kernel_rfl) (by kernel_rfl) (by kernel_rfl) (by kernel_rfl) ?_
   refine CH.go 3 hτ (by kernel_rfl) ?_
   rcases Bool.eq_false_or_eq_true (!(inR b.f1 0 900)) with hb10 | hb10
   ·refine CH.alt 11 (sV (.bool (!(inR b.f1 0 900)))) (sV (.bool true)) (by kernel_rfl) (by rw [hb10]) ?_
    refine CH.alt 12 (sV (.bool (!(inR b.f1 0 900)))) (sV (.bool true)) (by kernel_rfl) (by rw [hb10]) ?_
    refine CH.alt 13 (sV (.bool (!(inR b.f1 0 900)))) (sV (.bool true)) (by kernel_rfl) (by rw [hb10]) ?_
    replace hb10 := inR_no (bnot_yes (hb10))
    refine CH.go 11 hτ (by kernel_rfl) ?_
    refine CH.endk ⟨[(1, .pt 64 0 0), (24, bV true)], [(64, some (.box (cD (d49 b))))], 448⟩ (by kernel_rfl) (by kernel_rfl) rfl ?_
    refine X.ifT (by kernel_rfl) ?_
    refine X.seq ?_
    refine X.rk ⟨[(2, bV false)], [], 464⟩ hτ hmix (by kernel_rfl) (by kernel_rfl) rfl ?_
    refine X.ret ?_
    exact ⟨trivial, _, _, ⟨false, (by (first | have hz := all_yes (p := txOk) (upto_all hA (by omega)) | have hz := all_no (p := txOk) ‹_› ‹_› | skip); rw [Bool.eq_iff_iff]; simp only [blockOk, Bool.and_eq_true, Bool.or_eq_true, inR_iff, decide_eq_true_eq, beq_iff_eq, Bool.false_eq_true, false_iff, true_iff, List.length_map]; first | (intro h; omega) | (intro h; simp_all; done) | (simp_all; done) | (simp_all; omega) | (constructor <;> intro h <;> (first | (simp_all; done) | (simp_all; omega) | omega))), rfl, rfl⟩, .inl (Ret.mk' [] (by kernel_rfl) (by kernel_rfl) (by kernel_rfl))⟩
   ·refine CH.alt 11 (sV (.bool (!(inR b.f1 0 900)))) (sV (.bool false)) (by kernel_rfl) (by rw [hb10]) ?_
    refine CH.alt 12 (sV (.bool (!(inR b.f1 0 900)))) (sV (.bool false)) (by kernel_rfl) (by rw [hb10]) ?_
    refine CH.alt 13 (sV (.bool (!(inR b.f1 0 900)))) (sV (.bool false)) (by kernel_rfl) (by rw [hb10]) ?_
    replace hb10 := inR_yes (bnot_no (hb10))
    refine CH.go 2 hτ (by kernel_rfl) ?_
    obtain ⟨r11, hr13, hf12⟩ := i_inRange b.f2 1 10000
    replace hr13 := hr13.symm; subst hr13
    refine CH.call hf12 Try.func72 ⟨rfl, rfl⟩ [] (by kernel_rfl) (by kernel_rfl) (by kernel_rfl) (by kernel_rfl) ?_
    refine CH.go 3 hτ (by kernel_rfl) ?_
    rcases Bool.eq_false_or_eq_true (!(inR b.f2 1 10000)) with hb15 | hb15
    ·refine CH.alt 17 (sV (.bool (!(inR b.f2 1 10000)))) (sV (.bool true)) (by kernel_rfl) (by rw [hb15]) ?_
     refine CH.alt 18 (sV (.bool (!(inR b.f2 1 10000)))) (sV (.bool true)) (by kernel_rfl) (by rw [hb15]) ?_
     refine CH.alt 19 (sV (.bool (!(inR b.f2 1 10000)))) (sV (.bool true)) (by kernel_rfl) (by rw [hb15]) ?_
     replace hb15 := inR_no (bnot_yes (hb15))
     refine CH.go 5 hτ (by kernel_rfl) ?_
     refine CH.endk ⟨[(1, .pt 64 0 0), (24, bV true)], [(64, some (.box (cD (d49 b))))], 448⟩ (by kernel_rfl) (by kernel_rfl) rfl ?_
     refine X.ifT (by kernel_rfl) ?_
     refine X.seq ?_
     refine X.rk ⟨[(2, bV false)], [], 464⟩ hτ hmix (by kernel_rfl) (by kernel_rfl) rfl ?_
     refine X.ret ?_
     exact ⟨trivial, _, _, ⟨false, (by (first | have hz := all_yes (p := txOk) (upto_all hA (by omega)) | have hz := all_no (p := txOk) ‹_› ‹_› | skip); rw [Bool.eq_iff_iff]; simp only [blockOk, Bool.and_eq_true, Bool.or_eq_true, inR_iff, decide_eq_true_eq, beq_iff_eq, Bool.false_eq_true, false_iff, true_iff, List.length_map]; first | (intro h; omega) | (intro h; simp_all; done) | (simp_all; done) | (simp_all; omega) | (constructor <;> intro h <;> (first | (simp_all; done) | (simp_all; omega) | omega))), rfl, rfl⟩, .inl (Ret.mk' [] (by kernel_rfl) (by kernel_rfl) (by kernel_rfl))⟩
    ·refine CH.alt 17 (sV (.bool (!(inR b.f2 1 10000)))) (sV (.bool false)) (by kernel_rfl) (by rw [hb15]) ?_
     refine CH.alt 18 (sV (.bool (!(inR b.f2 1 10000)))) (sV (.bool false)) (by kernel_rfl) (by rw [hb15]) ?_
     refine CH.alt 19 (sV (.bool (!(inR b.f2 1 10000)))) (sV (.bool false)) (by kernel_rfl) (by rw [hb15]) ?_
     replace hb15 := inR_yes (bnot_no (hb15))
     refine CH.go 2 hτ (by kernel_rfl) ?_
     obtain ⟨r16, hr18, hf17⟩ := i_NameOk b.f3 (by exact hb.1)
     replace hr18 := hr18.symm; subst hr18
     refine CH.call hf17 Try.func73 ⟨rfl, rfl⟩ [] (by kernel_rfl) (by kernel_rfl) (by kernel_rfl) (by kernel_rfl) ?_
     refine CH.go 2 hτ (by kernel_rfl) ?_
     refine CH.endk ⟨[(1, .pt 64 0 0), (24, bV (!(nameOk b.f3)))], [(64, some (.box (cD (d49 b))))], 448⟩ (by kernel_rfl) (by kernel_rfl) rfl ?_
     refine X.if_ (b := !(nameOk b.f3)) (by kernel_rfl) (fun hb20 => ?_) (fun hb20 => ?_)
     ·replace hb20 := bnot_yes (hb20)
      refine X.seq ?_
      refine X.rk ⟨[(2, bV false)], [], 464⟩ hτ hmix (by kernel_rfl) (by kernel_rfl) rfl ?_
      refine X.ret ?_
      exact ⟨trivial, _, _, ⟨false, (by (first | have hz := all_yes (p := txOk) (upto_all hA (by omega)) | have hz := all_no (p := txOk) ‹_› ‹_› | skip); rw [Bool.eq_iff_iff]; simp only [blockOk, Bool.and_eq_true, Bool.or_eq_true, inR_iff, decide_eq_true_eq, beq_iff_eq, Bool.false_eq_true, false_iff, true_iff, List.length_map]; first | (intro h; omega) | (intro h; simp_all; done) | (simp_all; done) | (simp_all; omega) | (constructor <;> intro h <;> (first | (simp_all; done) | (simp_all; omega) | omega))), rfl, rfl⟩, .inl (Ret.mk' [] (by kernel_rfl) (by kernel_rfl) (by kernel_rfl))⟩
     ·replace hb20 := bnot_no (hb20)
      refine X.skip ?_
      refine X.seq ?_
      refine X.seq ?_
      have hm := hb.2.2.2.1.1
      refine X.rs 8 hτ hmix (by kernel_rfl) ?_
      obtain ⟨r21, hr23, hf22⟩ := i_qcForm b.f4 (wr .i64 (b.f2 - 1)) (wr .i64 (b.f0 - 1)) (by exact hb.2.1)
      replace hr23 := hr23.symm; subst hr23
      refine CH.call hf22 Try.func74 ⟨rfl, rfl⟩ [] (by kernel_rfl) (by kernel_rfl) (by kernel_rfl) (by kernel_rfl) ?_
      refine CH.go 2 hτ (by kernel_rfl) ?_
      rcases Bool.eq_false_or_eq_true (!(qcForm b.f4 (wr .i64 (b.f2 - 1)) (wr .i64 (b.f0 - 1)))) with hb25 | hb25
      ·refine CH.alt 34 (sV (.bool (!(qcForm b.f4 (wr .i64 (b.f2 - 1)) (wr .i64 (b.f0 - 1)))))) (sV (.bool true)) (by kernel_rfl) (by rw [hb25]) ?_
       refine CH.alt 35 (sV (.bool (!(qcForm b.f4 (wr .i64 (b.f2 - 1)) (wr .i64 (b.f0 - 1)))))) (sV (.bool true)) (by kernel_rfl) (by rw [hb25]) ?_
       replace hb25 := bnot_yes (hb25)
       refine CH.go 20 hτ (by kernel_rfl) ?_
       refine CH.endk ⟨[(1, .pt 64 0 0), (55, bV true)], [(64, some (.box (cD (d49 b))))], 944⟩ (by kernel_rfl) (by kernel_rfl) rfl ?_
       refine X.ifT (by kernel_rfl) ?_
       refine X.seq ?_
       refine X.rk ⟨[(2, bV false)], [], 960⟩ hτ hmix (by kernel_rfl) (by kernel_rfl) rfl ?_
       refine X.ret ?_
       exact ⟨trivial, _, _, ⟨false, (by (first | have hz := all_yes (p := txOk) (upto_all hA (by omega)) | have hz := all_no (p := txOk) ‹_› ‹_› | skip); rw [Bool.eq_iff_iff]; simp only [blockOk, Bool.and_eq_true, Bool.or_eq_true, inR_iff, decide_eq_true_eq, beq_iff_eq, Bool.false_eq_true, false_iff, true_iff, List.length_map]; first | (intro h; omega) | (intro h; simp_all; done) | (simp_all; done) | (simp_all; omega) | (constructor <;> intro h <;> (first | (simp_all; done) | (simp_all; omega) | omega))), rfl, rfl⟩, .inl (Ret.mk' [] (by kernel_rfl) (by kernel_rfl) (by kernel_rfl))⟩
      ·refine CH.alt 34 (sV (.bool (!(qcForm b.f4 (wr .i64 (b.f2 - 1)) (wr .i64 (b.f0 - 1)))))) (sV (.bool false)) (by kernel_rfl) (by rw [hb25]) ?_
       refine CH.alt 35 (sV (.bool (!(qcForm b.f4 (wr .i64 (b.f2 - 1)) (wr .i64 (b.f0 - 1)))))) (sV (.bool false)) (by kernel_rfl) (by rw [hb25]) ?_
       replace hb25 := bnot_no (hb25)
       refine CH.go 5 hτ (by kernel_rfl) ?_
       obtain ⟨r26, hr28, hf27⟩ := i_tcForm b.f5 (wr .i64 (b.f2 - 1)) (by exact hb.2.2.1)
       replace hr28 := hr28.symm; subst hr28
       refine CH.call hf27 Try.func75 ⟨rfl, rfl⟩ [] (by kernel_rfl) (by kernel_rfl) (by kernel_rfl) (by kernel_rfl) ?_
       refine CH.go 3 hτ (by kernel_rfl) ?_
       rcases Bool.eq_false_or_eq_true (!(tcForm b.f5 (wr .i64 (b.f2 - 1)))) with hb30 | hb30
       ·refine CH.alt 42 (sV (.bool (!(tcForm b.f5 (wr .i64 (b.f2 - 1)))))) (sV (.bool true)) (by kernel_rfl) (by rw [hb30]) ?_
        refine CH.alt 43 (sV (.bool (!(tcForm b.f5 (wr .i64 (b.f2 - 1)))))) (sV (.bool true)) (by kernel_rfl) (by rw [hb30]) ?_
        refine CH.alt 44 (sV (.bool (!(tcForm b.f5 (wr .i64 (b.f2 - 1)))))) (sV (.bool true)) (by kernel_rfl) (by rw [hb30]) ?_
        replace hb30 := bnot_yes (hb30)
        refine CH.go 11 hτ (by kernel_rfl) ?_
        refine CH.endk ⟨[(1, .pt 64 0 0), (55, bV true)], [(64, some (.box (cD (d49 b))))], 944⟩ (by kernel_rfl) (by kernel_rfl) rfl ?_
        refine X.ifT (by kernel_rfl) ?_
        refine X.seq ?_
        refine X.rk ⟨[(2, bV false)], [], 960⟩ hτ hmix (by kernel_rfl) (by kernel_rfl) rfl ?_
        refine X.ret ?_
        exact ⟨trivial, _, _, ⟨false, (by (first | have hz := all_yes (p := txOk) (upto_all hA (by omega)) | have hz := all_no (p := txOk) ‹_› ‹_› | skip); rw [Bool.eq_iff_iff]; simp only [blockOk, Bool.and_eq_true, Bool.or_eq_true, inR_iff, decide_eq_true_eq, beq_iff_eq, Bool.false_eq_true, false_iff, true_iff, List.length_map]; first | (intro h; omega) | (intro h; simp_all; done) | (simp_all; done) | (simp_all; omega) | (constructor <;> intro h <;> (first | (simp_all; done) | (simp_all; omega) | omega))), rfl, rfl⟩, .inl (Ret.mk' [] (by kernel_rfl) (by kernel_rfl) (by kernel_rfl))⟩
       ·refine CH.alt 42 (sV (.bool (!(tcForm b.f5 (wr .i64 (b.f2 - 1)))))) (sV (.bool false)) (by kernel_rfl) (by rw [hb30]) ?_
        refine CH.alt 43 (sV (.bool (!(tcForm b.f5 (wr .i64 (b.f2 - 1)))))) (sV (.bool false)) (by kernel_rfl) (by rw [hb30]) ?_
        refine CH.alt 44 (sV (.bool (!(tcForm b.f5 (wr .i64 (b.f2 - 1)))))) (sV (.bool false)) (by kernel_rfl) (by rw [hb30]) ?_
        replace hb30 := bnot_no (hb30)
        refine CH.go 6 hτ (by kernel_rfl) ?_
        have el31 : (b.f6.map d26).length = b.f6.length := List.length_map ..
        rcases Bool.eq_false_or_eq_true (decide ((((b.f6.map d26).length : Int) : Int) > 4)) with hb32 | hb32
        ·refine CH.alt 48 (sV (.bool (decide ((((b.f6.map d26).length : Int) : Int) > 4)))) (sV (.bool true)) (by kernel_rfl) (by rw [hb32]) ?_
         refine CH.alt 49 (sV (.bool (decide ((((b.f6.map d26).length : Int) : Int) > 4)))) (sV (.bool true)) (by kernel_rfl) (by rw [hb32]) ?_
         refine CH.alt 50 (sV (.bool (decide ((((b.f6.map d26).length : Int) : Int) > 4)))) (sV (.bool true)) (by kernel_rfl) (by rw [hb32]) ?_
         replace hb32 := of_decide_eq_true (hb32)
         refine CH.go 5 hτ (by kernel_rfl) ?_
         refine CH.endk ⟨[(1, .pt 64 0 0), (55, bV true)], [(64, some (.box (cD (d49 b))))], 944⟩ (by kernel_rfl) (by kernel_rfl) rfl ?_
         refine X.ifT (by kernel_rfl) ?_
         refine X.seq ?_
         refine X.rk ⟨[(2, bV false)], [], 960⟩ hτ hmix (by kernel_rfl) (by kernel_rfl) rfl ?_
         refine X.ret ?_
         exact ⟨trivial, _, _, ⟨false, (by (first | have hz := all_yes (p := txOk) (upto_all hA (by omega)) | have hz := all_no (p := txOk) ‹_› ‹_› | skip); rw [Bool.eq_iff_iff]; simp only [blockOk, Bool.and_eq_true, Bool.or_eq_true, inR_iff, decide_eq_true_eq, beq_iff_eq, Bool.false_eq_true, false_iff, true_iff, List.length_map]; first | (intro h; omega) | (intro h; simp_all; done) | (simp_all; done) | (simp_all; omega) | (constructor <;> intro h <;> (first | (simp_all; done) | (simp_all; omega) | omega))), rfl, rfl⟩, .inl (Ret.mk' [] (by kernel_rfl) (by kernel_rfl) (by kernel_rfl))⟩
        ·refine CH.alt 48 (sV (.bool (decide ((((b.f6.map d26).length : Int) : Int) > 4)))) (sV (.bool false)) (by kernel_rfl) (by rw [hb32]) ?_
         refine CH.alt 49 (sV (.bool (decide ((((b.f6.map d26).length : Int) : Int) > 4)))) (sV (.bool false)) (by kernel_rfl) (by rw [hb32]) ?_
         refine CH.alt 50 (sV (.bool (decide ((((b.f6.map d26).length : Int) : Int) > 4)))) (sV (.bool false)) (by kernel_rfl) (by rw [hb32]) ?_
         replace hb32 := of_decide_eq_false (hb32)
         refine CH.go 2 hτ (by kernel_rfl) ?_
         obtain ⟨r33, hr35, hf34⟩ := i_txsOk b.f6 (by exact hb.2.2.2.1)
         replace hr35 := hr35.symm; subst hr35
         refine CH.call hf34 Try.func76 ⟨rfl, rfl⟩ [] (by kernel_rfl) (by kernel_rfl) (by kernel_rfl) (by kernel_rfl) ?_
         refine CH.go 2 hτ (by kernel_rfl) ?_
         refine CH.endk ⟨[(1, .pt 64 0 0), (55, bV (!(b.f6.all txOk)))], [(64, some (.box (cD (d49 b))))], 944⟩ (by kernel_rfl) (by kernel_rfl) rfl ?_
         refine X.if_ (b := !(b.f6.all txOk)) (by kernel_rfl) (fun hb37 => ?_) (fun hb37 => ?_)
         ·replace hb37 := bnot_yes (hb37)
          refine X.seq ?_
          refine X.rk ⟨[(2, bV false)], [], 960⟩ hτ hmix (by kernel_rfl) (by kernel_rfl) rfl ?_
          refine X.ret ?_
          exact ⟨trivial, _, _, ⟨false, (by (first | have hz := all_yes (p := txOk) (upto_all hA (by omega)) | have hz := all_no (p := txOk) ‹_› ‹_› | skip); rw [Bool.eq_iff_iff]; simp only [blockOk, Bool.and_eq_true, Bool.or_eq_true, inR_iff, decide_eq_true_eq, beq_iff_eq, Bool.false_eq_true, false_iff, true_iff, List.length_map]; first | (intro h; omega) | (intro h; simp_all; done) | (simp_all; done) | (simp_all; omega) | (constructor <;> intro h <;> (first | (simp_all; done) | (simp_all; omega) | omega))), rfl, rfl⟩, .inl (Ret.mk' [] (by kernel_rfl) (by kernel_rfl) (by kernel_rfl))⟩
         ·replace hb37 := bnot_no (hb37)
          refine X.skip ?_
          refine X.seq ?_
          refine X.seq ?_
          refine X.rk ⟨[(1, .pt 64 0 0), (58, bV (!b.f7))], [(64, some (.box (cD (d49 b))))], 992⟩ hτ hmix (by kernel_rfl) (by kernel_rfl) rfl ?_
          refine X.if_ (b := !b.f7) (by kernel_rfl) (fun hb38 => ?_) (fun hb38 => ?_)
          ·replace hb38 := bnot_yes (hb38)
           refine X.seq ?_
           have el39 : (b.f8.map d107).length = b.f8.length := List.length_map ..
           refine X.rs 5 hτ hmix (by kernel_rfl) ?_
           rcases Bool.eq_false_or_eq_true ((((b.f8.map d107).length : Int) == 0)) with hb40 | hb40
           ·refine CH.alt 62 (sV (.bool ((((b.f8.map d107).length : Int) == 0)))) (sV (.bool true)) (by kernel_rfl) (by rw [hb40]) ?_
            refine CH.alt 63 (sV (.bool ((((b.f8.map d107).length : Int) == 0)))) (sV (.bool true)) (by kernel_rfl) (by rw [hb40]) ?_
            replace hb40 := eq_of_beq (hb40)
            refine CH.go 5 hτ (by kernel_rfl) ?_
            refine CH.endk ⟨[(2, bV (b.f9.toList == (⟨#[]⟩ : ByteArray).toList))], [], 1152⟩ (by kernel_rfl) (by kernel_rfl) rfl ?_
            refine X.ret ?_
            exact ⟨trivial, _, _, ⟨(b.f9.toList == (⟨#[]⟩ : ByteArray).toList), (by (first | have hz := all_yes (p := txOk) (upto_all hA (by omega)) | have hz := all_no (p := txOk) ‹_› ‹_› | skip); rw [Bool.eq_iff_iff]; simp only [blockOk, Bool.and_eq_true, Bool.or_eq_true, inR_iff, decide_eq_true_eq, beq_iff_eq, Bool.false_eq_true, false_iff, true_iff, List.length_map]; first | (intro h; omega) | (intro h; simp_all; done) | (simp_all; done) | (simp_all; omega) | (constructor <;> intro h <;> (first | (simp_all; done) | (simp_all; omega) | omega))), rfl, rfl⟩, .inl (Ret.mk' [] (by kernel_rfl) (by kernel_rfl) (by kernel_rfl))⟩
           ·refine CH.alt 62 (sV (.bool ((((b.f8.map d107).length : Int) == 0)))) (sV (.bool false)) (by kernel_rfl) (by rw [hb40]) ?_
            refine CH.alt 63 (sV (.bool ((((b.f8.map d107).length : Int) == 0)))) (sV (.bool false)) (by kernel_rfl) (by rw [hb40]) ?_
            replace hb40 := beq_eq_false_iff_ne.1 (hb40)
            refine CH.go 5 hτ (by kernel_rfl) ?_
            refine CH.endk ⟨[(2, bV false)], [], 1152⟩ (by kernel_rfl) (by kernel_rfl) rfl ?_
            refine X.ret ?_
            exact ⟨trivial, _, _, ⟨false, (by (first | have hz := all_yes (p := txOk) (upto_all hA (by omega)) | have hz := all_no (p := txOk) ‹_› ‹_› | skip); rw [Bool.eq_iff_iff]; simp only [blockOk, Bool.and_eq_true, Bool.or_eq_true, inR_iff, decide_eq_true_eq, beq_iff_eq, Bool.false_eq_true, false_iff, true_iff, List.length_map]; first | (intro h; omega) | (intro h; simp_all; done) | (simp_all; done) | (simp_all; omega) | (constructor <;> intro h <;> (first | (simp_all; done) | (simp_all; omega) | omega))), rfl, rfl⟩, .inl (Ret.mk' [] (by kernel_rfl) (by kernel_rfl) (by kernel_rfl))⟩
          ·replace hb38 := bnot_no (hb38)
           refine X.skip ?_
           refine X.seq ?_
           refine X.rs 2 hτ hmix (by kernel_rfl) ?_
           obtain ⟨r41, hr43, hf42⟩ := i_SetOk b.f8 (by exact hb.2.2.2.2.1)
           replace hr43 := hr43.symm; subst hr43
           refine CH.call hf42 Try.func77 ⟨rfl, rfl⟩ [] (by kernel_rfl) (by kernel_rfl) (by kernel_rfl) (by kernel_rfl) ?_
           refine CH.go 1 hτ (by kernel_rfl) ?_
           rcases Bool.eq_false_or_eq_true ((setOk b.f8)) with hb45 | hb45
           ·refine CH.alt 70 (sV (.bool ((setOk b.f8)))) (sV (.bool true)) (by kernel_rfl) (by rw [hb45]) ?_
            refine CH.alt 71 (sV (.bool ((setOk b.f8)))) (sV (.bool true)) (by kernel_rfl) (by rw [hb45]) ?_
            refine CH.go 6 hτ (by kernel_rfl) ?_
            refine CH.endk ⟨[(2, bV ((b.f9.size : Int) == 32))], [], 1152⟩ (by kernel_rfl) (by kernel_rfl) rfl ?_
            refine X.ret ?_
            exact ⟨trivial, _, _, ⟨((b.f9.size : Int) == 32), (by (first | have hz := all_yes (p := txOk) (upto_all hA (by omega)) | have hz := all_no (p := txOk) ‹_› ‹_› | skip); rw [Bool.eq_iff_iff]; simp only [blockOk, Bool.and_eq_true, Bool.or_eq_true, inR_iff, decide_eq_true_eq, beq_iff_eq, Bool.false_eq_true, false_iff, true_iff, List.length_map]; first | (intro h; omega) | (intro h; simp_all; done) | (simp_all; done) | (simp_all; omega) | (constructor <;> intro h <;> (first | (simp_all; done) | (simp_all; omega) | omega))), rfl, rfl⟩, .inl (Ret.mk' [] (by kernel_rfl) (by kernel_rfl) (by kernel_rfl))⟩
           ·refine CH.alt 70 (sV (.bool ((setOk b.f8)))) (sV (.bool false)) (by kernel_rfl) (by rw [hb45]) ?_
            refine CH.alt 71 (sV (.bool ((setOk b.f8)))) (sV (.bool false)) (by kernel_rfl) (by rw [hb45]) ?_
            refine CH.go 6 hτ (by kernel_rfl) ?_
            refine CH.endk ⟨[(2, bV false)], [], 1152⟩ (by kernel_rfl) (by kernel_rfl) rfl ?_
            refine X.ret ?_
            exact ⟨trivial, _, _, ⟨false, (by (first | have hz := all_yes (p := txOk) (upto_all hA (by omega)) | have hz := all_no (p := txOk) ‹_› ‹_› | skip); rw [Bool.eq_iff_iff]; simp only [blockOk, Bool.and_eq_true, Bool.or_eq_true, inR_iff, decide_eq_true_eq, beq_iff_eq, Bool.false_eq_true, false_iff, true_iff, List.length_map]; first | (intro h; omega) | (intro h; simp_all; done) | (simp_all; done) | (simp_all; omega) | (constructor <;> intro h <;> (first | (simp_all; done) | (simp_all; omega) | omega))), rfl, rfl⟩, .inl (Ret.mk' [] (by kernel_rfl) (by kernel_rfl) (by kernel_rfl))⟩
 obtain ⟨_, _, ⟨r0, h1_, rfl, rfl⟩, hf⟩ := key
 exact ⟨r0, h1_, hf⟩
end Go.Proofs.Ytnieghbgcjbnhaa.Av
