/-
What functions of the program come to, walked one by one.
Conditions: none beside those that each theorem names.
-/
import Derived.Test.YtggmeldoecnkaaaAvPO
set_option linter.unusedVariables false
set_option linter.unusedSimpArgs false
namespace Go.Proofs.Ytggmeldoecnkaaa.Av
open Go.RowKit
set_option maxRecDepth 20000
set_option maxHeartbeats 4000000
theorem s_PoolAdd (l : List S35) (t : S35) (hl : SmT l) (ht : Sm35 t) (hs : l.length < 2000000) : ∃ r0 : List S35, ∃ r1 : Bool, (r0 = paR l t ∧ r1 = paOk l t) ∧ Fn Try.prog 159 [lV (l.map d35), .e (.agg (cD (d35 t)))] (lookH []) (.tup [.c (.ref 64), .c (.d (.v (.bool r1)))]) (lookH [(64, some (.row 5 35 (r0.map d35) false true))]) := by
 have key : ∃ x' h', ((fun x' h' => ∃ r0 : List S35, ∃ r1 : Bool, (r0 = paR l t ∧ r1 = paOk l t) ∧ x' = .tup [.c (.ref 64), .c (.d (.v (.bool r1)))] ∧ h' = [(64, some (.row 5 35 (r0.map d35) false true))])) x' h' ∧ Fn Try.prog 159 [lV (l.map d35), .e (.agg (cD (d35 t)))] (lookH []) x' (lookH h') := by
  refine Fn.bodyX (N := 54) hτ Try.func159 rfl rfl rfl rfl ?_
  refine sk ⟨[(0, lV (l.map d35)), (3, .pt 64 0 0)], [(64, some (.box (cD (d35 t))))], 112⟩ ?_
  refine X.seq ?_
  have hm := hl.1
  refine rs 2 ?_
  have el1 : (l.map d35).length = l.length := List.length_map ..
  refine CH.app hτ (rows := []) (rows2 := (l.map d35)) (sz := 5) (bys := 56) true (by kernel_rfl) (by kernel_rfl) (fun _ => flat_d d35 (fun x => rfl)) (flat_ok (f := d35) (fun x => rfl)) (by simp only [List.length_map] <;> (first | done | omega | (simp; done) | (simp; omega))) (by kernel_rfl) ?_
  refine go 2 ?_
  have el2 : (([t] : List S35).map d35).length = ([t] : List S35).length := List.length_map ..
  have el3 : ([t] : List S35).length = 1 := rfl
  refine CH.app hτ (rows := (l.map d35)) (rows2 := (([t] : List S35).map d35)) (sz := 5) (bys := 56) true (by kernel_rfl) (by kernel_rfl) (fun _ => flat_d d35 (fun x => rfl)) (flat_ok (f := d35) (fun x => rfl)) (by simp only [List.length_map] <;> (first | done | omega | (simp; done) | (simp; omega))) (by kernel_rfl) ?_
  refine go 1 ?_
  refine CH.endk ⟨[(0, lV (l.map d35)), (3, .pt 64 0 0), (6, rV 192)], [(64, some (.box (cD (d35 t)))), (192, some (.row 5 35 ((l.map d35) ++ (([t] : List S35).map d35)) false true))], 224⟩ (by kernel_rfl) (by kernel_rfl) (s2 := ⟨[(0, lV (l.map d35)), (3, .pt 64 0 0), (6, rV 192)], [(64, some (.box (cD (d35 t)))), (192, some (.row 5 35 ((l ++ ([t] : List S35)).map d35) false true))], 224⟩) (congrArg (fun z : List (List D) => (⟨[(0, lV (l.map d35)), (3, .pt 64 0 0), (6, rV 192)], [(64, some (.box (cD (d35 t)))), (192, some (.row 5 35 z false true))], 224⟩ : St)) (show (l.map d35) ++ (([t] : List S35).map d35) = ((l ++ ([t] : List S35)).map d35) from List.map_append.symm)) ?_
  refine X.seq ?_
  have el4 : ((l ++ ([t] : List S35)).map d35).length = (l ++ ([t] : List S35)).length := List.length_map ..
  have el5 : (l ++ ([t] : List S35)).length = l.length + ([t] : List S35).length := List.length_append
  have el6 : ([t] : List S35).length = 1 := rfl
  refine X.rk ⟨[(0, lV (l.map d35)), (3, .pt 64 0 0), (6, rV 192), (7, iV (wrap64 ((((l ++ ([t] : List S35)).map d35).length : Int) - 1)))], [(64, some (.box (cD (d35 t)))), (192, some (.row 5 35 ((l ++ ([t] : List S35)).map d35) false true))], 288⟩ hτ hmix (by kernel_rfl) (by kernel_rfl) (s2 := ⟨[(0, lV (l.map d35)), (3, .pt 64 0 0), (6, rV 192), (7, iV ((((l ++ ([t] : List S35)).map d35).length : Int) - 1))], [(64, some (.box (cD (d35 t)))), (192, some (.row 5 35 ((l ++ ([t] : List S35)).map d35) false true))], 288⟩) (congrArg (fun z : Int => (⟨[(0, lV (l.map d35)), (3, .pt 64 0 0), (6, rV 192), (7, iV z)], [(64, some (.box (cD (d35 t)))), (192, some (.row 5 35 ((l ++ ([t] : List S35)).map d35) false true))], 288⟩ : St)) (show wrap64 ((((l ++ ([t] : List S35)).map d35).length : Int) - 1) = ((((l ++ ([t] : List S35)).map d35).length : Int) - 1) by rw [w64 (n := ((((l ++ ([t] : List S35)).map d35).length : Int) - 1)) (by omega) (by omega)])) ?_
  refine X.seq ?_
  refine X.block ?_
  -- 3: Lv6 : List S35, v7 : Int
  refine X.loop (σ := { g : (List S35) × Int // (fun (Lv6 : List S35) (v7 : Int) => 0 ≤ v7 ∧ v7 ≤ (l.length : Int) ∧ Lv6.set v7.toNat t = insAt l [t] v7.toNat ∧ (∀ (j : Nat) (x : S35), v7.toNat ≤ j → l[j]? = some x → cmpTx t x < 0) ∧ Lv6.length = l.length + 1 ∧ ∀ x, x ∈ Lv6 → Sm35 x) g.1 g.2 }) (fun g => (fun (Lv6 : List S35) (v7 : Int) => ⟨[(0, lV (l.map d35)), (3, .pt 64 0 0), (6, rV 192), (7, iV v7)], [(64, some (.box (cD (d35 t)))), (192, some (.row 5 35 (Lv6.map d35) false true))], 288⟩) g.1.1 g.1.2) (fun g => (fun (Lv6 : List S35) (v7 : Int) => v7.toNat) g.1.1 g.1.2) ⟨((l ++ ([t] : List S35)), ((((l ++ ([t] : List S35)).map d35).length : Int) - 1)), ⟨by first | omega | (simp; done) | (simp; omega), by first | omega | (simp; done) | (simp; omega), (by rw [show Int.toNat _ = l.length from (by simp)]; exact pa_first), fun j x h hx => by have := (List.getElem?_eq_some_iff.1 hx).1; simp at h; omega, by simp, all_app hl.2 (all_one ht)⟩⟩ (Wk.less (by kernel_rfl)) (fun g => ?_)
  obtain ⟨⟨Lv6, v7⟩, hg8⟩ := g
  have hg8 : 0 ≤ v7 ∧ v7 ≤ (l.length : Int) ∧ Lv6.set v7.toNat t = insAt l [t] v7.toNat ∧ (∀ (j : Nat) (x : S35), v7.toNat ≤ j → l[j]? = some x → cmpTx t x < 0) ∧ Lv6.length = l.length + 1 ∧ ∀ x, x ∈ Lv6 → Sm35 x := hg8
  obtain ⟨_, _, hE, hG, hlen, hA⟩ := hg8
  refine X.seq ?_
  refine X.seq (rs 3 ?_)
  rcases Bool.eq_false_or_eq_true (decide ((v7 : Int) > 0)) with hb9 | hb9
  ·refine aT 18 hb9 ?_
   refine aT 19 hb9 ?_
   replace hb9 := of_decide_eq_true (hb9)
   refine go 4 ?_
   refine CH.alt 23 (sV (.int .i64 (wrap64 (v7 - 1)))) (sV (.int .i64 ((v7 - 1)))) (by kernel_rfl) (by rw [w64 (n := (v7 - 1)) (by omega) (by omega)]) ?_
   refine CH.idxR hτ (rows := (Lv6.map d35)) (n := (v7 - 1)) (b := 192) (by kernel_rfl) (by kernel_rfl) (by first | omega | (simp; done) | (simp; omega)) (by simp only [List.length_map, List.length_set]; first | omega | (simp; done) | (simp; omega)) (by kernel_rfl) ?_
   obtain ⟨x10, hx10⟩ : ∃ x, Lv6[Int.toNat (v7 - 1)]? = some x := ⟨_, List.getElem?_eq_getElem (by first | omega | (simp; done) | (simp; omega))⟩
   refine CH.row hτ (d35 x10) (by kernel_rfl) (by kernel_rfl) (by rw [List.getElem?_map, hx10]; rfl) (by kernel_rfl) ?_
   obtain ⟨r11, hr13, hf12⟩ := s_TxLess t x10
   replace hr13 := hr13.symm; subst hr13
   refine ca hf12 Try.func187 ?_
   refine go 1 ?_
   refine ek ⟨[(0, lV (l.map d35)), (3, .pt 64 0 0), (6, rV 192), (7, iV v7), (27, bV (txLess t x10))], [(64, some (.box (cD (d35 t)))), (192, some (.row 5 35 (Lv6.map d35) false true))], 464⟩ ?_
   refine if_ (b := (txLess t x10)) (fun hb15 => ?_) (fun hb15 => ?_)
   ·refine X.skip ?_
    refine X.block ?_
    refine X.seq (rs 5 ?_)
    refine CH.alt 32 (sV (.int .i64 (wrap64 (v7 - 1)))) (sV (.int .i64 ((v7 - 1)))) (by kernel_rfl) (by rw [w64 (n := (v7 - 1)) (by omega) (by omega)]) ?_
    refine CH.idxR hτ (rows := (Lv6.map d35)) (n := (v7 - 1)) (b := 192) (by kernel_rfl) (by kernel_rfl) (by first | omega | (simp; done) | (simp; omega)) (by simp only [List.length_map, List.length_set]; first | omega | (simp; done) | (simp; omega)) (by kernel_rfl) ?_
    refine CH.row hτ (d35 x10) (by kernel_rfl) (by kernel_rfl) (by rw [List.getElem?_map, hx10]; rfl) (by kernel_rfl) ?_
    refine CH.idxR hτ (rows := (Lv6.map d35)) (n := v7) (b := 192) (by kernel_rfl) (by kernel_rfl) (by first | omega | (simp; done) | (simp; omega)) (by simp only [List.length_map, List.length_set]; first | omega | (simp; done) | (simp; omega)) (by kernel_rfl) ?_
    obtain ⟨x16, hx16⟩ : ∃ x, Lv6[Int.toNat v7]? = some x := ⟨_, List.getElem?_eq_getElem (by first | omega | (simp; done) | (simp; omega))⟩
    refine CH.row hτ (d35 x16) (by kernel_rfl) (by kernel_rfl) (by rw [List.getElem?_map, hx16]; rfl) (by kernel_rfl) ?_
    refine CH.endk ⟨[(0, lV (l.map d35)), (3, .pt 64 0 0), (6, rV 192), (7, iV v7)], [(64, some (.box (cD (d35 t)))), (192, some (.row 5 35 ((Lv6.map d35).set (Int.toNat v7) (d35 x10)) false true))], 608⟩ (by kernel_rfl) (by kernel_rfl) (s2 := ⟨[(0, lV (l.map d35)), (3, .pt 64 0 0), (6, rV 192), (7, iV v7)], [(64, some (.box (cD (d35 t)))), (192, some (.row 5 35 ((Lv6.set (Int.toNat v7) x10).map d35) false true))], 608⟩) (congrArg (fun z : List (List D) => (⟨[(0, lV (l.map d35)), (3, .pt 64 0 0), (6, rV 192), (7, iV v7)], [(64, some (.box (cD (d35 t)))), (192, some (.row 5 35 z false true))], 608⟩ : St)) (show ((Lv6.map d35).set (Int.toNat v7) (d35 x10)) = ((Lv6.set (Int.toNat v7) x10).map d35) from List.map_set.symm)) ?_
    refine X.rk ⟨[(0, lV (l.map d35)), (3, .pt 64 0 0), (6, rV 192), (7, iV (wrap64 (v7 - 1)))], [(64, some (.box (cD (d35 t)))), (192, some (.row 5 35 ((Lv6.set (Int.toNat v7) x10).map d35) false true))], 656⟩ hτ hmix (by kernel_rfl) (by kernel_rfl) (s2 := ⟨[(0, lV (l.map d35)), (3, .pt 64 0 0), (6, rV 192), (7, iV (v7 - 1))], [(64, some (.box (cD (d35 t)))), (192, some (.row 5 35 ((Lv6.set (Int.toNat v7) x10).map d35) false true))], 656⟩) (congrArg (fun z : Int => (⟨[(0, lV (l.map d35)), (3, .pt 64 0 0), (6, rV 192), (7, iV z)], [(64, some (.box (cD (d35 t)))), (192, some (.row 5 35 ((Lv6.set (Int.toNat v7) x10).map d35) false true))], 656⟩ : St)) (show wrap64 (v7 - 1) = (v7 - 1) by rw [w64 (n := (v7 - 1)) (by omega) (by omega)])) ?_
    refine ⟨⟨((Lv6.set (Int.toNat v7) x10), (v7 - 1)), ⟨by first | omega | (dsimp only; omega), by first | omega | (dsimp only; omega), pa_shift (by first | omega | (dsimp only; omega)) (by first | omega | (dsimp only; omega)) hlen hE ‹_›, pa_gt (by first | omega | (dsimp only; omega)) (by first | omega | (dsimp only; omega)) hE hG ‹_› (txl_yes ‹_›), by simp; omega, all_set hA (all_at hA ‹_›)⟩⟩, by first | exact rfl | omega | (dsimp only; omega) | (simp only [List.length_append, List.length_cons, List.length_nil, List.length_set]; omega) | (simp; done) | (simp; omega), Wk.mk' [(64, 64), (192, 192)] (by kernel_rfl) (by kernel_rfl) (by kernel_rfl)⟩
   ·refine X.exit ?_
    refine X.seq (rs 3 ?_)
    refine CH.idxR hτ (rows := (Lv6.map d35)) (n := v7) (b := 192) (by kernel_rfl) (by kernel_rfl) (by first | omega | (simp; done) | (simp; omega)) (by simp only [List.length_map, List.length_set]; first | omega | (simp; done) | (simp; omega)) (by kernel_rfl) ?_
    obtain ⟨x17, hx17⟩ : ∃ x, Lv6[Int.toNat v7]? = some x := ⟨_, List.getElem?_eq_getElem (by first | omega | (simp; done) | (simp; omega))⟩
    refine CH.row hτ (d35 x17) (by kernel_rfl) (by kernel_rfl) (by rw [List.getElem?_map, hx17]; rfl) (by kernel_rfl) ?_
    refine CH.endk ⟨[(0, lV (l.map d35)), (6, rV 192)], [(192, some (.row 5 35 ((Lv6.map d35).set (Int.toNat v7) (d35 t)) false true))], 544⟩ (by kernel_rfl) (by kernel_rfl) (s2 := ⟨[(0, lV (l.map d35)), (6, rV 192)], [(192, some (.row 5 35 ((Lv6.set (Int.toNat v7) t).map d35) false true))], 544⟩) (congrArg (fun z : List (List D) => (⟨[(0, lV (l.map d35)), (6, rV 192)], [(192, some (.row 5 35 z false true))], 544⟩ : St)) (show ((Lv6.map d35).set (Int.toNat v7) (d35 t)) = ((Lv6.set (Int.toNat v7) t).map d35) from List.map_set.symm)) ?_
    refine X.seq ?_
    refine X.seq (rs 1 ?_)
    obtain ⟨r18, hr20, hf19⟩ := s_PoolOk l (by exact hl)
    replace hr20 := hr20.symm; subst hr20
    refine ca hf19 Try.func188 ?_
    refine go 2 ?_
    rcases Bool.eq_false_or_eq_true (!(poolOk l)) with hb22 | hb22
    ·refine aT 44 hb22 ?_
     refine aT 45 hb22 ?_
     replace hb22 := bnot_yes (hb22)
     refine go 4 ?_
     refine ek ⟨[(0, lV (l.map d35)), (6, rV 192), (49, bV true)], [(192, some (.row 5 35 ((Lv6.set (Int.toNat v7) t).map d35) false true))], 672⟩ ?_
     refine X.ifT (by kernel_rfl) ?_
     refine X.seq (rs 2 ?_)
     refine CH.app hτ (rows := []) (rows2 := (l.map d35)) (sz := 5) (bys := 56) true (by kernel_rfl) (by kernel_rfl) (fun _ => flat_d d35 (fun x => rfl)) (flat_ok (f := d35) (fun x => rfl)) (by simp only [List.length_map] <;> (first | done | omega | (simp; done) | (simp; omega))) (by kernel_rfl) ?_
     refine go 2 ?_
     refine ek ⟨[(4, rV 704), (5, bV false)], [(704, some (.row 5 35 (l.map d35) false true))], 752⟩ ?_
     refine X.ret ?_
     exact ⟨trivial, _, _, ⟨l, false, (by first | exact (pa_no1 ‹_›) | exact (pa_no2 (by omega) (by omega) hE hG (.inl ‹_›) ‹_›) | exact (pa_no2 (by omega) (by omega) hE hG (.inr ⟨_, ‹_›, txl_no ‹_›⟩) ‹_›) | exact (pa_yes (by omega) (by omega) hE ‹_› ‹_›)), rfl, rfl⟩, .inl (Ret.mk' [(64, 704)] (by kernel_rfl) (by kernel_rfl) (by kernel_rfl))⟩
    ·refine aF 44 hb22 ?_
     refine aF 45 hb22 ?_
     replace hb22 := bnot_no (hb22)
     refine go 1 ?_
     obtain ⟨r23, hr25, hf24⟩ := s_PoolOk (Lv6.set (Int.toNat v7) t) (by exact ⟨by simp only [List.length_set]; omega, all_set hA ht⟩)
     replace hr25 := hr25.symm; subst hr25
     refine ca hf24 Try.func188 ?_
     refine go 2 ?_
     refine ek ⟨[(0, lV (l.map d35)), (6, rV 192), (49, bV (!(poolOk (Lv6.set (Int.toNat v7) t))))], [(192, some (.row 5 35 ((Lv6.set (Int.toNat v7) t).map d35) false true))], 672⟩ ?_
     refine if_ (b := !(poolOk (Lv6.set (Int.toNat v7) t))) (fun hb27 => ?_) (fun hb27 => ?_)
     ·replace hb27 := bnot_yes (hb27)
      refine X.seq (rs 2 ?_)
      refine CH.app hτ (rows := []) (rows2 := (l.map d35)) (sz := 5) (bys := 56) true (by kernel_rfl) (by kernel_rfl) (fun _ => flat_d d35 (fun x => rfl)) (flat_ok (f := d35) (fun x => rfl)) (by simp only [List.length_map] <;> (first | done | omega | (simp; done) | (simp; omega))) (by kernel_rfl) ?_
      refine go 2 ?_
      refine ek ⟨[(4, rV 704), (5, bV false)], [(704, some (.row 5 35 (l.map d35) false true))], 752⟩ ?_
      refine X.ret ?_
      exact ⟨trivial, _, _, ⟨l, false, (by first | exact (pa_no1 ‹_›) | exact (pa_no2 (by omega) (by omega) hE hG (.inl ‹_›) ‹_›) | exact (pa_no2 (by omega) (by omega) hE hG (.inr ⟨_, ‹_›, txl_no ‹_›⟩) ‹_›) | exact (pa_yes (by omega) (by omega) hE ‹_› ‹_›)), rfl, rfl⟩, .inl (Ret.mk' [(64, 704)] (by kernel_rfl) (by kernel_rfl) (by kernel_rfl))⟩
     ·replace hb27 := bnot_no (hb27)
      refine X.skip ?_
      refine sk ⟨[(4, rV 192), (5, bV true)], [(192, some (.row 5 35 ((Lv6.set (Int.toNat v7) t).map d35) false true))], 720⟩ ?_
      refine X.ret ?_
      exact ⟨trivial, _, _, ⟨(Lv6.set (Int.toNat v7) t), true, (by first | exact (pa_no1 ‹_›) | exact (pa_no2 (by omega) (by omega) hE hG (.inl ‹_›) ‹_›) | exact (pa_no2 (by omega) (by omega) hE hG (.inr ⟨_, ‹_›, txl_no ‹_›⟩) ‹_›) | exact (pa_yes (by omega) (by omega) hE ‹_› ‹_›)), rfl, rfl⟩, .inl (Ret.mk' [(64, 192)] (by kernel_rfl) (by kernel_rfl) (by kernel_rfl))⟩
  ·refine aF 18 hb9 ?_
   refine aF 19 hb9 ?_
   replace hb9 := of_decide_eq_false (hb9)
   refine go 8 ?_
   refine ek ⟨[(0, lV (l.map d35)), (3, .pt 64 0 0), (6, rV 192), (7, iV v7), (27, bV false)], [(64, some (.box (cD (d35 t)))), (192, some (.row 5 35 (Lv6.map d35) false true))], 464⟩ ?_
   refine X.ifF (by kernel_rfl) ?_
   refine X.exit ?_
   refine X.seq (rs 3 ?_)
   refine CH.idxR hτ (rows := (Lv6.map d35)) (n := v7) (b := 192) (by kernel_rfl) (by kernel_rfl) (by first | omega | (simp; done) | (simp; omega)) (by simp only [List.length_map, List.length_set]; first | omega | (simp; done) | (simp; omega)) (by kernel_rfl) ?_
   obtain ⟨x28, hx28⟩ : ∃ x, Lv6[Int.toNat v7]? = some x := ⟨_, List.getElem?_eq_getElem (by first | omega | (simp; done) | (simp; omega))⟩
   refine CH.row hτ (d35 x28) (by kernel_rfl) (by kernel_rfl) (by rw [List.getElem?_map, hx28]; rfl) (by kernel_rfl) ?_
   refine CH.endk ⟨[(0, lV (l.map d35)), (6, rV 192)], [(192, some (.row 5 35 ((Lv6.map d35).set (Int.toNat v7) (d35 t)) false true))], 544⟩ (by kernel_rfl) (by kernel_rfl) (s2 := ⟨[(0, lV (l.map d35)), (6, rV 192)], [(192, some (.row 5 35 ((Lv6.set (Int.toNat v7) t).map d35) false true))], 544⟩) (congrArg (fun z : List (List D) => (⟨[(0, lV (l.map d35)), (6, rV 192)], [(192, some (.row 5 35 z false true))], 544⟩ : St)) (show ((Lv6.map d35).set (Int.toNat v7) (d35 t)) = ((Lv6.set (Int.toNat v7) t).map d35) from List.map_set.symm)) ?_
   refine X.seq ?_
   refine X.seq (rs 1 ?_)
   obtain ⟨r29, hr31, hf30⟩ := s_PoolOk l (by exact hl)
   replace hr31 := hr31.symm; subst hr31
   refine ca hf30 Try.func188 ?_
   refine go 2 ?_
   rcases Bool.eq_false_or_eq_true (!(poolOk l)) with hb33 | hb33
   ·refine aT 44 hb33 ?_
    refine aT 45 hb33 ?_
    replace hb33 := bnot_yes (hb33)
    refine go 4 ?_
    refine ek ⟨[(0, lV (l.map d35)), (6, rV 192), (49, bV true)], [(192, some (.row 5 35 ((Lv6.set (Int.toNat v7) t).map d35) false true))], 672⟩ ?_
    refine X.ifT (by kernel_rfl) ?_
    refine X.seq (rs 2 ?_)
    refine CH.app hτ (rows := []) (rows2 := (l.map d35)) (sz := 5) (bys := 56) true (by kernel_rfl) (by kernel_rfl) (fun _ => flat_d d35 (fun x => rfl)) (flat_ok (f := d35) (fun x => rfl)) (by simp only [List.length_map] <;> (first | done | omega | (simp; done) | (simp; omega))) (by kernel_rfl) ?_
    refine go 2 ?_
    refine ek ⟨[(4, rV 704), (5, bV false)], [(704, some (.row 5 35 (l.map d35) false true))], 752⟩ ?_
    refine X.ret ?_
    exact ⟨trivial, _, _, ⟨l, false, (by first | exact (pa_no1 ‹_›) | exact (pa_no2 (by omega) (by omega) hE hG (.inl ‹_›) ‹_›) | exact (pa_no2 (by omega) (by omega) hE hG (.inr ⟨_, ‹_›, txl_no ‹_›⟩) ‹_›) | exact (pa_yes (by omega) (by omega) hE ‹_› ‹_›)), rfl, rfl⟩, .inl (Ret.mk' [(64, 704)] (by kernel_rfl) (by kernel_rfl) (by kernel_rfl))⟩
   ·refine aF 44 hb33 ?_
    refine aF 45 hb33 ?_
    replace hb33 := bnot_no (hb33)
    refine go 1 ?_
    obtain ⟨r34, hr36, hf35⟩ := s_PoolOk (Lv6.set (Int.toNat v7) t) (by exact ⟨by simp only [List.length_set]; omega, all_set hA ht⟩)
    replace hr36 := hr36.symm; subst hr36
    refine ca hf35 Try.func188 ?_
    refine go 2 ?_
    refine ek ⟨[(0, lV (l.map d35)), (6, rV 192), (49, bV (!(poolOk (Lv6.set (Int.toNat v7) t))))], [(192, some (.row 5 35 ((Lv6.set (Int.toNat v7) t).map d35) false true))], 672⟩ ?_
    refine if_ (b := !(poolOk (Lv6.set (Int.toNat v7) t))) (fun hb38 => ?_) (fun hb38 => ?_)
    ·replace hb38 := bnot_yes (hb38)
     refine X.seq (rs 2 ?_)
     refine CH.app hτ (rows := []) (rows2 := (l.map d35)) (sz := 5) (bys := 56) true (by kernel_rfl) (by kernel_rfl) (fun _ => flat_d d35 (fun x => rfl)) (flat_ok (f := d35) (fun x => rfl)) (by simp only [List.length_map] <;> (first | done | omega | (simp; done) | (simp; omega))) (by kernel_rfl) ?_
     refine go 2 ?_
     refine ek ⟨[(4, rV 704), (5, bV false)], [(704, some (.row 5 35 (l.map d35) false true))], 752⟩ ?_
     refine X.ret ?_
     exact ⟨trivial, _, _, ⟨l, false, (by first | exact (pa_no1 ‹_›) | exact (pa_no2 (by omega) (by omega) hE hG (.inl ‹_›) ‹_›) | exact (pa_no2 (by omega) (by omega) hE hG (.inr ⟨_, ‹_›, txl_no ‹_›⟩) ‹_›) | exact (pa_yes (by omega) (by omega) hE ‹_› ‹_›)), rfl, rfl⟩, .inl (Ret.mk' [(64, 704)] (by kernel_rfl) (by kernel_rfl) (by kernel_rfl))⟩
    ·replace hb38 := bnot_no (hb38)
     refine X.skip ?_
     refine sk ⟨[(4, rV 192), (5, bV true)], [(192, some (.row 5 35 ((Lv6.set (Int.toNat v7) t).map d35) false true))], 720⟩ ?_
     refine X.ret ?_
     exact ⟨trivial, _, _, ⟨(Lv6.set (Int.toNat v7) t), true, (by first | exact (pa_no1 ‹_›) | exact (pa_no2 (by omega) (by omega) hE hG (.inl ‹_›) ‹_›) | exact (pa_no2 (by omega) (by omega) hE hG (.inr ⟨_, ‹_›, txl_no ‹_›⟩) ‹_›) | exact (pa_yes (by omega) (by omega) hE ‹_› ‹_›)), rfl, rfl⟩, .inl (Ret.mk' [(64, 192)] (by kernel_rfl) (by kernel_rfl) (by kernel_rfl))⟩
 obtain ⟨_, _, ⟨r0, r1, h1_, rfl, rfl⟩, hf⟩ := key
 exact ⟨r0, r1, h1_, hf⟩

theorem s_l12Draw (bs : List Int) (i0 : Int) (h0 : Int) (hl : bs.length ≤ 4611686018427387904) (hi : 0 ≤ i0 ∧ i0 ≤ bs.length) (most : Int) (hm : most ≤ 90000) : ∃ r0 : List S35, ∃ i1 : Int, ∃ h1 : Int, (SmT r0 ∧ r0.length ≤ 90000) ∧ (0 ≤ i1 ∧ i1 ≤ bs.length) ∧ Fn Try.prog 111 [.pt 0 0 0, iV most] (lookH [(0, some (.box [.k 0 (.sl (bs.map dB)), .k 1 (.v (.int .i64 i0)), .k 2 (.v (.int .i64 h0))]))]) (rV 64) (lookH [(0, some (.box [.k 0 (.sl (bs.map dB)), .d (.v (.int .i64 i1)), .d (.v (.int .i64 h1))])), (64, some (.row 5 35 (r0.map d35) false true))]) := by
 have key : ∃ x' h', ((fun x' h' => ∃ r0 : List S35, ∃ i1 : Int, ∃ h1 : Int, (SmT r0 ∧ r0.length ≤ 90000) ∧ (0 ≤ i1 ∧ i1 ≤ bs.length) ∧ x' = rV 64 ∧ h' = [(0, some (.box [.k 0 (.sl (bs.map dB)), .d (.v (.int .i64 i1)), .d (.v (.int .i64 h1))])), (64, some (.row 5 35 (r0.map d35) false true))])) x' h' ∧ Fn Try.prog 111 [.pt 0 0 0, iV most] (lookH [(0, some (.box [.k 0 (.sl (bs.map dB)), .k 1 (.v (.int .i64 i0)), .k 2 (.v (.int .i64 h0))]))]) x' (lookH h') := by
  refine Fn.bodyX (N := 23) hτ Try.func111 rfl rfl rfl rfl ?_
  refine sk ⟨[(0, .pt 0 0 0), (1, iV most)], [(0, some (.box [.k 0 (.sl (bs.map dB)), .d (.v (.int .i64 i0)), .d (.v (.int .i64 h0))]))], 80⟩ ?_
  refine sk ⟨[(0, .pt 0 0 0), (1, iV most), (5, rV 80)], [(0, some (.box [.k 0 (.sl (bs.map dB)), .d (.v (.int .i64 i0)), .d (.v (.int .i64 h0))])), (80, some (.row 5 35 [] false true))], 112⟩ ?_
  refine X.seq ?_
  refine X.seq (rs 2 ?_)
  obtain ⟨r1, i4, h5, hr3, hi6, hf2⟩ := s_l1Below bs i0 h0 (by first | assumption | omega) (by omega) most
  obtain ⟨_, _⟩ := hr3
  refine CH.call hf2 Try.func108 ⟨rfl, rfl⟩ [(0, 0)] (by kernel_rfl) (by kernel_rfl) (by kernel_rfl) (by kernel_rfl) ?_
  refine go 1 ?_
  refine ek ⟨[(0, .pt 0 0 0), (5, rV 80), (6, iV r1)], [(0, some (.box [.k 0 (.sl (bs.map dB)), .d (.v (.int .i64 i4)), .d (.v (.int .i64 h5))])), (80, some (.row 5 35 [] false true))], 176⟩ ?_
  refine X.block ?_
  -- 3: c0_1 : Int, c0_2 : Int, Lv5 : List S35, v6 : Int
  refine X.loop (σ := { g : Int × Int × (List S35) × Int // (fun (c0_1 : Int) (c0_2 : Int) (Lv5 : List S35) (v6 : Int) => (0 ≤ c0_1 ∧ c0_1 ≤ bs.length) ∧ (0 ≤ v6 ∧ (Lv5.length : Int) + v6 ≤ 90000 ∧ ∀ x, x ∈ Lv5 → Sm35 x)) g.1 g.2.1 g.2.2.1 g.2.2.2 }) (fun g => (fun (c0_1 : Int) (c0_2 : Int) (Lv5 : List S35) (v6 : Int) => ⟨[(0, .pt 0 0 0), (5, rV 80), (6, iV v6)], [(0, some (.box [.k 0 (.sl (bs.map dB)), .d (.v (.int .i64 c0_1)), .d (.v (.int .i64 c0_2))])), (80, some (.row 5 35 (Lv5.map d35) false true))], 176⟩) g.1.1 g.1.2.1 g.1.2.2.1 g.1.2.2.2) (fun g => (fun (c0_1 : Int) (c0_2 : Int) (Lv5 : List S35) (v6 : Int) => v6.toNat) g.1.1 g.1.2.1 g.1.2.2.1 g.1.2.2.2) ⟨(i4, h5, [], r1), ⟨by first | omega | (dsimp only; omega), ⟨by first | omega | (dsimp only; omega), by simp; omega, all_nil⟩⟩⟩ (Wk.less (by kernel_rfl)) (fun g => ?_)
  obtain ⟨⟨c0_1, c0_2, Lv5, v6⟩, hg8⟩ := g
  have hg8 : (0 ≤ c0_1 ∧ c0_1 ≤ bs.length) ∧ (0 ≤ v6 ∧ (Lv5.length : Int) + v6 ≤ 90000 ∧ ∀ x, x ∈ Lv5 → Sm35 x) := hg8
  obtain ⟨⟨_, _⟩, ⟨_, _, hA⟩⟩ := hg8
  refine X.seq ?_
  refine sk ⟨[(0, .pt 0 0 0), (5, rV 80), (6, iV v6), (12, bV (decide ((v6 : Int) > 0)))], [(0, some (.box [.k 0 (.sl (bs.map dB)), .d (.v (.int .i64 c0_1)), .d (.v (.int .i64 c0_2))])), (80, some (.row 5 35 (Lv5.map d35) false true))], 208⟩ ?_
  refine if_ (b := decide ((v6 : Int) > 0)) (fun hb9 => ?_) (fun hb9 => ?_)
  ·replace hb9 := of_decide_eq_true (hb9)
   refine X.skip ?_
   refine X.seq ?_
   refine X.block ?_
   refine rs 2 ?_
   obtain ⟨r10, i13, h14, hr12, hi15, hf11⟩ := s_l5Tx bs c0_1 c0_2 (by first | assumption | omega) (by omega)
   have ht := hr12
   refine CH.call hf11 Try.func160 ⟨rfl, rfl⟩ [(0, 0)] (by kernel_rfl) (by kernel_rfl) (by kernel_rfl) (by kernel_rfl) ?_
   obtain ⟨r16, r17, hr19, hf18⟩ := s_PoolAdd Lv5 r10 (by exact ⟨by omega, hA⟩) (by exact ht) (by omega)
   obtain ⟨e20, e21⟩ := hr19
   replace e20 := e20.symm; subst e20
   replace e21 := e21.symm; subst e21
   have hpl := paR_len Lv5 r10
   refine ca hf18 Try.func159 ?_
   refine go 4 ?_
   refine ek ⟨[(0, .pt 0 0 0), (5, rV 256), (6, iV v6)], [(0, some (.box [.k 0 (.sl (bs.map dB)), .d (.v (.int .i64 i13)), .d (.v (.int .i64 h14))])), (256, some (.row 5 35 ((paR Lv5 r10).map d35) false true))], 336⟩ ?_
   refine X.rk ⟨[(0, .pt 0 0 0), (5, rV 256), (6, iV (wrap64 (v6 - 1)))], [(0, some (.box [.k 0 (.sl (bs.map dB)), .d (.v (.int .i64 i13)), .d (.v (.int .i64 h14))])), (256, some (.row 5 35 ((paR Lv5 r10).map d35) false true))], 384⟩ hτ hmix (by kernel_rfl) (by kernel_rfl) (s2 := ⟨[(0, .pt 0 0 0), (5, rV 256), (6, iV (v6 - 1))], [(0, some (.box [.k 0 (.sl (bs.map dB)), .d (.v (.int .i64 i13)), .d (.v (.int .i64 h14))])), (256, some (.row 5 35 ((paR Lv5 r10).map d35) false true))], 384⟩) (congrArg (fun z : Int => (⟨[(0, .pt 0 0 0), (5, rV 256), (6, iV z)], [(0, some (.box [.k 0 (.sl (bs.map dB)), .d (.v (.int .i64 i13)), .d (.v (.int .i64 h14))])), (256, some (.row 5 35 ((paR Lv5 r10).map d35) false true))], 384⟩ : St)) (show wrap64 (v6 - 1) = (v6 - 1) by rw [w64 (n := (v6 - 1)) (by omega) (by omega)])) ?_
   refine ⟨⟨(i13, h14, (paR Lv5 r10), (v6 - 1)), ⟨by first | omega | (dsimp only; omega), ⟨by first | omega | (dsimp only; omega), by first | omega | (dsimp only; omega), fun x hx => (paR_mem hx).elim (hA x) (fun e => e ▸ ht)⟩⟩⟩, by first | exact rfl | omega | (dsimp only; omega) | (simp only [List.length_append, List.length_cons, List.length_nil, List.length_set]; omega) | (simp; done) | (simp; omega), Wk.mk' [(80, 256)] (by kernel_rfl) (by kernel_rfl) (by kernel_rfl)⟩
  ·replace hb9 := of_decide_eq_false (hb9)
   refine X.exit ?_
   refine sk ⟨[(4, rV 80)], [(0, some (.box [.k 0 (.sl (bs.map dB)), .d (.v (.int .i64 c0_1)), .d (.v (.int .i64 c0_2))])), (80, some (.row 5 35 (Lv5.map d35) false true))], 240⟩ ?_
   refine X.ret ?_
   exact ⟨trivial, _, _, ⟨Lv5, c0_1, c0_2, ⟨⟨by omega, hA⟩, by omega⟩, (by omega), rfl, rfl⟩, .inl (Ret.mk' [(64, 80)] (by kernel_rfl) (by kernel_rfl) (by kernel_rfl))⟩
 obtain ⟨_, _, ⟨r0, i1, h1, h1_, h2_, rfl, rfl⟩, hf⟩ := key
 exact ⟨r0, i1, h1, h1_, h2_, hf⟩

theorem s_l12Any (bs : List Int) (i0 : Int) (h0 : Int) (hl : bs.length ≤ 4611686018427387904) (hi : 0 ≤ i0 ∧ i0 ≤ bs.length) (most : Int) (hm : most ≤ 90000) : ∃ r0 : List S35, ∃ i1 : Int, ∃ h1 : Int, (SmT r0 ∧ r0.length ≤ 90001) ∧ (0 ≤ i1 ∧ i1 ≤ bs.length) ∧ Fn Try.prog 42 [.pt 0 0 0, iV most] (lookH [(0, some (.box [.k 0 (.sl (bs.map dB)), .k 1 (.v (.int .i64 i0)), .k 2 (.v (.int .i64 h0))]))]) (rV 64) (lookH [(0, some (.box [.k 0 (.sl (bs.map dB)), .d (.v (.int .i64 i1)), .d (.v (.int .i64 h1))])), (64, some (.row 5 35 (r0.map d35) false true))]) := by
 have key : ∃ x' h', ((fun x' h' => ∃ r0 : List S35, ∃ i1 : Int, ∃ h1 : Int, (SmT r0 ∧ r0.length ≤ 90001) ∧ (0 ≤ i1 ∧ i1 ≤ bs.length) ∧ x' = rV 64 ∧ h' = [(0, some (.box [.k 0 (.sl (bs.map dB)), .d (.v (.int .i64 i1)), .d (.v (.int .i64 h1))])), (64, some (.row 5 35 (r0.map d35) false true))])) x' h' ∧ Fn Try.prog 42 [.pt 0 0 0, iV most] (lookH [(0, some (.box [.k 0 (.sl (bs.map dB)), .k 1 (.v (.int .i64 i0)), .k 2 (.v (.int .i64 h0))]))]) x' (lookH h') := by
  refine Fn.bodyX (N := 17) hτ Try.func42 rfl rfl rfl rfl ?_
  refine sk ⟨[(0, .pt 0 0 0), (1, iV most)], [(0, some (.box [.k 0 (.sl (bs.map dB)), .d (.v (.int .i64 i0)), .d (.v (.int .i64 h0))]))], 80⟩ ?_
  refine X.seq (rs 2 ?_)
  obtain ⟨r1, i4, h5, hr3, hi6, hf2⟩ := s_l12Draw bs i0 h0 (by first | assumption | omega) (by omega) most (by omega)
  obtain ⟨hL, hLl⟩ := hr3
  refine CH.call hf2 Try.func111 ⟨rfl, rfl⟩ [(0, 0)] (by kernel_rfl) (by kernel_rfl) (by kernel_rfl) (by kernel_rfl) ?_
  refine go 1 ?_
  refine ek ⟨[(0, .pt 0 0 0), (5, rV 112)], [(0, some (.box [.k 0 (.sl (bs.map dB)), .d (.v (.int .i64 i4)), .d (.v (.int .i64 h5))])), (112, some (.row 5 35 (r1.map d35) false true))], 144⟩ ?_
  refine X.seq ?_
  refine X.seq (rs 1 ?_)
  obtain ⟨r7, i10, h11, hr9, hi12, hf8⟩ := s_l1Once bs i4 h5 (by first | assumption | omega) (by omega) 8
  refine CH.call hf8 Try.func44 ⟨rfl, rfl⟩ [(0, 0)] (by kernel_rfl) (by kernel_rfl) (by kernel_rfl) (by kernel_rfl) ?_
  refine ek ⟨[(0, .pt 0 0 0), (5, rV 112), (10, bV r7)], [(0, some (.box [.k 0 (.sl (bs.map dB)), .d (.v (.int .i64 i10)), .d (.v (.int .i64 h11))])), (112, some (.row 5 35 (r1.map d35) false true))], 176⟩ ?_
  refine if_ (b := r7) (fun hb13 => ?_) (fun hb13 => ?_)
  ·refine rs 2 ?_
   obtain ⟨r14, i17, h18, hr16, hi19, hf15⟩ := s_l5Any bs i10 h11 (by first | assumption | omega) (by omega)
   have ht := hr16
   refine CH.call hf15 Try.func112 ⟨rfl, rfl⟩ [(0, 0)] (by kernel_rfl) (by kernel_rfl) (by kernel_rfl) (by kernel_rfl) ?_
   refine go 1 ?_
   have el20 : (r1.map d35).length = r1.length := List.length_map ..
   have el21 : (([r14] : List S35).map d35).length = ([r14] : List S35).length := List.length_map ..
   have el22 : ([r14] : List S35).length = 1 := rfl
   refine CH.app hτ (rows := (r1.map d35)) (rows2 := (([r14] : List S35).map d35)) (sz := 5) (bys := 56) true (by kernel_rfl) (by kernel_rfl) (fun _ => flat_d d35 (fun x => rfl)) (flat_ok (f := d35) (fun x => rfl)) (by simp only [List.length_map] <;> (first | done | omega | (simp; done) | (simp; omega))) (by kernel_rfl) ?_
   refine go 1 ?_
   refine CH.endk ⟨[(5, rV 240)], [(0, some (.box [.k 0 (.sl (bs.map dB)), .d (.v (.int .i64 i17)), .d (.v (.int .i64 h18))])), (240, some (.row 5 35 ((r1.map d35) ++ (([r14] : List S35).map d35)) false true))], 272⟩ (by kernel_rfl) (by kernel_rfl) (s2 := ⟨[(5, rV 240)], [(0, some (.box [.k 0 (.sl (bs.map dB)), .d (.v (.int .i64 i17)), .d (.v (.int .i64 h18))])), (240, some (.row 5 35 ((r1 ++ ([r14] : List S35)).map d35) false true))], 272⟩) (congrArg (fun z : List (List D) => (⟨[(5, rV 240)], [(0, some (.box [.k 0 (.sl (bs.map dB)), .d (.v (.int .i64 i17)), .d (.v (.int .i64 h18))])), (240, some (.row 5 35 z false true))], 272⟩ : St)) (show (r1.map d35) ++ (([r14] : List S35).map d35) = ((r1 ++ ([r14] : List S35)).map d35) from List.map_append.symm)) ?_
   refine sk ⟨[(4, rV 240)], [(0, some (.box [.k 0 (.sl (bs.map dB)), .d (.v (.int .i64 i17)), .d (.v (.int .i64 h18))])), (240, some (.row 5 35 ((r1 ++ ([r14] : List S35)).map d35) false true))], 304⟩ ?_
   refine X.ret ?_
   exact ⟨trivial, _, _, ⟨(r1 ++ ([r14] : List S35)), i17, h18, (by first | exact ⟨hL, by omega⟩ | exact ⟨⟨by simp only [List.length_append, List.length_cons, List.length_nil]; omega, all_app hL.2 (all_one ht)⟩, by simp only [List.length_append, List.length_cons, List.length_nil]; omega⟩), (by omega), rfl, rfl⟩, .inl (Ret.mk' [(64, 240)] (by kernel_rfl) (by kernel_rfl) (by kernel_rfl))⟩
  ·refine X.skip ?_
   refine sk ⟨[(4, rV 112)], [(0, some (.box [.k 0 (.sl (bs.map dB)), .d (.v (.int .i64 i10)), .d (.v (.int .i64 h11))])), (112, some (.row 5 35 (r1.map d35) false true))], 208⟩ ?_
   refine X.ret ?_
   exact ⟨trivial, _, _, ⟨r1, i10, h11, (by first | exact ⟨hL, by omega⟩ | exact ⟨⟨by simp only [List.length_append, List.length_cons, List.length_nil]; omega, all_app hL.2 (all_one ht)⟩, by simp only [List.length_append, List.length_cons, List.length_nil]; omega⟩), (by omega), rfl, rfl⟩, .inl (Ret.mk' [(64, 112)] (by kernel_rfl) (by kernel_rfl) (by kernel_rfl))⟩
 obtain ⟨_, _, ⟨r0, i1, h1, h1_, h2_, rfl, rfl⟩, hf⟩ := key
 exact ⟨r0, i1, h1, h1_, h2_, hf⟩

end Go.Proofs.Ytggmeldoecnkaaa.Av
