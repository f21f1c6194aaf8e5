/-
What functions of the program come to, walked one by one.
Conditions: none beside those that each theorem names.
-/
import Derived.Test.YtnldeeefiidcaaaAvM
set_option linter.unusedVariables false
set_option linter.unusedSimpArgs false
namespace Go.Proofs.Ytnldeeefiidcaaa.Av
open Go.RowKit
set_option maxRecDepth 20000
set_option maxHeartbeats 4000000

theorem self_at {l : List S59} (h : treeP l) {i : Int} {x : S59} (h0 : 0 ≤ i) (hx : l[i.toNat]? = some x) : idAt l x.f0 = i := by
  refine idAt_yes h0 hx rfl fun j y hj hy => ?_
  have := asc_lt h (i.toNat - j - 1) j y x hy (by rw [show j + 1 + (i.toNat - j - 1) = i.toNat by omega]; exact hx)
  omega
theorem self_find {l : List S59} (h : treeP l) {i : Int} {x : S59} (h0 : 0 ≤ i) (hx : l[i.toNat]? = some x) : findB l x.f0 = some x := by
  have e := self_at h h0 hx
  exact idAt_at (by omega) (by rw [e]; exact hx)
theorem chI_prop {l : List S59} (h : treeP l) : ∀ (n : Nat) (a : Int), a < n → ∀ (k : Nat) (c : Int), (chI l n a)[k]? = some c → ∃ y, findB l c = some y ∧ (∀ d, (chI l n a)[k + 1]? = some d → y.f4.f1 = d) ∧ ((chI l n a)[k + 1]? = none → y.f4.f1 = -1)
  | 0, a, ha, k, c, hc => by rw [chI_neg (by omega)] at hc; cases hc
  | n + 1, a, ha, k, c, hc => by
    by_cases h0 : a < 0
    · rw [chI_neg h0] at hc; cases hc
    · cases hx : l[a.toNat]? with
      | none => rw [chI, hx] at hc; simp at hc
      | some x =>
        have hd := dec_at h (by omega) hx
        rw [chI_at (by omega) hx] at hc ⊢
        match k, hc with
        | k + 1, hc => exact chI_prop h n _ (by omega) k c hc
        | 0, hc =>
          cases hc
          refine ⟨x, self_find h (by omega) hx, ?_⟩
          by_cases hn : idAt l x.f4.f1 < 0
          · rw [chI_neg hn]
            refine ⟨(fun d hd => by cases hd), fun _ => ?_⟩
            cases hr : rootQ x.f4 with
            | true => exact root_m1 hr
            | false =>
              obtain ⟨k, p, h1, h2, _⟩ := tree_find h hx hr
              omega
          · have hb := idAt_bd l x.f4.f1
            have hy : l[(idAt l x.f4.f1).toNat]? = some (l[(idAt l x.f4.f1).toNat]'(by omega)) := List.getElem?_eq_getElem _
            have hm := (idAt_mem (idAt_at hn hy)).2
            obtain ⟨m, rfl⟩ : ∃ m, n = m + 1 := ⟨n - 1, by omega⟩
            rw [chI_at (by omega) hy]
            refine ⟨fun d hd => ?_, (fun hd => by cases hd)⟩
            cases hd
            exact hm.symm
section
variable {l : List S59} {id k : Int} {c : Int}
theorem ch_prev (h : treeP l) (h0 : 0 ≤ k) (hc : (chain l id).reverse[k.toNat]? = some c) : ∃ y, findB l c = some y ∧ (k = 0 → y.f4.f1 = -1) ∧ ∀ d, 0 < k → (chain l id).reverse[(k - 1).toNat]? = some d → y.f4.f1 = d := by
  have hl := (List.getElem?_eq_some_iff.1 hc).1
  rw [List.length_reverse] at hl
  rw [List.getElem?_reverse hl] at hc
  have hb := idAt_bd l id
  obtain ⟨y, h1, h2, h3⟩ := chI_prop h (idAt l id + 1).toNat (idAt l id) (by omega) _ c hc
  refine ⟨y, h1, fun hk => h3 ?_, fun d hk hd => h2 d ?_⟩
  · rw [List.getElem?_eq_none_iff]
    show (chain l id).length ≤ _
    omega
  · rw [List.getElem?_reverse (by omega)] at hd
    rw [show (chain l id).length - 1 - k.toNat + 1 = (chain l id).length - 1 - (k - 1).toNat by omega]
    exact hd
end
theorem ch_last {l : List S59} (h : treeP l) {i : Int} {x : S59} (h0 : 0 ≤ i) (hx : l[i.toNat]? = some x) : (chain l x.f0).reverse.length ≠ 0 ∧ ∀ c, (chain l x.f0).reverse[(((chain l x.f0).reverse.length : Int) - 1).toNat]? = some c → c = x.f0 := by
  have e : chain l x.f0 = x.f0 :: chI l i.toNat (idAt l x.f4.f1) := by
    unfold chain
    rw [self_at h h0 hx, show (i + 1).toNat = i.toNat + 1 by omega, chI_at h0 hx]
  rw [e]
  refine ⟨by simp, fun c hc => ?_⟩
  simp at hc
  omega
theorem ext_in {l : List S59} {c id : Int} (ht : treeOk l = true) (hc : c ∈ (chain l id).reverse) (hn : c ≠ -1) : extends_ l c id = true := by
  unfold extends_
  rw [ht, if_neg hn]
  simpa using hc
theorem ext_root {l : List S59} (ht : treeOk l = true) {i : Int} {x : S59} (h0 : 0 ≤ i) (hx : l[i.toNat]? = some x) : extends_ l (-1) x.f0 = true := by
  unfold extends_
  rw [ht, if_pos rfl, self_at (treeOk_iff.1 ht) h0 hx]
  simp [h0]
theorem chOf_eq {l : List S59} (ht : treeOk l = true) (id : Int) : chainOf l id = (chain l id).reverse := by simp [chainOf, ht]
theorem chOf_root {l : List S59} (ht : treeOk l = true) : chainOf l (-1) = [] := by
  rw [chOf_eq ht, chain, idAt_m1 (treeOk_iff.1 ht)]
  rfl
theorem cl_last {l : List S59} (ht : treeOk l = true) {i : Int} {x : S59} (h0 : 0 ≤ i) (hx : l[i.toNat]? = some x) : ¬ (((chainOf l x.f0).map dI).length : Int) = 0 ∧ ∀ c, (chainOf l x.f0)[((((chainOf l x.f0).map dI).length : Int) - 1).toNat]? = some c → c = x.f0 := by
  rw [chOf_eq ht, List.length_map]
  obtain ⟨h1, h2⟩ := ch_last (treeOk_iff.1 ht) h0 hx
  exact ⟨by omega, h2⟩
theorem law_k {l : List S59} (ht : treeOk l = true) {id k b c : Int} (hc : (chainOf l id)[k.toNat]? = some c) (h0 : 0 ≤ k) (hB0 : k = 0 → b = -1) (hB1 : ∀ d, 0 < k → (chainOf l id)[(k - 1).toNat]? = some d → b = d) :
    (findB l c).isSome = true ∧ ((findB l c).getD z59).f4.f1 = b ∧ extends_ l c id = true := by
  rw [chOf_eq ht] at hc hB1
  obtain ⟨y, h1, h2, h3⟩ := ch_prev (treeOk_iff.1 ht) h0 hc
  have hm := idAt_mem h1
  obtain ⟨j, hj⟩ := List.mem_iff_getElem?.1 hm.1
  have hr := blk_rng (tree_at (treeOk_iff.1 ht) hj).1
  refine ⟨by rw [h1]; rfl, ?_, ext_in ht (List.mem_of_getElem? hc) (by omega)⟩
  rw [h1]
  show y.f4.f1 = b
  by_cases hk : k = 0
  · rw [h2 hk, hB0 hk]
  · have hl := (List.getElem?_eq_some_iff.1 hc).1
    have hd : (chain l id).reverse[(k - 1).toNat]? = some ((chain l id).reverse[(k - 1).toNat]'(by omega)) := List.getElem?_eq_getElem _
    rw [h3 _ (by omega) hd, hB1 _ (by omega) hd]
theorem nx_at {l : List Int} {k c : Int} (hc : l[k.toNat]? = some c) : ∀ d, 0 < k + 1 → l[(k + 1 - 1).toNat]? = some d → c = d := fun d _ hd => by
  rw [show k + 1 - 1 = k by omega, hc] at hd
  cases hd
  rfl
theorem s_DrawTree (code : List Int) (hl : code.length ≤ 4611686018427387904) : ∃ r0 : List S59, (SmL r0 ∧ treeOk r0 = true) ∧ Fn Try.prog 41 [.e (.c (.d (.sl (code.map dB))))] (lookH []) (.e (.c (.f (.sl (r0.map d59))))) (lookH []) := by
  have key : ∃ x' h', ((fun x' h' => ∃ r0 : List S59, (SmL r0 ∧ treeOk r0 = true) ∧ x' = .e (.c (.f (.sl (r0.map d59)))) ∧ h' = [])) x' h' ∧ Fn Try.prog 41 [.e (.c (.d (.sl (code.map dB))))] (lookH []) x' (lookH h') := by
    refine Fn.bodyX (N := 10) hτ Try.func41 rfl rfl rfl rfl ?_
    refine X.seq ?_
    refine X.rk ⟨[(0, .e (.c (.d (.sl (code.map dB)))))], [], 80⟩ hτ hmix (by kernel_rfl) (by kernel_rfl) rfl ?_
    refine X.seq ?_
    refine X.rs 1 hτ hmix (by kernel_rfl) ?_
    obtain ⟨i1, h2, hq4, hf3⟩ := s_l1New code (by first | assumption | omega)
    refine CH.callK hf3 Try.func91 ⟨rfl, rfl⟩ (by kernel_rfl) (by kernel_rfl) (by kernel_rfl) (by kernel_rfl) ?_
    refine CH.go 1 hτ (by kernel_rfl) ?_
    refine CH.endk ⟨[(0, .e (.c (.d (.sl (code.map dB))))), (3, .pt 96 0 0)], [(96, some (.box [.d (.sl (code.map dB)), .d (.v (.int .i64 i1)), .d (.v (.int .i64 h2))]))], 128⟩ (by kernel_rfl) (by kernel_rfl) rfl ?_
    refine X.seq ?_
    refine X.rs 2 hτ hmix (by kernel_rfl) ?_
    obtain ⟨r5, hr7, hf6⟩ := s_l1Size code 20 (by omega)
    have hz := hr7
    refine CH.call hf6 Try.func93 ⟨rfl, rfl⟩ [] (by kernel_rfl) (by kernel_rfl) (by kernel_rfl) (by kernel_rfl) ?_
    obtain ⟨r8, i11, h12, hr10, hi13, hf9⟩ := s_l10Draw code i1 h2 (by first | assumption | omega) (by omega) r5 (by omega)
    obtain ⟨hL, hLl, hLd, hLt⟩ := hr10
    refine CH.call hf9 Try.func92 ⟨rfl, rfl⟩ [(96, 0)] (by kernel_rfl) (by kernel_rfl) (by kernel_rfl) (by kernel_rfl) ?_
    refine CH.go 1 hτ (by kernel_rfl) ?_
    refine CH.endk ⟨[(2, .e (.c (.ref 176)))], [(176, some (.row 14 59 (r8.map d59) false true))], 208⟩ (by kernel_rfl) (by kernel_rfl) rfl ?_
    refine X.ret ?_
    exact ⟨trivial, _, _, ⟨r8, ⟨hL, hLt⟩, rfl, rfl⟩, .inr ⟨⟨[(2, .e (.c (.f (.sl (r8.map d59)))))], [(176, some (.row 14 59 (r8.map d59) true true))], 208⟩, Wk.less (by kernel_rfl), Ret.mk' [] (by kernel_rfl) (by kernel_rfl) (by kernel_rfl)⟩⟩
  obtain ⟨_, _, ⟨r0, q1, rfl, rfl⟩, hf⟩ := key
  exact ⟨r0, q1, hf⟩

theorem l_FnChains (code : List Int) (hl : code.length ≤ 4611686018427387904) : ∃ r0 : Bool, (r0 = true) ∧ Fn Try.prog 9 [.e (.c (.d (.sl (code.map dB))))] (lookH []) (.e (.c (.d (.v (.bool r0))))) (lookH []) := by
  have key : ∃ x' h', ((fun x' h' => ∃ r0 : Bool, (r0 = true) ∧ x' = .e (.c (.d (.v (.bool r0)))) ∧ h' = [])) x' h' ∧ Fn Try.prog 9 [.e (.c (.d (.sl (code.map dB))))] (lookH []) x' (lookH h') := by
    refine Fn.bodyX (N := 101) hτ Try.func9 rfl rfl rfl rfl ?_
    refine X.seq ?_
    refine X.rk ⟨[(0, .e (.c (.d (.sl (code.map dB)))))], [], 80⟩ hτ hmix (by kernel_rfl) (by kernel_rfl) rfl ?_
    refine X.seq ?_
    refine X.seq ?_
    refine X.rs 1 hτ hmix (by kernel_rfl) ?_
    obtain ⟨r1, hr3, hf2⟩ := l_big code (by assumption)
    refine CH.call hf2 Try.func40 ⟨rfl, rfl⟩ [] (by kernel_rfl) (by kernel_rfl) (by kernel_rfl) (by kernel_rfl) ?_
    refine CH.endk ⟨[(0, .e (.c (.d (.sl (code.map dB))))), (11, .e (.c (.d (.v (.bool r1)))))], [], 112⟩ (by kernel_rfl) (by kernel_rfl) rfl ?_
    refine X.if_ (b := r1) (by kernel_rfl) (fun hb4 => ?_) (fun hb4 => ?_)
    · refine X.seq ?_
      refine X.rk ⟨[(2, .e (.c (.d (.v (.bool true)))))], [], 128⟩ hτ hmix (by kernel_rfl) (by kernel_rfl) rfl ?_
      refine X.ret ?_
      exact ⟨trivial, _, _, ⟨true, rfl, rfl, rfl⟩, .inl (Ret.mk' [] (by kernel_rfl) (by kernel_rfl) (by kernel_rfl))⟩
    · refine X.skip ?_
      refine X.seq ?_
      refine X.rs 1 hτ hmix (by kernel_rfl) ?_
      obtain ⟨r5, hr7, hf6⟩ := s_DrawTree code (by first | omega | (simp; done) | (simp; omega))
      obtain ⟨hL, hT⟩ := hr7
      refine CH.call hf6 Try.func41 ⟨rfl, rfl⟩ [] (by kernel_rfl) (by kernel_rfl) (by kernel_rfl) (by kernel_rfl) ?_
      refine CH.go 1 hτ (by kernel_rfl) ?_
      refine CH.endk ⟨[(3, .e (.c (.f (.sl (r5.map d59)))))], [], 160⟩ (by kernel_rfl) (by kernel_rfl) rfl ?_
      refine X.seq ?_
      refine X.seq ?_
      refine X.rs 1 hτ hmix (by kernel_rfl) ?_
      obtain ⟨r8, hr10, hf9⟩ := i_TreeOk r5 (by assumption)
      replace hr10 := hr10.symm; subst hr10
      refine CH.call hf9 Try.func22 ⟨rfl, rfl⟩ [] (by kernel_rfl) (by kernel_rfl) (by kernel_rfl) (by kernel_rfl) ?_
      refine CH.go 1 hτ (by kernel_rfl) ?_
      refine CH.endk ⟨[(3, .e (.c (.f (.sl (r5.map d59))))), (16, .e (.c (.d (.v (.bool (!(treeOk r5)))))))], [], 208⟩ (by kernel_rfl) (by kernel_rfl) rfl ?_
      refine X.if_ (b := !(treeOk r5)) (by kernel_rfl) (fun hb12 => ?_) (fun hb12 => ?_)
      · replace hb12 := bnot_yes (hb12)
        refine X.seq ?_
        refine X.rk ⟨[(2, .e (.c (.d (.v (.bool false)))))], [], 224⟩ hτ hmix (by kernel_rfl) (by kernel_rfl) rfl ?_
        refine X.ret ?_
        exact ⟨trivial, _, _, ⟨false, (tf hT ‹_›), rfl, rfl⟩, .inl (Ret.mk' [] (by kernel_rfl) (by kernel_rfl) (by kernel_rfl))⟩
      · replace hb12 := bnot_no (hb12)
        refine X.skip ?_
        refine X.seq ?_
        refine X.seq ?_
        have hL1 := hL.1
        have hTp := treeOk_iff.1 hT
        refine X.rk ⟨[(3, .e (.c (.f (.sl (r5.map d59))))), (4, .e (.c (.d (.v (.int .i64 0)))))], [], 224⟩ hτ hmix (by kernel_rfl) (by kernel_rfl) rfl ?_
        refine X.block ?_
        -- 7: v4 : Int
        refine X.loop (σ := { g : Int // (fun (v4 : Int) => 0 ≤ v4 ∧ v4 ≤ r5.length) g }) (fun g => (fun (v4 : Int) => ⟨[(3, .e (.c (.f (.sl (r5.map d59))))), (4, .e (.c (.d (.v (.int .i64 v4)))))], [], 224⟩) g.1) (fun g => (fun (v4 : Int) => (r5.length - v4).toNat) g.1) ⟨0, by first | exact rfl | omega | (dsimp only; omega) | (simp only [List.length_append, List.length_cons, List.length_nil, List.length_set]; omega) | (simp; done) | (simp; omega)⟩ (Wk.less (by kernel_rfl)) (fun g => ?_)
        obtain ⟨v4, hg14⟩ := g
        have hg14 : 0 ≤ v4 ∧ v4 ≤ r5.length := hg14
        refine X.seq ?_
        refine X.seq ?_
        have el15 : (r5.map d59).length = r5.length := List.length_map ..
        refine X.rk ⟨[(3, .e (.c (.f (.sl (r5.map d59))))), (4, .e (.c (.d (.v (.int .i64 v4))))), (20, .e (.c (.d (.v (.bool (decide ((v4 : Int) < ((r5.map d59).length : Int))))))))], [], 288⟩ hτ hmix (by kernel_rfl) (by kernel_rfl) rfl ?_
        refine X.if_ (b := decide ((v4 : Int) < ((r5.map d59).length : Int))) (by kernel_rfl) (fun hb16 => ?_) (fun hb16 => ?_)
        · replace hb16 := of_decide_eq_true (hb16)
          refine X.skip ?_
          refine X.seq ?_
          refine X.block ?_
          refine X.seq ?_
          refine X.rs 3 hτ hmix (by kernel_rfl) ?_
          obtain ⟨x17, hx17⟩ : ∃ x, r5[Int.toNat v4]? = some x := ⟨_, List.getElem?_eq_getElem (by first | omega | (simp; done) | (simp; omega))⟩
          have hcl := cl_last hT (by omega) hx17; have hxr := ext_root hT (by omega) hx17
          refine CH.idx hτ (d59 x17) (rows := (r5.map d59)) (n := v4) (sz := 14) (by kernel_rfl) (by kernel_rfl) (by first | omega | (simp; done) | (simp; omega)) (by rw [List.getElem?_map, hx17]; rfl) (by kernel_rfl) ?_
          refine CH.go 2 hτ (by kernel_rfl) ?_
          obtain ⟨r18, hr20, hf19⟩ := i_ChainOf r5 x17.f0 (by assumption)
          replace hr20 := hr20.symm; subst hr20
          have hch := chainOf_len r5 x17.f0
          refine CH.call hf19 Try.func26 ⟨rfl, rfl⟩ [] (by kernel_rfl) (by kernel_rfl) (by kernel_rfl) (by kernel_rfl) ?_
          refine CH.go 1 hτ (by kernel_rfl) ?_
          refine CH.endk ⟨[(3, .e (.c (.f (.sl (r5.map d59))))), (4, .e (.c (.d (.v (.int .i64 v4))))), (5, .e (.c (.f (.sl ((chainOf r5 x17.f0).map dI)))))], [], 416⟩ (by kernel_rfl) (by kernel_rfl) rfl ?_
          refine X.seq ?_
          refine X.seq ?_
          have el22 : ((chainOf r5 x17.f0).map dI).length = (chainOf r5 x17.f0).length := List.length_map ..
          refine X.rs 4 hτ hmix (by kernel_rfl) ?_
          rcases Bool.eq_false_or_eq_true (((((chainOf r5 x17.f0).map dI).length : Int) == 0)) with hb23 | hb23
          · refine CH.alt 32 (sV (.bool (((((chainOf r5 x17.f0).map dI).length : Int) == 0)))) (sV (.bool true)) (by kernel_rfl) (by rw [hb23]) ?_
            refine CH.alt 33 (sV (.bool (((((chainOf r5 x17.f0).map dI).length : Int) == 0)))) (sV (.bool true)) (by kernel_rfl) (by rw [hb23]) ?_
            replace hb23 := eq_of_beq (hb23)
            refine CH.go 13 hτ (by kernel_rfl) ?_
            refine CH.endk ⟨[(3, .e (.c (.f (.sl (r5.map d59))))), (4, .e (.c (.d (.v (.int .i64 v4))))), (5, .e (.c (.f (.sl ((chainOf r5 x17.f0).map dI))))), (46, .e (.c (.d (.v (.bool true)))))], [], 688⟩ (by kernel_rfl) (by kernel_rfl) rfl ?_
            refine X.ifT (by kernel_rfl) ?_
            refine X.seq ?_
            refine X.rk ⟨[(2, .e (.c (.d (.v (.bool false)))))], [], 704⟩ hτ hmix (by kernel_rfl) (by kernel_rfl) rfl ?_
            refine X.ret ?_
            exact ⟨trivial, _, _, ⟨false, (absurd ‹_› hcl.1), rfl, rfl⟩, .inl (Ret.mk' [] (by kernel_rfl) (by kernel_rfl) (by kernel_rfl))⟩
          · refine CH.alt 32 (sV (.bool (((((chainOf r5 x17.f0).map dI).length : Int) == 0)))) (sV (.bool false)) (by kernel_rfl) (by rw [hb23]) ?_
            refine CH.alt 33 (sV (.bool (((((chainOf r5 x17.f0).map dI).length : Int) == 0)))) (sV (.bool false)) (by kernel_rfl) (by rw [hb23]) ?_
            replace hb23 := beq_eq_false_iff_ne.1 (hb23)
            refine CH.go 4 hτ (by kernel_rfl) ?_
            obtain ⟨x24, hx24⟩ : ∃ x, (chainOf r5 x17.f0)[Int.toNat ((((chainOf r5 x17.f0).map dI).length : Int) - 1)]? = some x := ⟨_, List.getElem?_eq_getElem (by first | omega | (simp; done) | (simp; omega))⟩
            refine CH.alt 37 (sV (.int .i64 (wrap64 ((((chainOf r5 x17.f0).map dI).length : Int) - 1)))) (sV (.int .i64 (((((chainOf r5 x17.f0).map dI).length : Int) - 1)))) (by kernel_rfl) (by rw [w64 (n := ((((chainOf r5 x17.f0).map dI).length : Int) - 1)) (by omega) (by omega)]) ?_
            refine CH.idx hτ (dI x24) (rows := ((chainOf r5 x17.f0).map dI)) (n := ((((chainOf r5 x17.f0).map dI).length : Int) - 1)) (sz := 1) (by kernel_rfl) (by kernel_rfl) (by first | omega | (simp; done) | (simp; omega)) (by rw [List.getElem?_map, hx24]; rfl) (by kernel_rfl) ?_
            refine CH.go 3 hτ (by kernel_rfl) ?_
            refine CH.idx hτ (d59 x17) (rows := (r5.map d59)) (n := v4) (sz := 14) (by kernel_rfl) (by kernel_rfl) (by first | omega | (simp; done) | (simp; omega)) (by rw [List.getElem?_map, hx17]; rfl) (by kernel_rfl) ?_
            refine CH.go 4 hτ (by kernel_rfl) ?_
            refine CH.endk ⟨[(3, .e (.c (.f (.sl (r5.map d59))))), (4, .e (.c (.d (.v (.int .i64 v4))))), (5, .e (.c (.f (.sl ((chainOf r5 x17.f0).map dI))))), (46, .e (.c (.d (.v (.bool (x24 != x17.f0))))))], [], 688⟩ (by kernel_rfl) (by kernel_rfl) rfl ?_
            refine X.if_ (b := (x24 != x17.f0)) (by kernel_rfl) (fun hb25 => ?_) (fun hb25 => ?_)
            · replace hb25 := bne_iff_ne.1 (hb25)
              refine X.seq ?_
              refine X.rk ⟨[(2, .e (.c (.d (.v (.bool false)))))], [], 704⟩ hτ hmix (by kernel_rfl) (by kernel_rfl) rfl ?_
              refine X.ret ?_
              exact ⟨trivial, _, _, ⟨false, (absurd (hcl.2 _ ‹_›) ‹_›), rfl, rfl⟩, .inl (Ret.mk' [] (by kernel_rfl) (by kernel_rfl) (by kernel_rfl))⟩
            · replace hb25 := bne_eq_false_iff_eq.1 (hb25)
              refine X.skip ?_
              refine X.seq ?_
              refine X.rk ⟨[(3, .e (.c (.f (.sl (r5.map d59))))), (4, .e (.c (.d (.v (.int .i64 v4))))), (5, .e (.c (.f (.sl ((chainOf r5 x17.f0).map dI))))), (6, .e (.c (.d (.v (.int .i64 (-1))))))], [], 704⟩ hτ hmix (by kernel_rfl) (by kernel_rfl) rfl ?_
              refine X.seq ?_
              refine X.seq ?_
              refine X.rk ⟨[(3, .e (.c (.f (.sl (r5.map d59))))), (4, .e (.c (.d (.v (.int .i64 v4))))), (5, .e (.c (.f (.sl ((chainOf r5 x17.f0).map dI))))), (6, .e (.c (.d (.v (.int .i64 (-1)))))), (7, .e (.c (.d (.v (.int .i64 0)))))], [], 720⟩ hτ hmix (by kernel_rfl) (by kernel_rfl) rfl ?_
              refine X.block ?_
              -- 14: v6 : Int, v7 : Int
              refine X.loop (σ := { g : Int × Int // (fun (v6 : Int) (v7 : Int) => 0 ≤ v7 ∧ v7 ≤ (chainOf r5 x17.f0).length ∧ (v7 = 0 → v6 = -1) ∧ ∀ d, 0 < v7 → (chainOf r5 x17.f0)[(v7 - 1).toNat]? = some d → v6 = d) g.1 g.2 }) (fun g => (fun (v6 : Int) (v7 : Int) => ⟨[(3, .e (.c (.f (.sl (r5.map d59))))), (4, .e (.c (.d (.v (.int .i64 v4))))), (5, .e (.c (.f (.sl ((chainOf r5 x17.f0).map dI))))), (6, .e (.c (.d (.v (.int .i64 v6))))), (7, .e (.c (.d (.v (.int .i64 v7)))))], [], 720⟩) g.1.1 g.1.2) (fun g => (fun (v6 : Int) (v7 : Int) => ((chainOf r5 x17.f0).length - v7).toNat) g.1.1 g.1.2) ⟨((-1), 0), ⟨by first | omega | (dsimp only; omega), by first | omega | (dsimp only; omega), fun _ => rfl, fun d h => by first | omega | (dsimp only; omega)⟩⟩ (Wk.less (by kernel_rfl)) (fun g => ?_)
              obtain ⟨⟨v6, v7⟩, hg27⟩ := g
              have hg27 : 0 ≤ v7 ∧ v7 ≤ (chainOf r5 x17.f0).length ∧ (v7 = 0 → v6 = -1) ∧ ∀ d, 0 < v7 → (chainOf r5 x17.f0)[(v7 - 1).toNat]? = some d → v6 = d := hg27
              obtain ⟨_, _, hB0, hB1⟩ := hg27
              refine X.seq ?_
              refine X.seq ?_
              refine X.rk ⟨[(3, .e (.c (.f (.sl (r5.map d59))))), (4, .e (.c (.d (.v (.int .i64 v4))))), (5, .e (.c (.f (.sl ((chainOf r5 x17.f0).map dI))))), (6, .e (.c (.d (.v (.int .i64 v6))))), (7, .e (.c (.d (.v (.int .i64 v7))))), (50, .e (.c (.d (.v (.bool (decide ((v7 : Int) < (((chainOf r5 x17.f0).map dI).length : Int))))))))], [], 784⟩ hτ hmix (by kernel_rfl) (by kernel_rfl) rfl ?_
              refine X.if_ (b := decide ((v7 : Int) < (((chainOf r5 x17.f0).map dI).length : Int))) (by kernel_rfl) (fun hb28 => ?_) (fun hb28 => ?_)
              · replace hb28 := of_decide_eq_true (hb28)
                refine X.skip ?_
                refine X.seq ?_
                refine X.block ?_
                refine X.seq ?_
                refine X.rs 3 hτ hmix (by kernel_rfl) ?_
                obtain ⟨x29, hx29⟩ : ∃ x, (chainOf r5 x17.f0)[Int.toNat v7]? = some x := ⟨_, List.getElem?_eq_getElem (by first | omega | (simp; done) | (simp; omega))⟩
                have hlk := law_k hT hx29 (by omega) hB0 hB1
                refine CH.idx hτ (dI x29) (rows := ((chainOf r5 x17.f0).map dI)) (n := v7) (sz := 1) (by kernel_rfl) (by kernel_rfl) (by first | omega | (simp; done) | (simp; omega)) (by rw [List.getElem?_map, hx29]; rfl) (by kernel_rfl) ?_
                refine CH.go 1 hτ (by kernel_rfl) ?_
                obtain ⟨r30, r31, hr33, hf32⟩ := i_BlockAt r5 x29 (by assumption)
                obtain ⟨e34, e35⟩ := hr33
                replace e34 := e34.symm; subst e34
                replace e35 := e35.symm; subst e35
                refine CH.call hf32 Try.func42 ⟨rfl, rfl⟩ [] (by kernel_rfl) (by kernel_rfl) (by kernel_rfl) (by kernel_rfl) ?_
                refine CH.go 6 hτ (by kernel_rfl) ?_
                refine CH.endk ⟨[(3, .e (.c (.f (.sl (r5.map d59))))), (4, .e (.c (.d (.v (.int .i64 v4))))), (5, .e (.c (.f (.sl ((chainOf r5 x17.f0).map dI))))), (6, .e (.c (.d (.v (.int .i64 v6))))), (7, .e (.c (.d (.v (.int .i64 v7))))), (8, .pt 928 0 0), (9, .e (.c (.d (.v (.bool ((findB r5 x29).isSome))))))], [(928, some (.box [.d (.v (.int .i64 ((((findB r5 x29).getD z59)).f0))), .d (.v (.int .i64 ((((findB r5 x29).getD z59)).f1))), .d (.v (.int .i64 ((((findB r5 x29).getD z59)).f2))), .d (.v (.string ((((findB r5 x29).getD z59)).f3))), .d (.v (.int .i64 (((((findB r5 x29).getD z59)).f4).f0))), .d (.v (.int .i64 (((((findB r5 x29).getD z59)).f4).f1))), .f (.sl ((((((findB r5 x29).getD z59)).f4).f2).map dS)), .d (.v (.int .i64 (((((findB r5 x29).getD z59)).f5).f0))), .f (.sl ((((((findB r5 x29).getD z59)).f5).f1).map dS)), .f (.sl ((((((findB r5 x29).getD z59)).f5).f2).map dI)), .f (.sl (((((findB r5 x29).getD z59)).f6).map d120)), .d (.v (.bool ((((findB r5 x29).getD z59)).f7))), .f (.sl (((((findB r5 x29).getD z59)).f8).map d122)), .d (.v (.string ((((findB r5 x29).getD z59)).f9)))]))], 976⟩ (by kernel_rfl) (by kernel_rfl) rfl ?_
                refine X.seq ?_
                refine X.seq ?_
                refine X.rs 3 hτ hmix (by kernel_rfl) ?_
                rcases Bool.eq_false_or_eq_true (!((findB r5 x29).isSome)) with hb36 | hb36
                · refine CH.alt 63 (sV (.bool (!((findB r5 x29).isSome)))) (sV (.bool true)) (by kernel_rfl) (by rw [hb36]) ?_
                  refine CH.alt 64 (sV (.bool (!((findB r5 x29).isSome)))) (sV (.bool true)) (by kernel_rfl) (by rw [hb36]) ?_
                  replace hb36 := bnot_yes (hb36)
                  refine CH.go 20 hτ (by kernel_rfl) ?_
                  refine CH.endk ⟨[(3, .e (.c (.f (.sl (r5.map d59))))), (4, .e (.c (.d (.v (.int .i64 v4))))), (5, .e (.c (.f (.sl ((chainOf r5 x17.f0).map dI))))), (7, .e (.c (.d (.v (.int .i64 v7))))), (84, .e (.c (.d (.v (.bool true)))))], [], 1344⟩ (by kernel_rfl) (by kernel_rfl) rfl ?_
                  refine X.ifT (by kernel_rfl) ?_
                  refine X.seq ?_
                  refine X.rk ⟨[(2, .e (.c (.d (.v (.bool false)))))], [], 1360⟩ hτ hmix (by kernel_rfl) (by kernel_rfl) rfl ?_
                  refine X.ret ?_
                  exact ⟨trivial, _, _, ⟨false, (tf hlk.1 ‹_›), rfl, rfl⟩, .inl (Ret.mk' [] (by kernel_rfl) (by kernel_rfl) (by kernel_rfl))⟩
                · refine CH.alt 63 (sV (.bool (!((findB r5 x29).isSome)))) (sV (.bool false)) (by kernel_rfl) (by rw [hb36]) ?_
                  refine CH.alt 64 (sV (.bool (!((findB r5 x29).isSome)))) (sV (.bool false)) (by kernel_rfl) (by rw [hb36]) ?_
                  replace hb36 := bnot_no (hb36)
                  refine CH.go 7 hτ (by kernel_rfl) ?_
                  rcases Bool.eq_false_or_eq_true (((((((findB r5 x29).getD z59)).f4).f1) != v6)) with hb37 | hb37
                  · refine CH.alt 69 (sV (.bool (((((((findB r5 x29).getD z59)).f4).f1) != v6)))) (sV (.bool true)) (by kernel_rfl) (by rw [hb37]) ?_
                    refine CH.alt 70 (sV (.bool (((((((findB r5 x29).getD z59)).f4).f1) != v6)))) (sV (.bool true)) (by kernel_rfl) (by rw [hb37]) ?_
                    refine CH.alt 71 (sV (.bool (((((((findB r5 x29).getD z59)).f4).f1) != v6)))) (sV (.bool true)) (by kernel_rfl) (by rw [hb37]) ?_
                    replace hb37 := bne_iff_ne.1 (hb37)
                    refine CH.go 13 hτ (by kernel_rfl) ?_
                    refine CH.endk ⟨[(3, .e (.c (.f (.sl (r5.map d59))))), (4, .e (.c (.d (.v (.int .i64 v4))))), (5, .e (.c (.f (.sl ((chainOf r5 x17.f0).map dI))))), (7, .e (.c (.d (.v (.int .i64 v7))))), (84, .e (.c (.d (.v (.bool true)))))], [], 1344⟩ (by kernel_rfl) (by kernel_rfl) rfl ?_
                    refine X.ifT (by kernel_rfl) ?_
                    refine X.seq ?_
                    refine X.rk ⟨[(2, .e (.c (.d (.v (.bool false)))))], [], 1360⟩ hτ hmix (by kernel_rfl) (by kernel_rfl) rfl ?_
                    refine X.ret ?_
                    exact ⟨trivial, _, _, ⟨false, (absurd hlk.2.1 ‹_›), rfl, rfl⟩, .inl (Ret.mk' [] (by kernel_rfl) (by kernel_rfl) (by kernel_rfl))⟩
                  · refine CH.alt 69 (sV (.bool (((((((findB r5 x29).getD z59)).f4).f1) != v6)))) (sV (.bool false)) (by kernel_rfl) (by rw [hb37]) ?_
                    refine CH.alt 70 (sV (.bool (((((((findB r5 x29).getD z59)).f4).f1) != v6)))) (sV (.bool false)) (by kernel_rfl) (by rw [hb37]) ?_
                    refine CH.alt 71 (sV (.bool (((((((findB r5 x29).getD z59)).f4).f1) != v6)))) (sV (.bool false)) (by kernel_rfl) (by rw [hb37]) ?_
                    replace hb37 := bne_eq_false_iff_eq.1 (hb37)
                    refine CH.go 3 hτ (by kernel_rfl) ?_
                    refine CH.idx hτ (dI x29) (rows := ((chainOf r5 x17.f0).map dI)) (n := v7) (sz := 1) (by kernel_rfl) (by kernel_rfl) (by first | omega | (simp; done) | (simp; omega)) (by rw [List.getElem?_map, hx29]; rfl) (by kernel_rfl) ?_
                    refine CH.go 3 hτ (by kernel_rfl) ?_
                    refine CH.idx hτ (d59 x17) (rows := (r5.map d59)) (n := v4) (sz := 14) (by kernel_rfl) (by kernel_rfl) (by first | omega | (simp; done) | (simp; omega)) (by rw [List.getElem?_map, hx17]; rfl) (by kernel_rfl) ?_
                    refine CH.go 2 hτ (by kernel_rfl) ?_
                    obtain ⟨r38, hr40, hf39⟩ := i_Extends r5 x29 x17.f0 (by assumption)
                    replace hr40 := hr40.symm; subst hr40
                    refine CH.call hf39 Try.func24 ⟨rfl, rfl⟩ [] (by kernel_rfl) (by kernel_rfl) (by kernel_rfl) (by kernel_rfl) ?_
                    refine CH.go 2 hτ (by kernel_rfl) ?_
                    refine CH.endk ⟨[(3, .e (.c (.f (.sl (r5.map d59))))), (4, .e (.c (.d (.v (.int .i64 v4))))), (5, .e (.c (.f (.sl ((chainOf r5 x17.f0).map dI))))), (7, .e (.c (.d (.v (.int .i64 v7))))), (84, .e (.c (.d (.v (.bool (!(extends_ r5 x29 x17.f0)))))))], [], 1344⟩ (by kernel_rfl) (by kernel_rfl) rfl ?_
                    refine X.if_ (b := !(extends_ r5 x29 x17.f0)) (by kernel_rfl) (fun hb42 => ?_) (fun hb42 => ?_)
                    · replace hb42 := bnot_yes (hb42)
                      refine X.seq ?_
                      refine X.rk ⟨[(2, .e (.c (.d (.v (.bool false)))))], [], 1360⟩ hτ hmix (by kernel_rfl) (by kernel_rfl) rfl ?_
                      refine X.ret ?_
                      exact ⟨trivial, _, _, ⟨false, (tf hlk.2.2 ‹_›), rfl, rfl⟩, .inl (Ret.mk' [] (by kernel_rfl) (by kernel_rfl) (by kernel_rfl))⟩
                    · replace hb42 := bnot_no (hb42)
                      refine X.skip ?_
                      refine X.rs 2 hτ hmix (by kernel_rfl) ?_
                      refine CH.idx hτ (dI x29) (rows := ((chainOf r5 x17.f0).map dI)) (n := v7) (sz := 1) (by kernel_rfl) (by kernel_rfl) (by first | omega | (simp; done) | (simp; omega)) (by rw [List.getElem?_map, hx29]; rfl) (by kernel_rfl) ?_
                      refine CH.go 2 hτ (by kernel_rfl) ?_
                      refine CH.endk ⟨[(3, .e (.c (.f (.sl (r5.map d59))))), (4, .e (.c (.d (.v (.int .i64 v4))))), (5, .e (.c (.f (.sl ((chainOf r5 x17.f0).map dI))))), (6, .e (.c (.d (.v (.int .i64 x29))))), (7, .e (.c (.d (.v (.int .i64 v7)))))], [], 1424⟩ (by kernel_rfl) (by kernel_rfl) rfl ?_
                      refine X.rk ⟨[(3, .e (.c (.f (.sl (r5.map d59))))), (4, .e (.c (.d (.v (.int .i64 v4))))), (5, .e (.c (.f (.sl ((chainOf r5 x17.f0).map dI))))), (6, .e (.c (.d (.v (.int .i64 x29))))), (7, .e (.c (.d (.v (.int .i64 (wrap64 (v7 + 1)))))))], [], 1472⟩ hτ hmix (by kernel_rfl) (by kernel_rfl) (s2 := ⟨[(3, .e (.c (.f (.sl (r5.map d59))))), (4, .e (.c (.d (.v (.int .i64 v4))))), (5, .e (.c (.f (.sl ((chainOf r5 x17.f0).map dI))))), (6, .e (.c (.d (.v (.int .i64 x29))))), (7, .e (.c (.d (.v (.int .i64 (v7 + 1))))))], [], 1472⟩) (congrArg (fun z : Int => (⟨[(3, .e (.c (.f (.sl (r5.map d59))))), (4, .e (.c (.d (.v (.int .i64 v4))))), (5, .e (.c (.f (.sl ((chainOf r5 x17.f0).map dI))))), (6, .e (.c (.d (.v (.int .i64 x29))))), (7, .e (.c (.d (.v (.int .i64 z)))))], [], 1472⟩ : St)) (show wrap64 (v7 + 1) = (v7 + 1) by rw [w64 (n := (v7 + 1)) (by omega) (by omega)])) ?_
                      refine ⟨⟨(x29, (v7 + 1)), ⟨by first | omega | (dsimp only; omega), by first | omega | (dsimp only; omega), fun h => by first | omega | (dsimp only; omega), nx_at ‹_›⟩⟩, by first | exact rfl | omega | (dsimp only; omega) | (simp only [List.length_append, List.length_cons, List.length_nil, List.length_set]; omega) | (simp; done) | (simp; omega), Wk.mk' [] (by kernel_rfl) (by kernel_rfl) (by kernel_rfl)⟩
              · replace hb28 := of_decide_eq_false (hb28)
                refine X.exit ?_
                refine X.seq ?_
                refine X.rs 3 hτ hmix (by kernel_rfl) ?_
                refine CH.idx hτ (d59 x17) (rows := (r5.map d59)) (n := v4) (sz := 14) (by kernel_rfl) (by kernel_rfl) (by first | omega | (simp; done) | (simp; omega)) (by rw [List.getElem?_map, hx17]; rfl) (by kernel_rfl) ?_
                refine CH.go 2 hτ (by kernel_rfl) ?_
                obtain ⟨r43, hr45, hf44⟩ := i_Extends r5 (-1) x17.f0 (by assumption)
                replace hr45 := hr45.symm; subst hr45
                refine CH.call hf44 Try.func24 ⟨rfl, rfl⟩ [] (by kernel_rfl) (by kernel_rfl) (by kernel_rfl) (by kernel_rfl) ?_
                refine CH.go 1 hτ (by kernel_rfl) ?_
                refine CH.endk ⟨[(3, .e (.c (.f (.sl (r5.map d59))))), (4, .e (.c (.d (.v (.int .i64 v4))))), (96, .e (.c (.d (.v (.bool (!(extends_ r5 (-1) x17.f0)))))))], [], 912⟩ (by kernel_rfl) (by kernel_rfl) rfl ?_
                refine X.if_ (b := !(extends_ r5 (-1) x17.f0)) (by kernel_rfl) (fun hb47 => ?_) (fun hb47 => ?_)
                · replace hb47 := bnot_yes (hb47)
                  refine X.seq ?_
                  refine X.rk ⟨[(2, .e (.c (.d (.v (.bool false)))))], [], 928⟩ hτ hmix (by kernel_rfl) (by kernel_rfl) rfl ?_
                  refine X.ret ?_
                  exact ⟨trivial, _, _, ⟨false, (tf hxr ‹_›), rfl, rfl⟩, .inl (Ret.mk' [] (by kernel_rfl) (by kernel_rfl) (by kernel_rfl))⟩
                · replace hb47 := bnot_no (hb47)
                  refine X.skip ?_
                  refine X.rk ⟨[(3, .e (.c (.f (.sl (r5.map d59))))), (4, .e (.c (.d (.v (.int .i64 (wrap64 (v4 + 1)))))))], [], 960⟩ hτ hmix (by kernel_rfl) (by kernel_rfl) (s2 := ⟨[(3, .e (.c (.f (.sl (r5.map d59))))), (4, .e (.c (.d (.v (.int .i64 (v4 + 1))))))], [], 960⟩) (congrArg (fun z : Int => (⟨[(3, .e (.c (.f (.sl (r5.map d59))))), (4, .e (.c (.d (.v (.int .i64 z)))))], [], 960⟩ : St)) (show wrap64 (v4 + 1) = (v4 + 1) by rw [w64 (n := (v4 + 1)) (by omega) (by omega)])) ?_
                  refine ⟨⟨(v4 + 1), by first | exact rfl | omega | (dsimp only; omega) | (simp only [List.length_append, List.length_cons, List.length_nil, List.length_set]; omega) | (simp; done) | (simp; omega)⟩, by first | exact rfl | omega | (dsimp only; omega) | (simp only [List.length_append, List.length_cons, List.length_nil, List.length_set]; omega) | (simp; done) | (simp; omega), Wk.mk' [] (by kernel_rfl) (by kernel_rfl) (by kernel_rfl)⟩
        · replace hb16 := of_decide_eq_false (hb16)
          refine X.exit ?_
          refine X.seq ?_
          refine X.rs 1 hτ hmix (by kernel_rfl) ?_
          obtain ⟨r48, hr50, hf49⟩ := i_ChainOf r5 (-1) (by assumption)
          replace hr50 := hr50.symm; subst hr50
          have hch := chainOf_len r5 (-1)
          refine CH.call hf49 Try.func26 ⟨rfl, rfl⟩ [] (by kernel_rfl) (by kernel_rfl) (by kernel_rfl) (by kernel_rfl) ?_
          refine CH.go 3 hτ (by kernel_rfl) ?_
          have el52 : ((chainOf r5 (-1)).map dI).length = (chainOf r5 (-1)).length := List.length_map ..
          refine CH.endk ⟨[(2, .e (.c (.d (.v (.bool ((((chainOf r5 (-1)).map dI).length : Int) == 0))))))], [], 368⟩ (by kernel_rfl) (by kernel_rfl) rfl ?_
          refine X.ret ?_
          exact ⟨trivial, _, _, ⟨((((chainOf r5 (-1)).map dI).length : Int) == 0), (by rw [chOf_root hT]; rfl), rfl, rfl⟩, .inl (Ret.mk' [] (by kernel_rfl) (by kernel_rfl) (by kernel_rfl))⟩
  obtain ⟨_, _, ⟨r0, q1, rfl, rfl⟩, hf⟩ := key
  exact ⟨r0, q1, hf⟩
end Go.Proofs.Ytnldeeefiidcaaa.Av
