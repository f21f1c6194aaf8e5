/-
What functions of the program come to, walked one by one.
Conditions: none beside those that each theorem names.
-/
import Derived.Test.YtnldeeefiidcaaaAvC
set_option linter.unusedVariables false
set_option linter.unusedSimpArgs false
namespace Go.Proofs.Ytnldeeefiidcaaa.Av
open Go.RowKit
set_option maxRecDepth 20000
set_option maxHeartbeats 4000000

/-- The chain's ids, the nearest first: by the place at which the walk stands. -/
def chI (l : List S59) : Nat → Int → List Int
  | 0, _ => []
  | n + 1, at_ => match at_ < 0, l[at_.toNat]? with
    | _, none => []
    | _, some x => if at_ < 0 then [] else x.f0 :: chI l n (idAt l x.f4.f1)
def chain (l : List S59) (id : Int) : List Int := chI l (idAt l id + 1).toNat (idAt l id)
theorem root_m1 {x : S59} (h : rootQ x.f4 = true) : x.f4.f1 = -1 := by
  simp only [rootQ, Bool.and_eq_true, beq_iff_eq] at h
  exact h.2.1
theorem idAt_m1 {l : List S59} (h : treeP l) : idAt l (-1) = -1 := by
  refine idAt_no fun j y hy => ?_
  have := blk_rng (tree_at h hy).1
  omega
/-- Behind each block stands one that comes earlier, or none. -/
theorem dec_at {l : List S59} (h : treeP l) {i : Int} {x : S59} (h0 : 0 ≤ i) (hx : l[i.toNat]? = some x) : -1 ≤ idAt l x.f4.f1 ∧ idAt l x.f4.f1 < i := by
  have hb := idAt_bd l x.f4.f1
  cases hr : rootQ x.f4 with
  | true => rw [root_m1 hr, idAt_m1 h] at *; omega
  | false =>
    obtain ⟨k, p, h1, h2, _⟩ := tree_find h hx hr
    omega
theorem chI_neg {l : List S59} {n : Nat} {a : Int} (h : a < 0) : chI l n a = [] := by
  cases n with
  | zero => rfl
  | succ n => unfold chI; split <;> simp_all
theorem chI_at {l : List S59} {n : Nat} {a : Int} {x : S59} (h : 0 ≤ a) (hx : l[a.toNat]? = some x) : chI l (n + 1) a = x.f0 :: chI l n (idAt l x.f4.f1) := by
  rw [chI, hx]
  simp only []
  rw [if_neg (by omega)]
theorem chI_more {l : List S59} (h : treeP l) : ∀ (n m : Nat) (a : Int), a < n → a < m → chI l n a = chI l m a
  | 0, m, a, h1, h2 => by rw [chI_neg (by omega), chI_neg (by omega)]
  | n + 1, 0, a, h1, h2 => by rw [chI_neg (by omega), chI_neg (by omega)]
  | n + 1, m + 1, a, h1, h2 => by
    by_cases ha : a < 0
    · rw [chI_neg ha, chI_neg ha]
    · cases hx : l[a.toNat]? with
      | none => rw [chI, chI, hx]
      | some x =>
        have := dec_at h (by omega) hx
        rw [chI_at (by omega) hx, chI_at (by omega) hx, chI_more h n m _ (by omega) (by omega)]
theorem ch_next {l : List S59} (h : treeP l) {a : Int} {x : S59} {out C : List Int} (h0 : 0 ≤ a) (hx : l[a.toNat]? = some x) (hC : out ++ chI l (a + 1).toNat a = C) : out ++ [x.f0] ++ chI l (idAt l x.f4.f1 + 1).toNat (idAt l x.f4.f1) = C := by
  have hd := dec_at h h0 hx
  rw [← hC, show (a + 1).toNat = a.toNat + 1 by omega, chI_at h0 hx, List.append_assoc]
  congr 1
  show x.f0 :: _ = _
  congr 1
  exact chI_more h _ _ _ (by omega) (by omega)
theorem ch_end {l : List S59} {a : Int} {out C : List Int} (h : ¬ a ≥ 0) (hC : out ++ chI l (a + 1).toNat a = C) : out = C := by rw [chI_neg (by omega), List.append_nil] at hC; exact hC
theorem chI_len {l : List S59} : ∀ (n : Nat) (a : Int), (chI l n a).length ≤ n
  | 0, _ => Nat.le_refl _
  | n + 1, a => by
    rw [chI]
    split
    · simp
    · split
      · simp
      · have := chI_len (l := l) n (idAt l (by assumption : S59).f4.f1)
        simp only [List.length_cons]; omega
theorem chain_len (l : List S59) (id : Int) : (chain l id).length ≤ l.length := by
  have h1 := chI_len (l := l) (idAt l id + 1).toNat (idAt l id)
  have h2 := idAt_bd l id
  unfold chain
  omega
/-- turned round up to i, from both ends -/
def rvd (l : List Int) (i : Int) (q : List Int) : Prop := q.length = l.length ∧ ∀ (j : Nat) (x : Int), l[j]? = some x → ((j : Int) < i ∨ (l.length : Int) - 1 - i < j → q[l.length - 1 - j]? = some x) ∧ (i ≤ j → (j : Int) ≤ l.length - 1 - i → q[j]? = some x)
theorem rvd_zero {l : List Int} : rvd l 0 l := ⟨rfl, fun j x hx => ⟨fun h => by have := (List.getElem?_eq_some_iff.1 hx).1; omega, fun _ _ => hx⟩⟩
theorem rvd_next {l q : List Int} {i j : Int} {x y : Int} (h : rvd l i q) (h0 : 0 ≤ i) (hj : j = l.length - 1 - i) (hij : i < j) (hx : q[j.toNat]? = some x) (hy : q[i.toNat]? = some y) : rvd l (i + 1) ((q.set i.toNat x).set j.toNat y) := by
  obtain ⟨hl, h⟩ := h
  have hil : i.toNat < l.length := by omega
  have hjl : j.toNat < l.length := by omega
  have ly : l[i.toNat]? = some y := by
    have e := h i.toNat _ (List.getElem?_eq_getElem hil)
    rw [e.2 (by omega) (by omega)] at hy
    rw [List.getElem?_eq_getElem hil]
    exact hy
  have lx : l[j.toNat]? = some x := by
    have e := h j.toNat _ (List.getElem?_eq_getElem hjl)
    rw [e.2 (by omega) (by omega)] at hx
    rw [List.getElem?_eq_getElem hjl]
    exact hx
  refine ⟨by simp [hl], fun k z hz => ?_⟩
  have hk := (List.getElem?_eq_some_iff.1 hz).1
  have e := h k z hz
  simp only [List.getElem?_set]
  refine ⟨fun hc => ?_, fun h1 h2 => ?_⟩
  · by_cases k1 : k = i.toNat
    · subst k1
      rw [ly] at hz; cases hz
      rw [if_pos (by omega), if_pos (by simp; omega)]
    · by_cases k2 : k = j.toNat
      · subst k2
        rw [lx] at hz; cases hz
        rw [if_neg (by omega), if_pos (by omega), if_pos (by omega)]
      · rw [if_neg (by omega), if_neg (by omega)]
        exact e.1 (by omega)
  · rw [if_neg (by omega), if_neg (by omega)]
    exact e.2 (by omega) (by omega)
theorem rvd_end {l q : List Int} {i j : Int} (h : rvd l i q) (h0 : 0 ≤ i) (hj : j = l.length - 1 - i) (hij : ¬ i < j) : q = l.reverse := by
  obtain ⟨hl, h⟩ := h
  refine List.ext_getElem? fun k => ?_
  by_cases hk : k < l.length
  · have hk2 : l.length - 1 - k < l.length := by omega
    rw [List.getElem?_reverse (by omega)]
    have hx : l[l.length - 1 - k]? = some l[l.length - 1 - k] := List.getElem?_eq_getElem hk2
    rw [hx]
    have e := h _ _ hx
    by_cases hm : i ≤ (l.length - 1 - k : Nat) ∧ ((l.length - 1 - k : Nat) : Int) ≤ l.length - 1 - i
    · have := e.2 hm.1 hm.2
      have hkk : k = l.length - 1 - k := by omega
      rw [show q[k]? = q[l.length - 1 - k]? from congrArg (fun n : Nat => q[n]?) hkk]
      exact this
    · have := e.1 (by omega)
      rwa [show l.length - 1 - (l.length - 1 - k) = k by omega] at this
  · rw [List.getElem?_eq_none (by omega), List.getElem?_eq_none (by simp; omega)]

noncomputable def chainOf (l : List S59) (id : Int) : List Int := if treeOk l = true then (chain l id).reverse else []
theorem chainOf_len (l : List S59) (id : Int) : (chainOf l id).length ≤ l.length := by
  unfold chainOf
  split
  · rw [List.length_reverse]; exact chain_len l id
  · simp
theorem i_TreeOk (l : List S59) (hl : SmL l) : ∃ r0 : Bool, (r0 = treeOk l) ∧ Fn Try.prog 22 [lV (l.map d59)] (lookH []) (bV r0) (lookH []) := by
  have key : ∃ x' h', ((fun x' h' => ∃ r0 : Bool, (r0 = treeOk l) ∧ x' = bV r0 ∧ h' = [])) x' h' ∧ Fn Try.prog 22 [lV (l.map d59)] (lookH []) x' (lookH h') := by
    refine Fn.bodyX (N := 65) hτ Try.func22 rfl rfl rfl rfl ?_
    refine X.seq ?_
    refine X.rk ⟨[(0, lV (l.map d59))], [], 80⟩ hτ hmix (by kernel_rfl) (by kernel_rfl) rfl ?_
    refine X.seq ?_
    refine X.seq ?_
    have el1 : (l.map d59).length = l.length := List.length_map ..
    refine X.rk ⟨[(0, lV (l.map d59)), (6, lV (l.map d59)), (7, iV ((l.map d59).length : Int)), (8, iV 0)], [], 128⟩ hτ hmix (by kernel_rfl) (by kernel_rfl) rfl ?_
    refine X.block ?_
    -- 2: v8 : Int
    refine X.loop (σ := { g : Int // (fun (v8 : Int) => 0 ≤ v8 ∧ v8 ≤ l.length ∧ Upto (treeR l) (fun n => l[n]?) v8) g }) (fun g => (fun (v8 : Int) => ⟨[(0, lV (l.map d59)), (6, lV (l.map d59)), (7, iV ((l.map d59).length : Int)), (8, iV v8)], [], 128⟩) g.1) (fun g => (fun (v8 : Int) => (l.length - v8).toNat) g.1) ⟨0, ⟨by first | omega | (dsimp only; omega), by first | omega | (dsimp only; omega), upto_zero⟩⟩ (Wk.less (by kernel_rfl)) (fun g => ?_)
    obtain ⟨v8, hg3⟩ := g
    have hg3 : 0 ≤ v8 ∧ v8 ≤ l.length ∧ Upto (treeR l) (fun n => l[n]?) v8 := hg3
    obtain ⟨_, _, hA⟩ := hg3
    refine X.seq ?_
    have hm := hl.1
    refine X.rk ⟨[(0, lV (l.map d59)), (6, lV (l.map d59)), (7, iV ((l.map d59).length : Int)), (8, iV v8), (9, bV (decide ((v8 : Int) < ((l.map d59).length : Int))))], [], 144⟩ hτ hmix (by kernel_rfl) (by kernel_rfl) rfl ?_
    refine X.seq ?_
    refine X.if_ (b := decide ((v8 : Int) < ((l.map d59).length : Int))) (by kernel_rfl) (fun hb4 => ?_) (fun hb4 => ?_)
    · replace hb4 := of_decide_eq_true (hb4)
      refine X.skip ?_
      refine X.seq ?_
      refine X.block ?_
      refine X.seq ?_
      refine X.rs 1 hτ hmix (by kernel_rfl) ?_
      obtain ⟨x5, hx5⟩ : ∃ x, l[Int.toNat v8]? = some x := ⟨_, List.getElem?_eq_getElem (by first | omega | (simp; done) | (simp; omega))⟩
      refine CH.idx hτ (d59 x5) (rows := (l.map d59)) (n := v8) (sz := 14) (by kernel_rfl) (by kernel_rfl) (by first | omega | (simp; done) | (simp; omega)) (by rw [List.getElem?_map, hx5]; rfl) (by kernel_rfl) ?_
      refine CH.go 4 hτ (by kernel_rfl) ?_
      refine CH.endk ⟨[(0, lV (l.map d59)), (3, iV v8), (4, .pt 192 0 0), (6, lV (l.map d59)), (7, iV ((l.map d59).length : Int)), (8, iV v8)], [(192, some (.box (cD (d59 x5))))], 240⟩ (by kernel_rfl) (by kernel_rfl) rfl ?_
      refine X.seq ?_
      refine X.seq ?_
      refine X.rs 1 hτ hmix (by kernel_rfl) ?_
      obtain ⟨r6, hr8, hf7⟩ := i_BlockOk x5 (by exact hl.at ‹_›)
      replace hr8 := hr8.symm; subst hr8
      refine CH.call hf7 Try.func60 ⟨rfl, rfl⟩ [] (by kernel_rfl) (by kernel_rfl) (by kernel_rfl) (by kernel_rfl) ?_
      refine CH.go 2 hτ (by kernel_rfl) ?_
      rcases Bool.eq_false_or_eq_true (!(blockOk x5)) with hb10 | hb10
      · refine CH.alt 15 (sV (.bool (!(blockOk x5)))) (sV (.bool true)) (by kernel_rfl) (by rw [hb10]) ?_
        refine CH.alt 16 (sV (.bool (!(blockOk x5)))) (sV (.bool true)) (by kernel_rfl) (by rw [hb10]) ?_
        replace hb10 := bnot_yes (hb10)
        refine CH.go 23 hτ (by kernel_rfl) ?_
        refine CH.endk ⟨[(0, lV (l.map d59)), (4, .pt 192 0 0), (6, lV (l.map d59)), (7, iV ((l.map d59).length : Int)), (8, iV v8), (39, bV true)], [(192, some (.box (cD (d59 x5))))], 672⟩ (by kernel_rfl) (by kernel_rfl) rfl ?_
        refine X.ifT (by kernel_rfl) ?_
        refine X.seq ?_
        refine X.rk ⟨[(2, bV false)], [], 688⟩ hτ hmix (by kernel_rfl) (by kernel_rfl) rfl ?_
        refine X.ret ?_
        exact ⟨trivial, _, _, ⟨false, (by first | exact (fls (fun h => upto_no (by omega) (by omega) ‹_› (fun hr => by first | exact tf hr.1 ‹_› | exact absurd (hr.2.1 _ ‹_›) ‹_› | (have := hr.2.2.1 _ (by omega) ‹_›; omega)) h.1)) | exact (fls (fun h => ti_no1 h ‹_› ‹_› ‹_›)) | exact (fls (fun h => ti_no2 h ‹_› ‹_› ‹_› ‹_› ‹_›)) | exact (dcd (by simp only [decide_eq_true_eq, List.length_map]; exact ⟨fun h => ⟨upto_all hA (by omega), by omega⟩, fun h => by have := h.2; omega⟩))), rfl, rfl⟩, .inl (Ret.mk' [] (by kernel_rfl) (by kernel_rfl) (by kernel_rfl))⟩
      · refine CH.alt 15 (sV (.bool (!(blockOk x5)))) (sV (.bool false)) (by kernel_rfl) (by rw [hb10]) ?_
        refine CH.alt 16 (sV (.bool (!(blockOk x5)))) (sV (.bool false)) (by kernel_rfl) (by rw [hb10]) ?_
        replace hb10 := bnot_no (hb10)
        refine CH.go 3 hτ (by kernel_rfl) ?_
        obtain ⟨x11, hx11⟩ : ∃ x, l[Int.toNat 0]? = some x := ⟨_, List.getElem?_eq_getElem (by first | omega | (simp; done) | (simp; omega))⟩
        refine CH.idx hτ (d59 x11) (rows := (l.map d59)) (n := 0) (sz := 14) (by kernel_rfl) (by kernel_rfl) (by first | omega | (simp; done) | (simp; omega)) (by rw [List.getElem?_map, hx11]; rfl) (by kernel_rfl) ?_
        refine CH.go 5 hτ (by kernel_rfl) ?_
        rcases Bool.eq_false_or_eq_true ((x5.f1 != x11.f1)) with hb12 | hb12
        · refine CH.alt 23 (sV (.bool ((x5.f1 != x11.f1)))) (sV (.bool true)) (by kernel_rfl) (by rw [hb12]) ?_
          refine CH.alt 24 (sV (.bool ((x5.f1 != x11.f1)))) (sV (.bool true)) (by kernel_rfl) (by rw [hb12]) ?_
          refine CH.alt 25 (sV (.bool ((x5.f1 != x11.f1)))) (sV (.bool true)) (by kernel_rfl) (by rw [hb12]) ?_
          replace hb12 := bne_iff_ne.1 (hb12)
          refine CH.go 14 hτ (by kernel_rfl) ?_
          refine CH.endk ⟨[(0, lV (l.map d59)), (4, .pt 192 0 0), (6, lV (l.map d59)), (7, iV ((l.map d59).length : Int)), (8, iV v8), (39, bV true)], [(192, some (.box (cD (d59 x5))))], 672⟩ (by kernel_rfl) (by kernel_rfl) rfl ?_
          refine X.ifT (by kernel_rfl) ?_
          refine X.seq ?_
          refine X.rk ⟨[(2, bV false)], [], 688⟩ hτ hmix (by kernel_rfl) (by kernel_rfl) rfl ?_
          refine X.ret ?_
          exact ⟨trivial, _, _, ⟨false, (by first | exact (fls (fun h => upto_no (by omega) (by omega) ‹_› (fun hr => by first | exact tf hr.1 ‹_› | exact absurd (hr.2.1 _ ‹_›) ‹_› | (have := hr.2.2.1 _ (by omega) ‹_›; omega)) h.1)) | exact (fls (fun h => ti_no1 h ‹_› ‹_› ‹_›)) | exact (fls (fun h => ti_no2 h ‹_› ‹_› ‹_› ‹_› ‹_›)) | exact (dcd (by simp only [decide_eq_true_eq, List.length_map]; exact ⟨fun h => ⟨upto_all hA (by omega), by omega⟩, fun h => by have := h.2; omega⟩))), rfl, rfl⟩, .inl (Ret.mk' [] (by kernel_rfl) (by kernel_rfl) (by kernel_rfl))⟩
        · refine CH.alt 23 (sV (.bool ((x5.f1 != x11.f1)))) (sV (.bool false)) (by kernel_rfl) (by rw [hb12]) ?_
          refine CH.alt 24 (sV (.bool ((x5.f1 != x11.f1)))) (sV (.bool false)) (by kernel_rfl) (by rw [hb12]) ?_
          refine CH.alt 25 (sV (.bool ((x5.f1 != x11.f1)))) (sV (.bool false)) (by kernel_rfl) (by rw [hb12]) ?_
          replace hb12 := bne_eq_false_iff_eq.1 (hb12)
          refine CH.go 3 hτ (by kernel_rfl) ?_
          rcases Bool.eq_false_or_eq_true (decide ((v8 : Int) > 0)) with hb13 | hb13
          · refine CH.alt 27 (sV (.bool (decide ((v8 : Int) > 0)))) (sV (.bool true)) (by kernel_rfl) (by rw [hb13]) ?_
            refine CH.alt 28 (sV (.bool (decide ((v8 : Int) > 0)))) (sV (.bool true)) (by kernel_rfl) (by rw [hb13]) ?_
            replace hb13 := of_decide_eq_true (hb13)
            refine CH.go 5 hτ (by kernel_rfl) ?_
            obtain ⟨x14, hx14⟩ : ∃ x, l[Int.toNat (v8 - 1)]? = some x := ⟨_, List.getElem?_eq_getElem (by first | omega | (simp; done) | (simp; omega))⟩
            refine CH.alt 33 (sV (.int .i64 (wrap64 (v8 - 1)))) (sV (.int .i64 ((v8 - 1)))) (by kernel_rfl) (by rw [w64 (n := (v8 - 1)) (by omega) (by omega)]) ?_
            refine CH.idx hτ (d59 x14) (rows := (l.map d59)) (n := (v8 - 1)) (sz := 14) (by kernel_rfl) (by kernel_rfl) (by first | omega | (simp; done) | (simp; omega)) (by rw [List.getElem?_map, hx14]; rfl) (by kernel_rfl) ?_
            refine CH.go 5 hτ (by kernel_rfl) ?_
            refine CH.endk ⟨[(0, lV (l.map d59)), (4, .pt 192 0 0), (6, lV (l.map d59)), (7, iV ((l.map d59).length : Int)), (8, iV v8), (39, bV (decide ((x5.f0 : Int) ≤ x14.f0)))], [(192, some (.box (cD (d59 x5))))], 672⟩ (by kernel_rfl) (by kernel_rfl) rfl ?_
            refine X.if_ (b := decide ((x5.f0 : Int) ≤ x14.f0)) (by kernel_rfl) (fun hb15 => ?_) (fun hb15 => ?_)
            · replace hb15 := of_decide_eq_true (hb15)
              refine X.seq ?_
              refine X.rk ⟨[(2, bV false)], [], 688⟩ hτ hmix (by kernel_rfl) (by kernel_rfl) rfl ?_
              refine X.ret ?_
              exact ⟨trivial, _, _, ⟨false, (by first | exact (fls (fun h => upto_no (by omega) (by omega) ‹_› (fun hr => by first | exact tf hr.1 ‹_› | exact absurd (hr.2.1 _ ‹_›) ‹_› | (have := hr.2.2.1 _ (by omega) ‹_›; omega)) h.1)) | exact (fls (fun h => ti_no1 h ‹_› ‹_› ‹_›)) | exact (fls (fun h => ti_no2 h ‹_› ‹_› ‹_› ‹_› ‹_›)) | exact (dcd (by simp only [decide_eq_true_eq, List.length_map]; exact ⟨fun h => ⟨upto_all hA (by omega), by omega⟩, fun h => by have := h.2; omega⟩))), rfl, rfl⟩, .inl (Ret.mk' [] (by kernel_rfl) (by kernel_rfl) (by kernel_rfl))⟩
            · replace hb15 := of_decide_eq_false (hb15)
              refine X.skip ?_
              refine X.seq ?_
              refine X.seq ?_
              refine X.rs 2 hτ hmix (by kernel_rfl) ?_
              obtain ⟨r16, hr18, hf17⟩ := i_isRoot x5.f4
              replace hr18 := hr18.symm; subst hr18
              refine CH.call hf17 Try.func61 ⟨rfl, rfl⟩ [] (by kernel_rfl) (by kernel_rfl) (by kernel_rfl) (by kernel_rfl) ?_
              refine CH.endk ⟨[(0, lV (l.map d59)), (4, .pt 192 0 0), (6, lV (l.map d59)), (7, iV ((l.map d59).length : Int)), (8, iV v8), (42, bV (rootQ x5.f4))], [(192, some (.box (cD (d59 x5))))], 720⟩ (by kernel_rfl) (by kernel_rfl) rfl ?_
              refine X.if_ (b := (rootQ x5.f4)) (by kernel_rfl) (fun hb20 => ?_) (fun hb20 => ?_)
              · refine X.exit ?_
                refine X.rk ⟨[(0, lV (l.map d59)), (6, lV (l.map d59)), (7, iV ((l.map d59).length : Int)), (8, iV (wrap64 (v8 + 1)))], [], 752⟩ hτ hmix (by kernel_rfl) (by kernel_rfl) (s2 := ⟨[(0, lV (l.map d59)), (6, lV (l.map d59)), (7, iV ((l.map d59).length : Int)), (8, iV (v8 + 1))], [], 752⟩) (congrArg (fun z : Int => (⟨[(0, lV (l.map d59)), (6, lV (l.map d59)), (7, iV ((l.map d59).length : Int)), (8, iV z)], [], 752⟩ : St)) (show wrap64 (v8 + 1) = (v8 + 1) by rw [w64 (n := (v8 + 1)) (by omega) (by omega)])) ?_
                refine ⟨⟨(v8 + 1), ⟨by first | omega | (dsimp only; omega), by first | omega | (dsimp only; omega), upto_nx (by first | omega | (dsimp only; omega)) hA ‹_› (⟨‹_›, at_fn ‹_› ‹_›, (by first | exact fun y h0 hy => absurd h0 (by first | omega | (dsimp only; omega)) | exact prev_fn ‹_› (by first | omega | (dsimp only; omega))), (by first | exact .inl ‹_› | exact .inr ⟨_, idAt_at ‹_› ‹_›, ‹_›⟩)⟩)⟩⟩, by first | exact rfl | omega | (dsimp only; omega) | (simp only [List.length_append, List.length_cons, List.length_nil, List.length_set]; omega) | (simp; done) | (simp; omega), Wk.mk' [] (by kernel_rfl) (by kernel_rfl) (by kernel_rfl)⟩
              · refine X.skip ?_
                refine X.seq ?_
                refine X.rs 4 hτ hmix (by kernel_rfl) ?_
                obtain ⟨r21, hr23, hf22⟩ := i_blockAt l x5.f4.f1 (by omega)
                replace hr23 := hr23.symm; subst hr23
                have hid := idAt_bd l x5.f4.f1
                refine CH.call hf22 Try.func56 ⟨rfl, rfl⟩ [] (by kernel_rfl) (by kernel_rfl) (by kernel_rfl) (by kernel_rfl) ?_
                refine CH.go 1 hτ (by kernel_rfl) ?_
                refine CH.endk ⟨[(0, lV (l.map d59)), (4, .pt 192 0 0), (5, iV (idAt l x5.f4.f1)), (6, lV (l.map d59)), (7, iV ((l.map d59).length : Int)), (8, iV v8)], [(192, some (.box (cD (d59 x5))))], 816⟩ (by kernel_rfl) (by kernel_rfl) rfl ?_
                refine X.seq ?_
                refine X.rs 3 hτ hmix (by kernel_rfl) ?_
                rcases Bool.eq_false_or_eq_true (decide (((idAt l x5.f4.f1) : Int) < 0)) with hb25 | hb25
                · refine CH.alt 49 (sV (.bool (decide (((idAt l x5.f4.f1) : Int) < 0)))) (sV (.bool true)) (by kernel_rfl) (by rw [hb25]) ?_
                  refine CH.alt 50 (sV (.bool (decide (((idAt l x5.f4.f1) : Int) < 0)))) (sV (.bool true)) (by kernel_rfl) (by rw [hb25]) ?_
                  replace hb25 := of_decide_eq_true (hb25)
                  refine CH.go 10 hτ (by kernel_rfl) ?_
                  refine CH.endk ⟨[(0, lV (l.map d59)), (6, lV (l.map d59)), (7, iV ((l.map d59).length : Int)), (8, iV v8), (60, bV true)], [], 1024⟩ (by kernel_rfl) (by kernel_rfl) rfl ?_
                  refine X.ifT (by kernel_rfl) ?_
                  refine X.seq ?_
                  refine X.rk ⟨[(2, bV false)], [], 1040⟩ hτ hmix (by kernel_rfl) (by kernel_rfl) rfl ?_
                  refine X.ret ?_
                  exact ⟨trivial, _, _, ⟨false, (by first | exact (fls (fun h => upto_no (by omega) (by omega) ‹_› (fun hr => by first | exact tf hr.1 ‹_› | exact absurd (hr.2.1 _ ‹_›) ‹_› | (have := hr.2.2.1 _ (by omega) ‹_›; omega)) h.1)) | exact (fls (fun h => ti_no1 h ‹_› ‹_› ‹_›)) | exact (fls (fun h => ti_no2 h ‹_› ‹_› ‹_› ‹_› ‹_›)) | exact (dcd (by simp only [decide_eq_true_eq, List.length_map]; exact ⟨fun h => ⟨upto_all hA (by omega), by omega⟩, fun h => by have := h.2; omega⟩))), rfl, rfl⟩, .inl (Ret.mk' [] (by kernel_rfl) (by kernel_rfl) (by kernel_rfl))⟩
                · refine CH.alt 49 (sV (.bool (decide (((idAt l x5.f4.f1) : Int) < 0)))) (sV (.bool false)) (by kernel_rfl) (by rw [hb25]) ?_
                  refine CH.alt 50 (sV (.bool (decide (((idAt l x5.f4.f1) : Int) < 0)))) (sV (.bool false)) (by kernel_rfl) (by rw [hb25]) ?_
                  replace hb25 := of_decide_eq_false (hb25)
                  refine CH.go 2 hτ (by kernel_rfl) ?_
                  obtain ⟨x26, hx26⟩ : ∃ x, l[Int.toNat (idAt l x5.f4.f1)]? = some x := ⟨_, List.getElem?_eq_getElem (by first | omega | (simp; done) | (simp; omega))⟩
                  refine CH.idx hτ (d59 x26) (rows := (l.map d59)) (n := (idAt l x5.f4.f1)) (sz := 14) (by kernel_rfl) (by kernel_rfl) (by first | omega | (simp; done) | (simp; omega)) (by rw [List.getElem?_map, hx26]; rfl) (by kernel_rfl) ?_
                  refine CH.go 7 hτ (by kernel_rfl) ?_
                  refine CH.endk ⟨[(0, lV (l.map d59)), (6, lV (l.map d59)), (7, iV ((l.map d59).length : Int)), (8, iV v8), (60, bV (x26.f2 != x5.f4.f0))], [], 1024⟩ (by kernel_rfl) (by kernel_rfl) rfl ?_
                  refine X.if_ (b := (x26.f2 != x5.f4.f0)) (by kernel_rfl) (fun hb27 => ?_) (fun hb27 => ?_)
                  · replace hb27 := bne_iff_ne.1 (hb27)
                    refine X.seq ?_
                    refine X.rk ⟨[(2, bV false)], [], 1040⟩ hτ hmix (by kernel_rfl) (by kernel_rfl) rfl ?_
                    refine X.ret ?_
                    exact ⟨trivial, _, _, ⟨false, (by first | exact (fls (fun h => upto_no (by omega) (by omega) ‹_› (fun hr => by first | exact tf hr.1 ‹_› | exact absurd (hr.2.1 _ ‹_›) ‹_› | (have := hr.2.2.1 _ (by omega) ‹_›; omega)) h.1)) | exact (fls (fun h => ti_no1 h ‹_› ‹_› ‹_›)) | exact (fls (fun h => ti_no2 h ‹_› ‹_› ‹_› ‹_› ‹_›)) | exact (dcd (by simp only [decide_eq_true_eq, List.length_map]; exact ⟨fun h => ⟨upto_all hA (by omega), by omega⟩, fun h => by have := h.2; omega⟩))), rfl, rfl⟩, .inl (Ret.mk' [] (by kernel_rfl) (by kernel_rfl) (by kernel_rfl))⟩
                  · replace hb27 := bne_eq_false_iff_eq.1 (hb27)
                    refine X.skip ?_
                    refine X.rk ⟨[(0, lV (l.map d59)), (6, lV (l.map d59)), (7, iV ((l.map d59).length : Int)), (8, iV (wrap64 (v8 + 1)))], [], 1056⟩ hτ hmix (by kernel_rfl) (by kernel_rfl) (s2 := ⟨[(0, lV (l.map d59)), (6, lV (l.map d59)), (7, iV ((l.map d59).length : Int)), (8, iV (v8 + 1))], [], 1056⟩) (congrArg (fun z : Int => (⟨[(0, lV (l.map d59)), (6, lV (l.map d59)), (7, iV ((l.map d59).length : Int)), (8, iV z)], [], 1056⟩ : St)) (show wrap64 (v8 + 1) = (v8 + 1) by rw [w64 (n := (v8 + 1)) (by omega) (by omega)])) ?_
                    refine ⟨⟨(v8 + 1), ⟨by first | omega | (dsimp only; omega), by first | omega | (dsimp only; omega), upto_nx (by first | omega | (dsimp only; omega)) hA ‹_› (⟨‹_›, at_fn ‹_› ‹_›, (by first | exact fun y h0 hy => absurd h0 (by first | omega | (dsimp only; omega)) | exact prev_fn ‹_› (by first | omega | (dsimp only; omega))), (by first | exact .inl ‹_› | exact .inr ⟨_, idAt_at ‹_› ‹_›, ‹_›⟩)⟩)⟩⟩, by first | exact rfl | omega | (dsimp only; omega) | (simp only [List.length_append, List.length_cons, List.length_nil, List.length_set]; omega) | (simp; done) | (simp; omega), Wk.mk' [] (by kernel_rfl) (by kernel_rfl) (by kernel_rfl)⟩
          · refine CH.alt 27 (sV (.bool (decide ((v8 : Int) > 0)))) (sV (.bool false)) (by kernel_rfl) (by rw [hb13]) ?_
            refine CH.alt 28 (sV (.bool (decide ((v8 : Int) > 0)))) (sV (.bool false)) (by kernel_rfl) (by rw [hb13]) ?_
            replace hb13 := of_decide_eq_false (hb13)
            refine CH.go 11 hτ (by kernel_rfl) ?_
            refine CH.endk ⟨[(0, lV (l.map d59)), (4, .pt 192 0 0), (6, lV (l.map d59)), (7, iV ((l.map d59).length : Int)), (8, iV v8), (39, bV false)], [(192, some (.box (cD (d59 x5))))], 672⟩ (by kernel_rfl) (by kernel_rfl) rfl ?_
            refine X.ifF (by kernel_rfl) ?_
            refine X.skip ?_
            refine X.seq ?_
            refine X.seq ?_
            refine X.rs 2 hτ hmix (by kernel_rfl) ?_
            obtain ⟨r28, hr30, hf29⟩ := i_isRoot x5.f4
            replace hr30 := hr30.symm; subst hr30
            refine CH.call hf29 Try.func61 ⟨rfl, rfl⟩ [] (by kernel_rfl) (by kernel_rfl) (by kernel_rfl) (by kernel_rfl) ?_
            refine CH.endk ⟨[(0, lV (l.map d59)), (4, .pt 192 0 0), (6, lV (l.map d59)), (7, iV ((l.map d59).length : Int)), (8, iV v8), (42, bV (rootQ x5.f4))], [(192, some (.box (cD (d59 x5))))], 720⟩ (by kernel_rfl) (by kernel_rfl) rfl ?_
            refine X.if_ (b := (rootQ x5.f4)) (by kernel_rfl) (fun hb32 => ?_) (fun hb32 => ?_)
            · refine X.exit ?_
              refine X.rk ⟨[(0, lV (l.map d59)), (6, lV (l.map d59)), (7, iV ((l.map d59).length : Int)), (8, iV (wrap64 (v8 + 1)))], [], 752⟩ hτ hmix (by kernel_rfl) (by kernel_rfl) (s2 := ⟨[(0, lV (l.map d59)), (6, lV (l.map d59)), (7, iV ((l.map d59).length : Int)), (8, iV (v8 + 1))], [], 752⟩) (congrArg (fun z : Int => (⟨[(0, lV (l.map d59)), (6, lV (l.map d59)), (7, iV ((l.map d59).length : Int)), (8, iV z)], [], 752⟩ : St)) (show wrap64 (v8 + 1) = (v8 + 1) by rw [w64 (n := (v8 + 1)) (by omega) (by omega)])) ?_
              refine ⟨⟨(v8 + 1), ⟨by first | omega | (dsimp only; omega), by first | omega | (dsimp only; omega), upto_nx (by first | omega | (dsimp only; omega)) hA ‹_› (⟨‹_›, at_fn ‹_› ‹_›, (by first | exact fun y h0 hy => absurd h0 (by first | omega | (dsimp only; omega)) | exact prev_fn ‹_› (by first | omega | (dsimp only; omega))), (by first | exact .inl ‹_› | exact .inr ⟨_, idAt_at ‹_› ‹_›, ‹_›⟩)⟩)⟩⟩, by first | exact rfl | omega | (dsimp only; omega) | (simp only [List.length_append, List.length_cons, List.length_nil, List.length_set]; omega) | (simp; done) | (simp; omega), Wk.mk' [] (by kernel_rfl) (by kernel_rfl) (by kernel_rfl)⟩
            · refine X.skip ?_
              refine X.seq ?_
              refine X.rs 4 hτ hmix (by kernel_rfl) ?_
              obtain ⟨r33, hr35, hf34⟩ := i_blockAt l x5.f4.f1 (by omega)
              replace hr35 := hr35.symm; subst hr35
              have hid := idAt_bd l x5.f4.f1
              refine CH.call hf34 Try.func56 ⟨rfl, rfl⟩ [] (by kernel_rfl) (by kernel_rfl) (by kernel_rfl) (by kernel_rfl) ?_
              refine CH.go 1 hτ (by kernel_rfl) ?_
              refine CH.endk ⟨[(0, lV (l.map d59)), (4, .pt 192 0 0), (5, iV (idAt l x5.f4.f1)), (6, lV (l.map d59)), (7, iV ((l.map d59).length : Int)), (8, iV v8)], [(192, some (.box (cD (d59 x5))))], 816⟩ (by kernel_rfl) (by kernel_rfl) rfl ?_
              refine X.seq ?_
              refine X.rs 3 hτ hmix (by kernel_rfl) ?_
              rcases Bool.eq_false_or_eq_true (decide (((idAt l x5.f4.f1) : Int) < 0)) with hb37 | hb37
              · refine CH.alt 49 (sV (.bool (decide (((idAt l x5.f4.f1) : Int) < 0)))) (sV (.bool true)) (by kernel_rfl) (by rw [hb37]) ?_
                refine CH.alt 50 (sV (.bool (decide (((idAt l x5.f4.f1) : Int) < 0)))) (sV (.bool true)) (by kernel_rfl) (by rw [hb37]) ?_
                replace hb37 := of_decide_eq_true (hb37)
                refine CH.go 10 hτ (by kernel_rfl) ?_
                refine CH.endk ⟨[(0, lV (l.map d59)), (6, lV (l.map d59)), (7, iV ((l.map d59).length : Int)), (8, iV v8), (60, bV true)], [], 1024⟩ (by kernel_rfl) (by kernel_rfl) rfl ?_
                refine X.ifT (by kernel_rfl) ?_
                refine X.seq ?_
                refine X.rk ⟨[(2, bV false)], [], 1040⟩ hτ hmix (by kernel_rfl) (by kernel_rfl) rfl ?_
                refine X.ret ?_
                exact ⟨trivial, _, _, ⟨false, (by first | exact (fls (fun h => upto_no (by omega) (by omega) ‹_› (fun hr => by first | exact tf hr.1 ‹_› | exact absurd (hr.2.1 _ ‹_›) ‹_› | (have := hr.2.2.1 _ (by omega) ‹_›; omega)) h.1)) | exact (fls (fun h => ti_no1 h ‹_› ‹_› ‹_›)) | exact (fls (fun h => ti_no2 h ‹_› ‹_› ‹_› ‹_› ‹_›)) | exact (dcd (by simp only [decide_eq_true_eq, List.length_map]; exact ⟨fun h => ⟨upto_all hA (by omega), by omega⟩, fun h => by have := h.2; omega⟩))), rfl, rfl⟩, .inl (Ret.mk' [] (by kernel_rfl) (by kernel_rfl) (by kernel_rfl))⟩
              · refine CH.alt 49 (sV (.bool (decide (((idAt l x5.f4.f1) : Int) < 0)))) (sV (.bool false)) (by kernel_rfl) (by rw [hb37]) ?_
                refine CH.alt 50 (sV (.bool (decide (((idAt l x5.f4.f1) : Int) < 0)))) (sV (.bool false)) (by kernel_rfl) (by rw [hb37]) ?_
                replace hb37 := of_decide_eq_false (hb37)
                refine CH.go 2 hτ (by kernel_rfl) ?_
                obtain ⟨x38, hx38⟩ : ∃ x, l[Int.toNat (idAt l x5.f4.f1)]? = some x := ⟨_, List.getElem?_eq_getElem (by first | omega | (simp; done) | (simp; omega))⟩
                refine CH.idx hτ (d59 x38) (rows := (l.map d59)) (n := (idAt l x5.f4.f1)) (sz := 14) (by kernel_rfl) (by kernel_rfl) (by first | omega | (simp; done) | (simp; omega)) (by rw [List.getElem?_map, hx38]; rfl) (by kernel_rfl) ?_
                refine CH.go 7 hτ (by kernel_rfl) ?_
                refine CH.endk ⟨[(0, lV (l.map d59)), (6, lV (l.map d59)), (7, iV ((l.map d59).length : Int)), (8, iV v8), (60, bV (x38.f2 != x5.f4.f0))], [], 1024⟩ (by kernel_rfl) (by kernel_rfl) rfl ?_
                refine X.if_ (b := (x38.f2 != x5.f4.f0)) (by kernel_rfl) (fun hb39 => ?_) (fun hb39 => ?_)
                · replace hb39 := bne_iff_ne.1 (hb39)
                  refine X.seq ?_
                  refine X.rk ⟨[(2, bV false)], [], 1040⟩ hτ hmix (by kernel_rfl) (by kernel_rfl) rfl ?_
                  refine X.ret ?_
                  exact ⟨trivial, _, _, ⟨false, (by first | exact (fls (fun h => upto_no (by omega) (by omega) ‹_› (fun hr => by first | exact tf hr.1 ‹_› | exact absurd (hr.2.1 _ ‹_›) ‹_› | (have := hr.2.2.1 _ (by omega) ‹_›; omega)) h.1)) | exact (fls (fun h => ti_no1 h ‹_› ‹_› ‹_›)) | exact (fls (fun h => ti_no2 h ‹_› ‹_› ‹_› ‹_› ‹_›)) | exact (dcd (by simp only [decide_eq_true_eq, List.length_map]; exact ⟨fun h => ⟨upto_all hA (by omega), by omega⟩, fun h => by have := h.2; omega⟩))), rfl, rfl⟩, .inl (Ret.mk' [] (by kernel_rfl) (by kernel_rfl) (by kernel_rfl))⟩
                · replace hb39 := bne_eq_false_iff_eq.1 (hb39)
                  refine X.skip ?_
                  refine X.rk ⟨[(0, lV (l.map d59)), (6, lV (l.map d59)), (7, iV ((l.map d59).length : Int)), (8, iV (wrap64 (v8 + 1)))], [], 1056⟩ hτ hmix (by kernel_rfl) (by kernel_rfl) (s2 := ⟨[(0, lV (l.map d59)), (6, lV (l.map d59)), (7, iV ((l.map d59).length : Int)), (8, iV (v8 + 1))], [], 1056⟩) (congrArg (fun z : Int => (⟨[(0, lV (l.map d59)), (6, lV (l.map d59)), (7, iV ((l.map d59).length : Int)), (8, iV z)], [], 1056⟩ : St)) (show wrap64 (v8 + 1) = (v8 + 1) by rw [w64 (n := (v8 + 1)) (by omega) (by omega)])) ?_
                  refine ⟨⟨(v8 + 1), ⟨by first | omega | (dsimp only; omega), by first | omega | (dsimp only; omega), upto_nx (by first | omega | (dsimp only; omega)) hA ‹_› (⟨‹_›, at_fn ‹_› ‹_›, (by first | exact fun y h0 hy => absurd h0 (by first | omega | (dsimp only; omega)) | exact prev_fn ‹_› (by first | omega | (dsimp only; omega))), (by first | exact .inl ‹_› | exact .inr ⟨_, idAt_at ‹_› ‹_›, ‹_›⟩)⟩)⟩⟩, by first | exact rfl | omega | (dsimp only; omega) | (simp only [List.length_append, List.length_cons, List.length_nil, List.length_set]; omega) | (simp; done) | (simp; omega), Wk.mk' [] (by kernel_rfl) (by kernel_rfl) (by kernel_rfl)⟩
    · replace hb4 := of_decide_eq_false (hb4)
      refine X.exit ?_
      refine X.seq ?_
      refine X.rk ⟨[(2, bV (decide ((((l.map d59).length : Int) : Int) ≤ 400)))], [], 208⟩ hτ hmix (by kernel_rfl) (by kernel_rfl) rfl ?_
      refine X.ret ?_
      exact ⟨trivial, _, _, ⟨decide ((((l.map d59).length : Int) : Int) ≤ 400), (by first | exact (fls (fun h => upto_no (by omega) (by omega) ‹_› (fun hr => by first | exact tf hr.1 ‹_› | exact absurd (hr.2.1 _ ‹_›) ‹_› | (have := hr.2.2.1 _ (by omega) ‹_›; omega)) h.1)) | exact (fls (fun h => ti_no1 h ‹_› ‹_› ‹_›)) | exact (fls (fun h => ti_no2 h ‹_› ‹_› ‹_› ‹_› ‹_›)) | exact (dcd (by simp only [decide_eq_true_eq, List.length_map]; exact ⟨fun h => ⟨upto_all hA (by omega), by omega⟩, fun h => by have := h.2; omega⟩))), rfl, rfl⟩, .inl (Ret.mk' [] (by kernel_rfl) (by kernel_rfl) (by kernel_rfl))⟩
  obtain ⟨_, _, ⟨r0, q1, rfl, rfl⟩, hf⟩ := key
  exact ⟨r0, q1, hf⟩

theorem i_reverseInt (l : List Int) (hl : l.length ≤ 2000000) : ∃ q0 : List Int, (q0 = l.reverse) ∧ Fn Try.prog 132 [rV 0] (lookH [(0, some (.row 1 3 (l.map dI) false true))]) (.tup []) (lookH [(0, some (.row 1 3 (q0.map dI) false true))]) := by
  have key : ∃ x' h', ((fun x' h' => ∃ q0 : List Int, (q0 = l.reverse) ∧ x' = .tup [] ∧ h' = [(0, some (.row 1 3 (q0.map dI) false true))])) x' h' ∧ Fn Try.prog 132 [rV 0] (lookH [(0, some (.row 1 3 (l.map dI) false true))]) x' (lookH h') := by
    refine Fn.bodyX (N := 28) hτ Try.func132 rfl rfl rfl rfl ?_
    refine X.seq ?_
    have el1 : (l.map dI).length = l.length := List.length_map ..
    refine X.rk ⟨[(0, rV 0), (2, iV 0), (3, iV (wrap64 (((l.map dI).length : Int) - 1)))], [(0, some (.row 1 3 (l.map dI) false true))], 144⟩ hτ hmix (by kernel_rfl) (by kernel_rfl) (s2 := ⟨[(0, rV 0), (2, iV 0), (3, iV (((l.map dI).length : Int) - 1))], [(0, some (.row 1 3 (l.map dI) false true))], 144⟩) (congrArg (fun z : Int => (⟨[(0, rV 0), (2, iV 0), (3, iV z)], [(0, some (.row 1 3 (l.map dI) false true))], 144⟩ : St)) (show wrap64 (((l.map dI).length : Int) - 1) = (((l.map dI).length : Int) - 1) by rw [w64 (n := (((l.map dI).length : Int) - 1)) (by omega) (by omega)])) ?_
    refine X.block ?_
    -- 1: L0 : List Int, v2 : Int, v3 : Int
    refine X.loop (σ := { g : (List Int) × Int × Int // (fun (L0 : List Int) (v2 : Int) (v3 : Int) => 0 ≤ v2 ∧ v3 = (l.length : Int) - 1 - v2 ∧ rvd l v2 L0) g.1 g.2.1 g.2.2 }) (fun g => (fun (L0 : List Int) (v2 : Int) (v3 : Int) => ⟨[(0, rV 0), (2, iV v2), (3, iV v3)], [(0, some (.row 1 3 (L0.map dI) false true))], 144⟩) g.1.1 g.1.2.1 g.1.2.2) (fun g => (fun (L0 : List Int) (v2 : Int) (v3 : Int) => (l.length - v2).toNat) g.1.1 g.1.2.1 g.1.2.2) ⟨(l, 0, (((l.map dI).length : Int) - 1)), ⟨by first | omega | (dsimp only; omega), by simp only [List.length_map]; omega, rvd_zero⟩⟩ (Wk.less (by kernel_rfl)) (fun g => ?_)
    obtain ⟨⟨L0, v2, v3⟩, hg3⟩ := g
    have hg3 : 0 ≤ v2 ∧ v3 = (l.length : Int) - 1 - v2 ∧ rvd l v2 L0 := hg3
    obtain ⟨_, _, hA⟩ := hg3
    refine X.seq ?_
    refine X.seq ?_
    have hlen := hA.1
    refine X.rk ⟨[(0, rV 0), (2, iV v2), (3, iV v3), (9, bV (decide ((v2 : Int) < v3)))], [(0, some (.row 1 3 (L0.map dI) false true))], 192⟩ hτ hmix (by kernel_rfl) (by kernel_rfl) rfl ?_
    refine X.if_ (b := decide ((v2 : Int) < v3)) (by kernel_rfl) (fun hb4 => ?_) (fun hb4 => ?_)
    · replace hb4 := of_decide_eq_true (hb4)
      refine X.skip ?_
      refine X.seq ?_
      refine X.block ?_
      refine X.rs 6 hτ hmix (by kernel_rfl) ?_
      refine CH.idxR hτ (rows := (L0.map dI)) (n := v3) (b := 0) (by kernel_rfl) (by kernel_rfl) (by first | omega | (simp; done) | (simp; omega)) (by simp only [List.length_map, List.length_set]; first | omega | (simp; done) | (simp; omega)) (by kernel_rfl) ?_
      obtain ⟨x5, hx5⟩ : ∃ x, L0[Int.toNat v3]? = some x := ⟨_, List.getElem?_eq_getElem (by first | omega | (simp; done) | (simp; omega))⟩
      refine CH.row hτ (dI x5) (by kernel_rfl) (by kernel_rfl) (by rw [List.getElem?_map, hx5]; rfl) (by kernel_rfl) ?_
      refine CH.go 2 hτ (by kernel_rfl) ?_
      refine CH.idxR hτ (rows := (L0.map dI)) (n := v2) (b := 0) (by kernel_rfl) (by kernel_rfl) (by first | omega | (simp; done) | (simp; omega)) (by simp only [List.length_map, List.length_set]; first | omega | (simp; done) | (simp; omega)) (by kernel_rfl) ?_
      obtain ⟨x6, hx6⟩ : ∃ x, L0[Int.toNat v2]? = some x := ⟨_, List.getElem?_eq_getElem (by first | omega | (simp; done) | (simp; omega))⟩
      refine CH.row hτ (dI x6) (by kernel_rfl) (by kernel_rfl) (by rw [List.getElem?_map, hx6]; rfl) (by kernel_rfl) ?_
      refine CH.idxR hτ (rows := (L0.map dI)) (n := v2) (b := 0) (by kernel_rfl) (by kernel_rfl) (by first | omega | (simp; done) | (simp; omega)) (by simp only [List.length_map, List.length_set]; first | omega | (simp; done) | (simp; omega)) (by kernel_rfl) ?_
      refine CH.row hτ (dI x6) (by kernel_rfl) (by kernel_rfl) (by rw [List.getElem?_map, hx6]; rfl) (by kernel_rfl) ?_
      refine CH.idxR hτ (rows := ((L0.map dI).set (Int.toNat v2) (dI x5))) (n := v3) (b := 0) (by kernel_rfl) (by kernel_rfl) (by first | omega | (simp; done) | (simp; omega)) (by simp only [List.length_map, List.length_set]; first | omega | (simp; done) | (simp; omega)) (by kernel_rfl) ?_
      obtain ⟨x7, hx7⟩ : ∃ x, (L0.set (Int.toNat v2) x5)[Int.toNat v3]? = some x := ⟨_, List.getElem?_eq_getElem (by first | omega | (simp; done) | (simp; omega))⟩
      refine CH.row hτ (rows := ((L0.map dI).set (Int.toNat v2) (dI x5))) (n := Int.toNat v3) (dI x7) (by kernel_rfl) (by kernel_rfl) (by rw [show ((L0.map dI).set (Int.toNat v2) (dI x5)) = (L0.set (Int.toNat v2) x5).map dI from (by simp only [List.map_set]), List.getElem?_map, hx7]; rfl) (by kernel_rfl) ?_
      refine CH.endk ⟨[(0, rV 0), (2, iV v2), (3, iV v3)], [(0, some (.row 1 3 (((L0.map dI).set (Int.toNat v2) (dI x5)).set (Int.toNat v3) (dI x6)) false true))], 448⟩ (by kernel_rfl) (by kernel_rfl) (s2 := ⟨[(0, rV 0), (2, iV v2), (3, iV v3)], [(0, some (.row 1 3 (((L0.set (Int.toNat v2) x5).set (Int.toNat v3) x6).map dI) false true))], 448⟩) (congrArg (fun z : List (List D) => (⟨[(0, rV 0), (2, iV v2), (3, iV v3)], [(0, some (.row 1 3 z false true))], 448⟩ : St)) (show (((L0.map dI).set (Int.toNat v2) (dI x5)).set (Int.toNat v3) (dI x6)) = (((L0.set (Int.toNat v2) x5).set (Int.toNat v3) x6).map dI) from by simp only [List.map_set])) ?_
      refine X.rk ⟨[(0, rV 0), (2, iV (wrap64 (v2 + 1))), (3, iV (wrap64 (v3 - 1)))], [(0, some (.row 1 3 (((L0.set (Int.toNat v2) x5).set (Int.toNat v3) x6).map dI) false true))], 544⟩ hτ hmix (by kernel_rfl) (by kernel_rfl) (s2 := ⟨[(0, rV 0), (2, iV (v2 + 1)), (3, iV (v3 - 1))], [(0, some (.row 1 3 (((L0.set (Int.toNat v2) x5).set (Int.toNat v3) x6).map dI) false true))], 544⟩) ((congrArg (fun z : Int => (⟨[(0, rV 0), (2, iV z), (3, iV (wrap64 (v3 - 1)))], [(0, some (.row 1 3 (((L0.set (Int.toNat v2) x5).set (Int.toNat v3) x6).map dI) false true))], 544⟩ : St)) (show wrap64 (v2 + 1) = (v2 + 1) by rw [w64 (n := (v2 + 1)) (by omega) (by omega)])).trans (congrArg (fun z : Int => (⟨[(0, rV 0), (2, iV (v2 + 1)), (3, iV z)], [(0, some (.row 1 3 (((L0.set (Int.toNat v2) x5).set (Int.toNat v3) x6).map dI) false true))], 544⟩ : St)) (show wrap64 (v3 - 1) = (v3 - 1) by rw [w64 (n := (v3 - 1)) (by omega) (by omega)]))) ?_
      refine ⟨⟨(((L0.set (Int.toNat v2) x5).set (Int.toNat v3) x6), (v2 + 1), (v3 - 1)), ⟨by first | omega | (dsimp only; omega), by first | omega | (dsimp only; omega), rvd_next hA (by first | omega | (dsimp only; omega)) (by assumption) (by first | omega | (dsimp only; omega)) ‹_› ‹_›⟩⟩, by first | exact rfl | omega | (dsimp only; omega) | (simp only [List.length_append, List.length_cons, List.length_nil, List.length_set]; omega) | (simp; done) | (simp; omega), Wk.mk' [] (by kernel_rfl) (by kernel_rfl) (by kernel_rfl)⟩
    · replace hb4 := of_decide_eq_false (hb4)
      refine X.exit ?_
      exact ⟨trivial, _, _, ⟨L0, rvd_end hA (by omega) (by assumption) ‹_›, rfl, rfl⟩, .inl (Ret.mk' [] (by kernel_rfl) (by kernel_rfl) (by kernel_rfl))⟩
  obtain ⟨_, _, ⟨q0, q1, rfl, rfl⟩, hf⟩ := key
  exact ⟨q0, q1, hf⟩

theorem i_chainOf (l : List S59) (id : Int) (hl : l.length ≤ 2000000) (ht : treeP l) : ∃ r0 : List Int, (r0 = (chain l id).reverse) ∧ Fn Try.prog 65 [lV (l.map d59), iV id] (lookH []) (.e (.c (.f (.sl (r0.map dI))))) (lookH []) := by
  have key : ∃ x' h', ((fun x' h' => ∃ r0 : List Int, (r0 = (chain l id).reverse) ∧ x' = .e (.c (.f (.sl (r0.map dI)))) ∧ h' = [])) x' h' ∧ Fn Try.prog 65 [lV (l.map d59), iV id] (lookH []) x' (lookH h') := by
    refine Fn.bodyX (N := 31) hτ Try.func65 rfl rfl rfl rfl ?_
    refine X.seq ?_
    refine X.rk ⟨[(0, lV (l.map d59)), (1, iV id)], [], 80⟩ hτ hmix (by kernel_rfl) (by kernel_rfl) rfl ?_
    refine X.seq ?_
    refine X.rk ⟨[(0, lV (l.map d59)), (1, iV id), (5, .e (.c (.nil)))], [], 96⟩ hτ hmix (by kernel_rfl) (by kernel_rfl) rfl ?_
    refine X.seq ?_
    refine X.seq ?_
    refine X.rs 2 hτ hmix (by kernel_rfl) ?_
    obtain ⟨r1, hr3, hf2⟩ := i_blockAt l id (by omega)
    replace hr3 := hr3.symm; subst hr3
    have hid := idAt_bd l id
    refine CH.call hf2 Try.func56 ⟨rfl, rfl⟩ [] (by kernel_rfl) (by kernel_rfl) (by kernel_rfl) (by kernel_rfl) ?_
    refine CH.go 1 hτ (by kernel_rfl) ?_
    refine CH.endk ⟨[(0, lV (l.map d59)), (5, .e (.c (.nil))), (6, iV (idAt l id))], [], 160⟩ (by kernel_rfl) (by kernel_rfl) rfl ?_
    refine X.block ?_
    refine X.weak (Wk.ownT 5 1 3 (by kernel_rfl) (by kernel_rfl) (by kernel_rfl)) ?_
    -- 3: Lv5 : List Int, v6 : Int
    refine X.loop (σ := { g : (List Int) × Int // (fun (Lv5 : List Int) (v6 : Int) => -1 ≤ v6 ∧ v6 < (l.length : Int) ∧ Lv5.length + ((v6 + 1).toNat : Int) ≤ l.length ∧ Lv5 ++ chI l (v6 + 1).toNat v6 = chain l id) g.1 g.2 }) (fun g => (fun (Lv5 : List Int) (v6 : Int) => ⟨[(0, lV (l.map d59)), (5, rV 160), (6, iV v6)], [(160, some (.row 1 3 (Lv5.map dI) false true))], 176⟩) g.1.1 g.1.2) (fun g => (fun (Lv5 : List Int) (v6 : Int) => (v6 + 1).toNat) g.1.1 g.1.2) ⟨([], (idAt l id)), ⟨by first | omega | (dsimp only; omega), by first | omega | (dsimp only; omega), by simp; omega, rfl⟩⟩ (Wk.less (by kernel_rfl)) (fun g => ?_)
    obtain ⟨⟨Lv5, v6⟩, hg6⟩ := g
    have hg6 : -1 ≤ v6 ∧ v6 < (l.length : Int) ∧ Lv5.length + ((v6 + 1).toNat : Int) ≤ l.length ∧ Lv5 ++ chI l (v6 + 1).toNat v6 = chain l id := hg6
    obtain ⟨_, _, _, hC⟩ := hg6
    refine X.seq ?_
    refine X.seq ?_
    refine X.rk ⟨[(0, lV (l.map d59)), (5, rV 160), (6, iV v6), (11, bV (decide ((v6 : Int) ≥ 0)))], [(160, some (.row 1 3 (Lv5.map dI) false true))], 208⟩ hτ hmix (by kernel_rfl) (by kernel_rfl) rfl ?_
    refine X.if_ (b := decide ((v6 : Int) ≥ 0)) (by kernel_rfl) (fun hb7 => ?_) (fun hb7 => ?_)
    · replace hb7 := of_decide_eq_true (hb7)
      refine X.skip ?_
      refine X.seq ?_
      refine X.block ?_
      refine X.rs 3 hτ hmix (by kernel_rfl) ?_
      obtain ⟨x8, hx8⟩ : ∃ x, l[Int.toNat v6]? = some x := ⟨_, List.getElem?_eq_getElem (by first | omega | (simp; done) | (simp; omega))⟩
      refine CH.idx hτ (d59 x8) (rows := (l.map d59)) (n := v6) (sz := 14) (by kernel_rfl) (by kernel_rfl) (by first | omega | (simp; done) | (simp; omega)) (by rw [List.getElem?_map, hx8]; rfl) (by kernel_rfl) ?_
      refine CH.go 3 hτ (by kernel_rfl) ?_
      have el9 : (Lv5.map dI).length = Lv5.length := List.length_map ..
      have el10 : (([x8.f0] : List Int).map dI).length = ([x8.f0] : List Int).length := List.length_map ..
      have el11 : ([x8.f0] : List Int).length = 1 := rfl
      refine CH.app hτ (rows := (Lv5.map dI)) (rows2 := (([x8.f0] : List Int).map dI)) (sz := 1) (bys := 8) true (by kernel_rfl) (by kernel_rfl) (fun _ => flat_d dI (fun x => rfl)) (flat_ok (f := dI) (fun x => rfl)) (by simp only [List.length_map] <;> (first | done | omega | (simp; done) | (simp; omega))) (by kernel_rfl) ?_
      refine CH.go 1 hτ (by kernel_rfl) ?_
      refine CH.endk ⟨[(0, lV (l.map d59)), (5, rV 320), (6, iV v6)], [(320, some (.row 1 3 ((Lv5.map dI) ++ (([x8.f0] : List Int).map dI)) false true))], 352⟩ (by kernel_rfl) (by kernel_rfl) (s2 := ⟨[(0, lV (l.map d59)), (5, rV 320), (6, iV v6)], [(320, some (.row 1 3 ((Lv5 ++ ([x8.f0] : List Int)).map dI) false true))], 352⟩) (congrArg (fun z : List (List D) => (⟨[(0, lV (l.map d59)), (5, rV 320), (6, iV v6)], [(320, some (.row 1 3 z false true))], 352⟩ : St)) (show (Lv5.map dI) ++ (([x8.f0] : List Int).map dI) = ((Lv5 ++ ([x8.f0] : List Int)).map dI) from List.map_append.symm)) ?_
      refine X.rs 3 hτ hmix (by kernel_rfl) ?_
      refine CH.idx hτ (d59 x8) (rows := (l.map d59)) (n := v6) (sz := 14) (by kernel_rfl) (by kernel_rfl) (by first | omega | (simp; done) | (simp; omega)) (by rw [List.getElem?_map, hx8]; rfl) (by kernel_rfl) ?_
      refine CH.go 3 hτ (by kernel_rfl) ?_
      obtain ⟨r12, hr14, hf13⟩ := i_blockAt l x8.f4.f1 (by omega)
      replace hr14 := hr14.symm; subst hr14
      have hid := idAt_bd l x8.f4.f1
      refine CH.call hf13 Try.func56 ⟨rfl, rfl⟩ [] (by kernel_rfl) (by kernel_rfl) (by kernel_rfl) (by kernel_rfl) ?_
      refine CH.go 1 hτ (by kernel_rfl) ?_
      refine CH.endk ⟨[(0, lV (l.map d59)), (5, rV 320), (6, iV (idAt l x8.f4.f1))], [(320, some (.row 1 3 ((Lv5 ++ ([x8.f0] : List Int)).map dI) false true))], 496⟩ (by kernel_rfl) (by kernel_rfl) rfl ?_
      refine ⟨⟨((Lv5 ++ ([x8.f0] : List Int)), (idAt l x8.f4.f1)), (by have hdec := dec_at ht (by first | omega | (dsimp only; omega)) ‹_›; exact ⟨by dsimp only; omega, by dsimp only; omega, by simp only [List.length_append, List.length_cons, List.length_nil]; (first | omega | (dsimp only; omega)), ch_next ht (by first | omega | (dsimp only; omega)) ‹_› hC⟩)⟩, (by have hdec := dec_at ht (by omega) ‹_›; dsimp only; omega), Wk.mk' [(160, 320)] (by kernel_rfl) (by kernel_rfl) (by kernel_rfl)⟩
    · replace hb7 := of_decide_eq_false (hb7)
      refine X.exit ?_
      refine X.seq ?_
      refine X.rs 1 hτ hmix (by kernel_rfl) ?_
      obtain ⟨q16, hr18, hf17⟩ := i_reverseInt Lv5 (by omega)
      replace hr18 := hr18.symm; subst hr18
      refine CH.callB hf17 Try.func132 ⟨rfl, rfl⟩ 160 1 3 (Lv5.map dI) true 3 ((Lv5.reverse).map dI) (by kernel_rfl) (by kernel_rfl) (by kernel_rfl) (by kernel_rfl) (by kernel_rfl) (by simp) (by kernel_rfl) ?_
      refine CH.endk ⟨[(5, rV 160)], [(160, some (.row 1 3 ((Lv5.reverse).map dI) false true))], 240⟩ (by kernel_rfl) (by kernel_rfl) rfl ?_
      refine X.seq ?_
      refine X.rk ⟨[(4, rV 160)], [(160, some (.row 1 3 ((Lv5.reverse).map dI) false true))], 272⟩ hτ hmix (by kernel_rfl) (by kernel_rfl) rfl ?_
      refine X.ret ?_
      exact ⟨trivial, _, _, ⟨(Lv5.reverse), (by rw [ch_end ‹_› hC]), rfl, rfl⟩, .inr ⟨⟨[(4, .e (.c (.f (.sl ((Lv5.reverse).map dI)))))], [(160, some (.row 1 3 ((Lv5.reverse).map dI) true true))], 272⟩, Wk.less (by kernel_rfl), Ret.mk' [] (by kernel_rfl) (by kernel_rfl) (by kernel_rfl)⟩⟩
  obtain ⟨_, _, ⟨r0, q1, rfl, rfl⟩, hf⟩ := key
  exact ⟨r0, q1, hf⟩

theorem i_ChainOf (l : List S59) (id : Int) (hl : SmL l) : ∃ r0 : List Int, (r0 = chainOf l id) ∧ Fn Try.prog 26 [lV (l.map d59), iV id] (lookH []) (.e (.c (.f (.sl (r0.map dI))))) (lookH []) := by
  have key : ∃ x' h', ((fun x' h' => ∃ r0 : List Int, (r0 = chainOf l id) ∧ x' = .e (.c (.f (.sl (r0.map dI)))) ∧ h' = [])) x' h' ∧ Fn Try.prog 26 [lV (l.map d59), iV id] (lookH []) x' (lookH h') := by
    refine Fn.bodyX (N := 11) hτ Try.func26 rfl rfl rfl rfl ?_
    refine X.seq ?_
    refine X.rk ⟨[(0, lV (l.map d59)), (1, iV id)], [], 80⟩ hτ hmix (by kernel_rfl) (by kernel_rfl) rfl ?_
    refine X.seq ?_
    refine X.seq ?_
    refine X.rs 1 hτ hmix (by kernel_rfl) ?_
    obtain ⟨r1, hr3, hf2⟩ := i_TreeOk l (by assumption)
    replace hr3 := hr3.symm; subst hr3
    refine CH.call hf2 Try.func22 ⟨rfl, rfl⟩ [] (by kernel_rfl) (by kernel_rfl) (by kernel_rfl) (by kernel_rfl) ?_
    refine CH.go 1 hτ (by kernel_rfl) ?_
    refine CH.endk ⟨[(0, lV (l.map d59)), (1, iV id), (7, bV (!(treeOk l)))], [], 128⟩ (by kernel_rfl) (by kernel_rfl) rfl ?_
    refine X.if_ (b := !(treeOk l)) (by kernel_rfl) (fun hb5 => ?_) (fun hb5 => ?_)
    · replace hb5 := bnot_yes (hb5)
      refine X.seq ?_
      refine X.rk ⟨[(4, .e (.c (.nil)))], [], 144⟩ hτ hmix (by kernel_rfl) (by kernel_rfl) rfl ?_
      refine X.ret ?_
      exact ⟨trivial, _, _, ⟨[], (by simp [chainOf, *]), rfl, rfl⟩, .inr ⟨⟨[(4, .e (.c (.f (.sl []))))], [], 144⟩, Wk.less (by kernel_rfl), Ret.mk' [] (by kernel_rfl) (by kernel_rfl) (by kernel_rfl)⟩⟩
    · replace hb5 := bnot_no (hb5)
      refine X.skip ?_
      refine X.seq ?_
      refine X.rs 2 hτ hmix (by kernel_rfl) ?_
      obtain ⟨r6, hr8, hf7⟩ := i_chainOf l id (by first | (have := hl.1; omega) | assumption) (by exact treeOk_iff.1 ‹_›)
      replace hr8 := hr8.symm; subst hr8
      have hch := chain_len l id
      refine CH.call hf7 Try.func65 ⟨rfl, rfl⟩ [] (by kernel_rfl) (by kernel_rfl) (by kernel_rfl) (by kernel_rfl) ?_
      refine CH.go 1 hτ (by kernel_rfl) ?_
      refine CH.endk ⟨[(4, .e (.c (.f (.sl (((chain l id).reverse).map dI)))))], [], 192⟩ (by kernel_rfl) (by kernel_rfl) rfl ?_
      refine X.ret ?_
      exact ⟨trivial, _, _, ⟨(chain l id).reverse, (by simp [chainOf, *]), rfl, rfl⟩, .inl (Ret.mk' [] (by kernel_rfl) (by kernel_rfl) (by kernel_rfl))⟩
  obtain ⟨_, _, ⟨r0, q1, rfl, rfl⟩, hf⟩ := key
  exact ⟨r0, q1, hf⟩

end Go.Proofs.Ytnldeeefiidcaaa.Av
