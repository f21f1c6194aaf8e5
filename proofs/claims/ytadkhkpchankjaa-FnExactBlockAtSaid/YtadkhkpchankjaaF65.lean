/-
Functions of the program, what they come to, and that Go comes to just that: laws_heldTxS.
Conditions: those that each theorem names.
-/
import Derived.Test.YtadkhkpchankjaaFAbs
import Derived.Test.YtadkhkpchankjaaF40
set_option linter.unusedVariables false
set_option linter.unusedSimpArgs false
namespace Go.Proofs.Ytadkhkpchankjaa.F
open Go.RowKit Go.Proofs.YtadkhkpchankjaaW.PrintWords Go.Proofs.YtadkhkpchankjaaW.PrintLast Go.Proofs.Ytadkhkpchankjaa.Base Go.Proofs.Ytadkhkpchankjaa.BW

/-! ### laws_heldTxS: function 89 -/
def laws_heldTxS.l0 : Nat → List (S186) → Int → Int → Option (Int)
  | 0, _, _, _ => none
  | k + 1, x0, x1, x5 => if x5 < (x0.length : Int) then (if 0 ≤ x5 then (if ((rd_T186 x0 x5).f0) = x1 then ((laws_markText.f k (wrap64 (x1 + 1))).bind fun t1224 => (if ((rd_T186 x0 x5).f1).toList = t1224.toList then ((laws_markText.f k (wrap64 ((wrap64 (x1 + 1)) + 1))).bind fun t1226 => (if ((rd_T186 x0 x5).f2).toList = t1226.toList then (if ((rd_T186 x0 x5).f3) = (wrap64 ((wrap64 ((wrap64 (x1 + 1)) + 1)) + 1)) then (if ((rd_T186 x0 x5).f4) = (wrap64 ((wrap64 ((wrap64 ((wrap64 (x1 + 1)) + 1)) + 1)) + 1)) then (laws_heldTxS.l0 k x0 (wrap64 ((wrap64 ((wrap64 ((wrap64 ((wrap64 (x1 + 1)) + 1)) + 1)) + 1)) + 1)) (wrap64 (x5 + 1))) else (some (-1))) else (some (-1))) else (some (-1)))) else (some (-1)))) else (some (-1))) else (none)) else (some x1)
def laws_heldTxS.f (k : Nat) (l0 : List (S186)) (a1 : Int) : Option (Int) := laws_heldTxS.l0 k l0 a1 0
theorem laws_heldTxS.mono_l : ∀ k, (∀ y0 y1 y2, LeO (laws_heldTxS.l0 k y0 y1 y2) (laws_heldTxS.l0 (k + 1) y0 y1 y2))
  | 0 => fun _ _ _ r h => by simp [laws_heldTxS.l0] at h
  | k + 1 => by
    have ih0 := laws_heldTxS.mono_l k
    · intro y0 y1 y2
      unfold laws_heldTxS.l0
      repeat' first
      | (with_reducible exact ih0 _ _ _)
      | (with_reducible exact laws_markText.mono _ _)
      | (with_reducible exact LeO.refl _)
      | (with_reducible exact LeO.none _)
      | (with_reducible refine LeO.ite ?_ ?_)
      | (with_reducible refine LeO.bind ?_ (fun _ => ?_))
      | exact ih0 _ _ _
      | exact laws_markText.mono _ _
      | exact LeO.none _
      | refine LeO.ite ?_ ?_
      | refine LeO.bind ?_ (fun _ => ?_)
theorem laws_heldTxS.mono : ∀ a0 a1 k, LeO (laws_heldTxS.f k a0 a1) (laws_heldTxS.f (k + 1) a0 a1) := by
  intro a0 a1 k
  have ih0 := laws_heldTxS.mono_l k
  unfold laws_heldTxS.f
  repeat' first
      | (with_reducible exact ih0 _ _ _)
      | (with_reducible exact laws_markText.mono _ _)
      | (with_reducible exact LeO.refl _)
      | (with_reducible exact LeO.none _)
      | (with_reducible refine LeO.ite ?_ ?_)
      | (with_reducible refine LeO.bind ?_ (fun _ => ?_))
      | exact ih0 _ _ _
      | exact laws_markText.mono _ _
      | exact LeO.none _
      | refine LeO.ite ?_ ?_
      | refine LeO.bind ?_ (fun _ => ?_)
def laws_heldTxS.T7 : Bool × List (List Nat × List Nat) := (true, [([], []), ([], []), ([0, 1], [0, 1]), ([2], [2]), ([3], [3]), ([], []), ([5], [5]), ([4, 6], [4, 6])])
def laws_heldTxS.B7 : List Nat := [0, 0, 3, 7, 15, 0, 32, 127]
theorem laws_heldTxS.tab7 : rtab .any (opsOf Try.f89 7) = laws_heldTxS.T7 := by kernel_rfl
theorem laws_heldTxS.bits7 : waitsOk laws_heldTxS.T7.2 laws_heldTxS.B7 = true := by kernel_rfl
def laws_heldTxS.T10 : Bool × List (List Nat × List Nat) := (true, [([], []), ([], []), ([0, 1], [0, 1]), ([2], [2]), ([3], [3]), ([], []), ([5], [5]), ([4, 6], [4, 6])])
def laws_heldTxS.B10 : List Nat := [0, 0, 3, 7, 15, 0, 32, 127]
theorem laws_heldTxS.tab10 : rtab .any (opsOf Try.f89 10) = laws_heldTxS.T10 := by kernel_rfl
theorem laws_heldTxS.bits10 : waitsOk laws_heldTxS.T10.2 laws_heldTxS.B10 = true := by kernel_rfl
set_option maxHeartbeats 8000000 in
set_option maxRecDepth 100000 in
theorem laws_heldTxS.calls (k : Nat) (A0 : Option Addr) (c0 : Nat) (l0 : List (S186)) (a1 : Int) (r : Int) (w : World) (hr0 : Kd.C k186 w A0 l0.length l0) (hc0 : l0.length ≤ c0) (h : laws_heldTxS.f k l0 a1 = some r) :
    Calls Try.prog 89 #[.slice A0 l0.length c0, .int .i64 a1] w fun e w' => e = .returned (.int .i64 r) ∧ Below w.heap.size w w' := by
  have HR0 := Aside0.mk hr0
  have HC0 := Aside0.mk hc0
  clear hr0 hc0
  have HB := Aside0.mk (Below.refl w.heap.size w)
  have H : (laws_heldTxS.l0 k l0 a1 0) = some r := h
  clear h
  have H' := Aside0.mk H
  clear H
  go_enter Try.func89, Try.ntmps89
  go_wp2
  go_loopg [1, 5] k (fun kq v1 v5 w' => ∃ (x1_1 : Int) (x5_1 : Int), v1 = .int .i64 x1_1 ∧ v5 = .int .i64 x5_1 ∧ Aside0 (laws_heldTxS.l0 kq l0 x1_1 x5_1 = some r) ∧ Aside0 (kq ≤ k) ∧ Aside0 (Below w.heap.size w w'))
  case atStart => exact ⟨(a1), (0), (by first | rfl | (simp; done) | (simp [*]; done)), (by first | rfl | (simp; done) | (simp [*]; done)), H', ⟨Nat.le_refl _⟩, ⟨by repeat (first | (with_reducible first | exact HB.out | apply below_alloc | apply pw_below_drewN | apply below_drew1) | exact HB.out)⟩⟩
  case round =>
    clear H'
    try clear p2
    obtain ⟨x1_1, x5_1, rfl, rfl, HA, HK1, HB⟩ := hrel
    cases gk with
    | zero => exact absurd HA.out (by simp [laws_heldTxS.l0])
    | succ k1 =>
      have H := HA.out
      clear HA
      simp only [laws_heldTxS.l0] at H
      by_cases c3 : x5_1 < (l0.length : Int)
      · rw [if_pos c3] at H
        have c3b0 : decide (x5_1 < (l0.length : Int)) = true := decide_eq_true c3
        clear c3
        by_cases c4 : 0 ≤ x5_1
        · rw [if_pos c4] at H
          have c4b0 : decide (0 ≤ x5_1) = true := decide_eq_true c4
          clear c4
          by_cases c5 : ((rd_T186 l0 x5_1).f0) = x1_1
          · rw [if_pos c5] at H
            have c5b0 : (((rd_T186 l0 x5_1).f0) == x1_1) = true := beq_iff_eq.mpr c5
            have c5b1 : (((rd_T186 l0 x5_1).f0) != x1_1) = false := bne_eq_false_iff_eq.mpr c5
            clear c5
            replace H := Option.bind_eq_some_iff.mp H
            obtain ⟨t1224, A60, H⟩ := H
            replace H : (if ((rd_T186 l0 x5_1).f1).toList = t1224.toList then ((laws_markText.f k1 (wrap64 ((wrap64 (x1_1 + 1)) + 1))).bind fun t1226 => (if ((rd_T186 l0 x5_1).f2).toList = t1226.toList then (if ((rd_T186 l0 x5_1).f3) = (wrap64 ((wrap64 ((wrap64 (x1_1 + 1)) + 1)) + 1)) then (if ((rd_T186 l0 x5_1).f4) = (wrap64 ((wrap64 ((wrap64 ((wrap64 (x1_1 + 1)) + 1)) + 1)) + 1)) then (laws_heldTxS.l0 k1 l0 (wrap64 ((wrap64 ((wrap64 ((wrap64 ((wrap64 (x1_1 + 1)) + 1)) + 1)) + 1)) + 1)) (wrap64 (x5_1 + 1))) else (some (-1))) else (some (-1))) else (some (-1)))) else (some (-1))) = some r := H
            have A6 := Aside0.mk A60
            clear A60
            by_cases c7 : ((rd_T186 l0 x5_1).f1).toList = t1224.toList
            · rw [if_pos c7] at H
              have c7b0 : (((rd_T186 l0 x5_1).f1).toList == t1224.toList) = true := beq_iff_eq.mpr c7
              have c7b1 : (((rd_T186 l0 x5_1).f1).toList != t1224.toList) = false := bne_eq_false_iff_eq.mpr c7
              clear c7
              replace H := Option.bind_eq_some_iff.mp H
              obtain ⟨t1226, A80, H⟩ := H
              replace H : (if ((rd_T186 l0 x5_1).f2).toList = t1226.toList then (if ((rd_T186 l0 x5_1).f3) = (wrap64 ((wrap64 ((wrap64 (x1_1 + 1)) + 1)) + 1)) then (if ((rd_T186 l0 x5_1).f4) = (wrap64 ((wrap64 ((wrap64 ((wrap64 (x1_1 + 1)) + 1)) + 1)) + 1)) then (laws_heldTxS.l0 k1 l0 (wrap64 ((wrap64 ((wrap64 ((wrap64 ((wrap64 (x1_1 + 1)) + 1)) + 1)) + 1)) + 1)) (wrap64 (x5_1 + 1))) else (some (-1))) else (some (-1))) else (some (-1))) = some r := H
              have A8 := Aside0.mk A80
              clear A80
              by_cases c9 : ((rd_T186 l0 x5_1).f2).toList = t1226.toList
              · rw [if_pos c9] at H
                have c9b0 : (((rd_T186 l0 x5_1).f2).toList == t1226.toList) = true := beq_iff_eq.mpr c9
                have c9b1 : (((rd_T186 l0 x5_1).f2).toList != t1226.toList) = false := bne_eq_false_iff_eq.mpr c9
                clear c9
                by_cases c10 : ((rd_T186 l0 x5_1).f3) = (wrap64 ((wrap64 ((wrap64 (x1_1 + 1)) + 1)) + 1))
                · rw [if_pos c10] at H
                  have c10b0 : (((rd_T186 l0 x5_1).f3) == (wrap64 ((wrap64 ((wrap64 (x1_1 + 1)) + 1)) + 1))) = true := beq_iff_eq.mpr c10
                  have c10b1 : (((rd_T186 l0 x5_1).f3) != (wrap64 ((wrap64 ((wrap64 (x1_1 + 1)) + 1)) + 1))) = false := bne_eq_false_iff_eq.mpr c10
                  clear c10
                  by_cases c11 : ((rd_T186 l0 x5_1).f4) = (wrap64 ((wrap64 ((wrap64 ((wrap64 (x1_1 + 1)) + 1)) + 1)) + 1))
                  · rw [if_pos c11] at H
                    have c11b0 : (((rd_T186 l0 x5_1).f4) == (wrap64 ((wrap64 ((wrap64 ((wrap64 (x1_1 + 1)) + 1)) + 1)) + 1))) = true := beq_iff_eq.mpr c11
                    have c11b1 : (((rd_T186 l0 x5_1).f4) != (wrap64 ((wrap64 ((wrap64 ((wrap64 (x1_1 + 1)) + 1)) + 1)) + 1))) = false := bne_eq_false_iff_eq.mpr c11
                    clear c11
                    have H' := Aside0.mk H
                    clear H
                    have p1222 : 0 ≤ (x5_1 : Int) := of_decide_eq_true (by first | (with_reducible assumption) | assumption)
                    have q1222 : x5_1 < (l0.length : Int) := of_decide_eq_true (by first | (with_reducible assumption) | assumption)
                    obtain ⟨ad1222, e1222, hx1222_0, hx1222_1, hx1222_2, hx1222_3, hx1222_4⟩ := at_T186 HR0.out x5_1 p1222 q1222
                    cases e1222
                    replace hx1222_0 := (HB.out.cell (World.block_lt_of_cell? w _ hx1222_0)).trans hx1222_0
                    replace hx1222_1 := (HB.out.cell (World.block_lt_of_cell? w _ hx1222_1)).trans hx1222_1
                    replace hx1222_2 := (HB.out.cell (World.block_lt_of_cell? w _ hx1222_2)).trans hx1222_2
                    replace hx1222_3 := (HB.out.cell (World.block_lt_of_cell? w _ hx1222_3)).trans hx1222_3
                    replace hx1222_4 := (HB.out.cell (World.block_lt_of_cell? w _ hx1222_4)).trans hx1222_4
                    replace p1222 := eq_true p1222
                    replace q1222 := eq_true q1222
                    try go_wp2
                    have n0_ := Aside0.mk (below_drew1 HB.out)
                    clear HB
                    have HB := n0_
                    clear n0_
                    have p1223 : 0 ≤ (x5_1 : Int) := of_decide_eq_true (by first | (with_reducible assumption) | assumption)
                    have q1223 : x5_1 < (l0.length : Int) := of_decide_eq_true (by first | (with_reducible assumption) | assumption)
                    obtain ⟨ad1223, e1223, hx1223_0, hx1223_1, hx1223_2, hx1223_3, hx1223_4⟩ := at_T186 HR0.out x5_1 p1223 q1223
                    have hw1223_4 := hx1223_4
                    have hw1223_3 := hx1223_3
                    have hw1223_2 := hx1223_2
                    have hw1223_1 := hx1223_1
                    have hw1223_0 := hx1223_0
                    obtain rfl : ad1222 = ad1223 := (by injection e1223)
                    replace hx1223_0 := (HB.out.cell (World.block_lt_of_cell? w _ hx1223_0)).trans hx1223_0
                    replace hx1223_1 := (HB.out.cell (World.block_lt_of_cell? w _ hx1223_1)).trans hx1223_1
                    replace hx1223_2 := (HB.out.cell (World.block_lt_of_cell? w _ hx1223_2)).trans hx1223_2
                    replace hx1223_3 := (HB.out.cell (World.block_lt_of_cell? w _ hx1223_3)).trans hx1223_3
                    replace hx1223_4 := (HB.out.cell (World.block_lt_of_cell? w _ hx1223_4)).trans hx1223_4
                    replace p1223 := eq_true p1223
                    replace q1223 := eq_true q1223
                    refine start_ (n := 8) (S := fun w' => w'.cell? (ad1222.add ((x5_1).toNat * 5)) = some (.int .i64 ((rd_T186 l0 x5_1).f0)) ∧ w'.cell? ⟨(ad1222.add ((x5_1).toNat * 5)).block, (ad1222.add ((x5_1).toNat * 5)).off + 1, none⟩ = some (.string ((rd_T186 l0 x5_1).f1)) ∧ w'.cell? ⟨(ad1222.add ((x5_1).toNat * 5)).block, (ad1222.add ((x5_1).toNat * 5)).off + 2, none⟩ = some (.string ((rd_T186 l0 x5_1).f2)) ∧ w'.cell? ⟨(ad1222.add ((x5_1).toNat * 5)).block, (ad1222.add ((x5_1).toNat * 5)).off + 3, none⟩ = some (.int .i64 ((rd_T186 l0 x5_1).f3)) ∧ w'.cell? ⟨(ad1222.add ((x5_1).toNat * 5)).block, (ad1222.add ((x5_1).toNat * 5)).off + 4, none⟩ = some (.int .i64 ((rd_T186 l0 x5_1).f4))) (ds := []) #[false, false, false, false, false, false, false, false] (by kernel_rfl) rfl rfl ⟨((HB.out.cell (World.block_lt_of_cell? w _ hw1223_0)).trans hw1223_0), ((HB.out.cell (World.block_lt_of_cell? w _ hw1223_1)).trans hw1223_1), ((HB.out.cell (World.block_lt_of_cell? w _ hw1223_2)).trans hw1223_2), ((HB.out.cell (World.block_lt_of_cell? w _ hw1223_3)).trans hw1223_3), ((HB.out.cell (World.block_lt_of_cell? w _ hw1223_4)).trans hw1223_4)⟩ (fun hHeld => ?_); refine with_tabW laws_heldTxS.tab7 laws_heldTxS.bits7 (fun HT_ HW_ => ?_)
                    generalize wr.drew = w12 at HB hx1223_0 hx1223_1 hx1223_2 hx1223_3 hx1223_4 hHeld ⊢
                    refine pure_ (i := 0) (N := some 21) (v := ?_) (a' := ?_) #[true, false, false, false, false, false, false, false] rfl rfl (any_of HT_.out (by kernel_rfl)) (fun _ _ _ h => h) (Or.inl ⟨by rfl, ?_⟩) ?_ ?_
                    rotate_left
                    · intro w'
                      go_simp
                      with_reducible rfl
                    rotate_left
                    · simp only [Act.put, List.setIfInBounds_toArray, List.set_cons_zero, List.set_cons_succ, i64_w, i32_w]
                      rfl
                    refine pure_ (i := 1) (N := some 22) (v := ?_) (a' := ?_) #[true, true, false, false, false, false, false, false] rfl rfl (any_of HT_.out (by kernel_rfl)) (fun _ _ _ h => h) (Or.inl ⟨by rfl, ?_⟩) ?_ ?_
                    rotate_left
                    · intro w'
                      go_simp
                      with_reducible rfl
                    rotate_left
                    · simp only [Act.put, List.setIfInBounds_toArray, List.set_cons_zero, List.set_cons_succ, i64_w, i32_w]
                      rfl
                    refine pure_ (i := 2) (N := some 23) (v := ?_) (a' := ?_) #[true, true, true, false, false, false, false, false] rfl rfl (any_of HT_.out (by kernel_rfl)) (fun _ _ _ h => h) (Or.inl ⟨by rfl, ?_⟩) ?_ ?_
                    rotate_left
                    · intro w'
                      go_simp
                      with_reducible rfl
                    rotate_left
                    · simp only [Act.put, List.setIfInBounds_toArray, List.set_cons_zero, List.set_cons_succ, i64_w, i32_w]
                      rfl
                    refine pure_ (i := 3) (N := some 24) (v := ?_) (a' := ?_) #[true, true, true, true, false, false, false, false] rfl rfl (any_of HT_.out (by kernel_rfl)) (fun _ _ _ h => h) (Or.inl ⟨by rfl, ?_⟩) ?_ ?_
                    rotate_left
                    · intro w'
                      go_simp
                      with_reducible rfl
                    rotate_left
                    · simp only [Act.put, List.setIfInBounds_toArray, List.set_cons_zero, List.set_cons_succ, i64_w, i32_w]
                      rfl
                    refine pure_ (i := 5) (N := some 26) (v := ?_) (a' := ?_) #[true, true, true, true, false, true, false, false] rfl rfl (any_of HT_.out (by kernel_rfl)) (fun _ _ _ h => h) (Or.inl ⟨by rfl, ?_⟩) ?_ ?_
                    rotate_left
                    · intro w'
                      go_simp
                      with_reducible rfl
                    rotate_left
                    · simp only [Act.put, List.setIfInBounds_toArray, List.set_cons_zero, List.set_cons_succ, i64_w, i32_w]
                      rfl
                    refine take_ (i := 4) (N := some 25) (v := ?_) (a' := ?_) #[true, true, true, true, true, true, false, false] rfl rfl (take_ofW HT_.out HW_.out (by kernel_rfl)) (fun _ _ _ h => h) (Or.inl ⟨by rfl, ?_⟩) hHeld ?_ ?_
                    rotate_left
                    · rintro w' ⟨s0, s1, s2, s3, s4⟩
                      go_simp
                      with_reducible rfl
                    rotate_left
                    · simp only [Act.put, List.setIfInBounds_toArray, List.set_cons_zero, List.set_cons_succ, i64_w, i32_w]
                      rfl
                    refine one_ (i := 6) (N := some 27) #[true, true, true, true, true, true, true, false] rfl rfl (one_of HT_.out (by kernel_rfl)) (by decide) (fun K hK => ?_)
                    refine goes_ Try.func123 (by kernel_rfl) rfl #[.int .i64 (wrap64 (x1_1 + 1))] (by rfl) rfl rfl (by (try simp only [List.map_toArray, List.map_cons, List.map_nil]); first | done | rfl | (simp only [List.length_drop, List.length_take]; rfl)) ?_
                    with_reducible refine (laws_markText.calls k1 (wrap64 (x1_1 + 1)) t1224 _ A6.out).mono ?_
                    rintro e w13 ⟨rfl, hb⟩
                    refine ⟨_, rfl, ?_⟩
                    have n0_ := Aside0.mk (below_step (by repeat (first | (with_reducible first | exact HB.out | apply below_alloc | apply pw_below_drewN | apply below_drew1) | exact HB.out)) hb)
                    clear HB
                    have HB := n0_
                    clear n0_
                    (try clear hb)
                    (try clear hb2)
                    (try clear hk)
                    (try clear hi)
                    refine hK.out _ _ ⟨((HB.out.cell (World.block_lt_of_cell? w _ hw1223_0)).trans hw1223_0), ((HB.out.cell (World.block_lt_of_cell? w _ hw1223_1)).trans hw1223_1), ((HB.out.cell (World.block_lt_of_cell? w _ hw1223_2)).trans hw1223_2), ((HB.out.cell (World.block_lt_of_cell? w _ hw1223_3)).trans hw1223_3), ((HB.out.cell (World.block_lt_of_cell? w _ hw1223_4)).trans hw1223_4)⟩ (fun hHeld => ?_)
                    clear hK K
                    refine norm_ (a' := ?_) ?_ ?_
                    rotate_left
                    · show Act.put _ (some 27) _ = _
                      simp only [Act.put, List.setIfInBounds_toArray, List.set_cons_zero, List.set_cons_succ, i64_w, i32_w]
                      rfl
                    refine pure_ (i := 7) (N := some 28) (v := ?_) (a' := ?_) #[true, true, true, true, true, true, true, true] rfl rfl (any_of HT_.out (by kernel_rfl)) (fun _ _ _ h => h) (Or.inl ⟨by rfl, ?_⟩) ?_ ?_
                    rotate_left
                    · intro w'
                      go_simp
                      with_reducible rfl
                    rotate_left
                    · simp only [Act.put, List.setIfInBounds_toArray, List.set_cons_zero, List.set_cons_succ, i64_w, i32_w]
                      rfl
                    refine done_ (done_of HT_.out (by kernel_rfl)) ?_
                    try go_wp2
                    have n0_ := Aside0.mk (below_drew1 HB.out)
                    clear HB
                    have HB := n0_
                    clear n0_
                    have p1225 : 0 ≤ (x5_1 : Int) := of_decide_eq_true (by first | (with_reducible assumption) | assumption)
                    have q1225 : x5_1 < (l0.length : Int) := of_decide_eq_true (by first | (with_reducible assumption) | assumption)
                    obtain ⟨ad1225, e1225, hx1225_0, hx1225_1, hx1225_2, hx1225_3, hx1225_4⟩ := at_T186 HR0.out x5_1 p1225 q1225
                    have hw1225_4 := hx1225_4
                    have hw1225_3 := hx1225_3
                    have hw1225_2 := hx1225_2
                    have hw1225_1 := hx1225_1
                    have hw1225_0 := hx1225_0
                    obtain rfl : ad1222 = ad1225 := (by injection e1225)
                    replace hx1225_0 := (HB.out.cell (World.block_lt_of_cell? w _ hx1225_0)).trans hx1225_0
                    replace hx1225_1 := (HB.out.cell (World.block_lt_of_cell? w _ hx1225_1)).trans hx1225_1
                    replace hx1225_2 := (HB.out.cell (World.block_lt_of_cell? w _ hx1225_2)).trans hx1225_2
                    replace hx1225_3 := (HB.out.cell (World.block_lt_of_cell? w _ hx1225_3)).trans hx1225_3
                    replace hx1225_4 := (HB.out.cell (World.block_lt_of_cell? w _ hx1225_4)).trans hx1225_4
                    replace p1225 := eq_true p1225
                    replace q1225 := eq_true q1225
                    refine start_ (n := 8) (S := fun w' => w'.cell? (ad1222.add ((x5_1).toNat * 5)) = some (.int .i64 ((rd_T186 l0 x5_1).f0)) ∧ w'.cell? ⟨(ad1222.add ((x5_1).toNat * 5)).block, (ad1222.add ((x5_1).toNat * 5)).off + 1, none⟩ = some (.string ((rd_T186 l0 x5_1).f1)) ∧ w'.cell? ⟨(ad1222.add ((x5_1).toNat * 5)).block, (ad1222.add ((x5_1).toNat * 5)).off + 2, none⟩ = some (.string ((rd_T186 l0 x5_1).f2)) ∧ w'.cell? ⟨(ad1222.add ((x5_1).toNat * 5)).block, (ad1222.add ((x5_1).toNat * 5)).off + 3, none⟩ = some (.int .i64 ((rd_T186 l0 x5_1).f3)) ∧ w'.cell? ⟨(ad1222.add ((x5_1).toNat * 5)).block, (ad1222.add ((x5_1).toNat * 5)).off + 4, none⟩ = some (.int .i64 ((rd_T186 l0 x5_1).f4))) (ds := []) #[false, false, false, false, false, false, false, false] (by kernel_rfl) rfl rfl ⟨((HB.out.cell (World.block_lt_of_cell? w _ hw1225_0)).trans hw1225_0), ((HB.out.cell (World.block_lt_of_cell? w _ hw1225_1)).trans hw1225_1), ((HB.out.cell (World.block_lt_of_cell? w _ hw1225_2)).trans hw1225_2), ((HB.out.cell (World.block_lt_of_cell? w _ hw1225_3)).trans hw1225_3), ((HB.out.cell (World.block_lt_of_cell? w _ hw1225_4)).trans hw1225_4)⟩ (fun hHeld => ?_); refine with_tabW laws_heldTxS.tab10 laws_heldTxS.bits10 (fun HT_ HW_ => ?_)
                    generalize w13.drew = w14 at HB hx1225_0 hx1225_1 hx1225_2 hx1225_3 hx1225_4 hHeld ⊢
                    refine pure_ (i := 0) (N := some 31) (v := ?_) (a' := ?_) #[true, false, false, false, false, false, false, false] rfl rfl (any_of HT_.out (by kernel_rfl)) (fun _ _ _ h => h) (Or.inl ⟨by rfl, ?_⟩) ?_ ?_
                    rotate_left
                    · intro w'
                      go_simp
                      with_reducible rfl
                    rotate_left
                    · simp only [Act.put, List.setIfInBounds_toArray, List.set_cons_zero, List.set_cons_succ, i64_w, i32_w]
                      rfl
                    refine pure_ (i := 1) (N := some 32) (v := ?_) (a' := ?_) #[true, true, false, false, false, false, false, false] rfl rfl (any_of HT_.out (by kernel_rfl)) (fun _ _ _ h => h) (Or.inl ⟨by rfl, ?_⟩) ?_ ?_
                    rotate_left
                    · intro w'
                      go_simp
                      with_reducible rfl
                    rotate_left
                    · simp only [Act.put, List.setIfInBounds_toArray, List.set_cons_zero, List.set_cons_succ, i64_w, i32_w]
                      rfl
                    refine pure_ (i := 2) (N := some 33) (v := ?_) (a' := ?_) #[true, true, true, false, false, false, false, false] rfl rfl (any_of HT_.out (by kernel_rfl)) (fun _ _ _ h => h) (Or.inl ⟨by rfl, ?_⟩) ?_ ?_
                    rotate_left
                    · intro w'
                      go_simp
                      with_reducible rfl
                    rotate_left
                    · simp only [Act.put, List.setIfInBounds_toArray, List.set_cons_zero, List.set_cons_succ, i64_w, i32_w]
                      rfl
                    refine pure_ (i := 3) (N := some 34) (v := ?_) (a' := ?_) #[true, true, true, true, false, false, false, false] rfl rfl (any_of HT_.out (by kernel_rfl)) (fun _ _ _ h => h) (Or.inl ⟨by rfl, ?_⟩) ?_ ?_
                    rotate_left
                    · intro w'
                      go_simp
                      with_reducible rfl
                    rotate_left
                    · simp only [Act.put, List.setIfInBounds_toArray, List.set_cons_zero, List.set_cons_succ, i64_w, i32_w]
                      rfl
                    refine pure_ (i := 5) (N := some 36) (v := ?_) (a' := ?_) #[true, true, true, true, false, true, false, false] rfl rfl (any_of HT_.out (by kernel_rfl)) (fun _ _ _ h => h) (Or.inl ⟨by rfl, ?_⟩) ?_ ?_
                    rotate_left
                    · intro w'
                      go_simp
                      with_reducible rfl
                    rotate_left
                    · simp only [Act.put, List.setIfInBounds_toArray, List.set_cons_zero, List.set_cons_succ, i64_w, i32_w]
                      rfl
                    refine take_ (i := 4) (N := some 35) (v := ?_) (a' := ?_) #[true, true, true, true, true, true, false, false] rfl rfl (take_ofW HT_.out HW_.out (by kernel_rfl)) (fun _ _ _ h => h) (Or.inl ⟨by rfl, ?_⟩) hHeld ?_ ?_
                    rotate_left
                    · rintro w' ⟨s0, s1, s2, s3, s4⟩
                      go_simp
                      with_reducible rfl
                    rotate_left
                    · simp only [Act.put, List.setIfInBounds_toArray, List.set_cons_zero, List.set_cons_succ, i64_w, i32_w]
                      rfl
                    refine one_ (i := 6) (N := some 37) #[true, true, true, true, true, true, true, false] rfl rfl (one_of HT_.out (by kernel_rfl)) (by decide) (fun K hK => ?_)
                    refine goes_ Try.func123 (by kernel_rfl) rfl #[.int .i64 (wrap64 ((wrap64 (x1_1 + 1)) + 1))] (by rfl) rfl rfl (by (try simp only [List.map_toArray, List.map_cons, List.map_nil]); first | done | rfl | (simp only [List.length_drop, List.length_take]; rfl)) ?_
                    with_reducible refine (laws_markText.calls k1 (wrap64 ((wrap64 (x1_1 + 1)) + 1)) t1226 _ A8.out).mono ?_
                    rintro e w15 ⟨rfl, hb⟩
                    refine ⟨_, rfl, ?_⟩
                    have n0_ := Aside0.mk (below_step (by repeat (first | (with_reducible first | exact HB.out | apply below_alloc | apply pw_below_drewN | apply below_drew1) | exact HB.out)) hb)
                    clear HB
                    have HB := n0_
                    clear n0_
                    (try clear hb)
                    (try clear hb2)
                    (try clear hk)
                    (try clear hi)
                    refine hK.out _ _ ⟨((HB.out.cell (World.block_lt_of_cell? w _ hw1225_0)).trans hw1225_0), ((HB.out.cell (World.block_lt_of_cell? w _ hw1225_1)).trans hw1225_1), ((HB.out.cell (World.block_lt_of_cell? w _ hw1225_2)).trans hw1225_2), ((HB.out.cell (World.block_lt_of_cell? w _ hw1225_3)).trans hw1225_3), ((HB.out.cell (World.block_lt_of_cell? w _ hw1225_4)).trans hw1225_4)⟩ (fun hHeld => ?_)
                    clear hK K
                    refine norm_ (a' := ?_) ?_ ?_
                    rotate_left
                    · show Act.put _ (some 37) _ = _
                      simp only [Act.put, List.setIfInBounds_toArray, List.set_cons_zero, List.set_cons_succ, i64_w, i32_w]
                      rfl
                    refine pure_ (i := 7) (N := some 38) (v := ?_) (a' := ?_) #[true, true, true, true, true, true, true, true] rfl rfl (any_of HT_.out (by kernel_rfl)) (fun _ _ _ h => h) (Or.inl ⟨by rfl, ?_⟩) ?_ ?_
                    rotate_left
                    · intro w'
                      go_simp
                      with_reducible rfl
                    rotate_left
                    · simp only [Act.put, List.setIfInBounds_toArray, List.set_cons_zero, List.set_cons_succ, i64_w, i32_w]
                      rfl
                    refine done_ (done_of HT_.out (by kernel_rfl)) ?_
                    have p1227 : 0 ≤ (x5_1 : Int) := of_decide_eq_true (by first | (with_reducible assumption) | assumption)
                    have q1227 : x5_1 < (l0.length : Int) := of_decide_eq_true (by first | (with_reducible assumption) | assumption)
                    obtain ⟨ad1227, e1227, hx1227_0, hx1227_1, hx1227_2, hx1227_3, hx1227_4⟩ := at_T186 HR0.out x5_1 p1227 q1227
                    obtain rfl : ad1222 = ad1227 := (by injection e1227)
                    replace hx1227_0 := (HB.out.cell (World.block_lt_of_cell? w _ hx1227_0)).trans hx1227_0
                    replace hx1227_1 := (HB.out.cell (World.block_lt_of_cell? w _ hx1227_1)).trans hx1227_1
                    replace hx1227_2 := (HB.out.cell (World.block_lt_of_cell? w _ hx1227_2)).trans hx1227_2
                    replace hx1227_3 := (HB.out.cell (World.block_lt_of_cell? w _ hx1227_3)).trans hx1227_3
                    replace hx1227_4 := (HB.out.cell (World.block_lt_of_cell? w _ hx1227_4)).trans hx1227_4
                    replace p1227 := eq_true p1227
                    replace q1227 := eq_true q1227
                    have p1228 : 0 ≤ (x5_1 : Int) := of_decide_eq_true (by first | (with_reducible assumption) | assumption)
                    have q1228 : x5_1 < (l0.length : Int) := of_decide_eq_true (by first | (with_reducible assumption) | assumption)
                    obtain ⟨ad1228, e1228, hx1228_0, hx1228_1, hx1228_2, hx1228_3, hx1228_4⟩ := at_T186 HR0.out x5_1 p1228 q1228
                    obtain rfl : ad1222 = ad1228 := (by injection e1228)
                    replace hx1228_0 := (HB.out.cell (World.block_lt_of_cell? w _ hx1228_0)).trans hx1228_0
                    replace hx1228_1 := (HB.out.cell (World.block_lt_of_cell? w _ hx1228_1)).trans hx1228_1
                    replace hx1228_2 := (HB.out.cell (World.block_lt_of_cell? w _ hx1228_2)).trans hx1228_2
                    replace hx1228_3 := (HB.out.cell (World.block_lt_of_cell? w _ hx1228_3)).trans hx1228_3
                    replace hx1228_4 := (HB.out.cell (World.block_lt_of_cell? w _ hx1228_4)).trans hx1228_4
                    replace p1228 := eq_true p1228
                    replace q1228 := eq_true q1228
                    try go_wp2
                    go_roundg k1
                    case measure => have := HK1.out; omega
                    case rel => exact ⟨(wrap64 ((wrap64 ((wrap64 ((wrap64 ((wrap64 (x1_1 + 1)) + 1)) + 1)) + 1)) + 1)), (wrap64 (x5_1 + 1)), (by first | rfl | (simp; done) | (simp [*]; done)), (by first | rfl | (simp; done) | (simp [*]; done)), H', ⟨by have := HK1.out; omega⟩, ⟨by repeat (first | (with_reducible first | exact HB.out | apply below_alloc | apply pw_below_drewN | apply below_drew1) | exact HB.out)⟩⟩
                  · rw [if_neg c11] at H
                    have c11b0 : (((rd_T186 l0 x5_1).f4) == (wrap64 ((wrap64 ((wrap64 ((wrap64 (x1_1 + 1)) + 1)) + 1)) + 1))) = false := beq_eq_false_iff_ne.mpr c11
                    have c11b1 : (((rd_T186 l0 x5_1).f4) != (wrap64 ((wrap64 ((wrap64 ((wrap64 (x1_1 + 1)) + 1)) + 1)) + 1))) = true := bne_iff_ne.mpr c11
                    obtain rfl := Option.some.inj H
                    have p1222 : 0 ≤ (x5_1 : Int) := of_decide_eq_true (by first | (with_reducible assumption) | assumption)
                    have q1222 : x5_1 < (l0.length : Int) := of_decide_eq_true (by first | (with_reducible assumption) | assumption)
                    obtain ⟨ad1222, e1222, hx1222_0, hx1222_1, hx1222_2, hx1222_3, hx1222_4⟩ := at_T186 HR0.out x5_1 p1222 q1222
                    cases e1222
                    replace hx1222_0 := (HB.out.cell (World.block_lt_of_cell? w _ hx1222_0)).trans hx1222_0
                    replace hx1222_1 := (HB.out.cell (World.block_lt_of_cell? w _ hx1222_1)).trans hx1222_1
                    replace hx1222_2 := (HB.out.cell (World.block_lt_of_cell? w _ hx1222_2)).trans hx1222_2
                    replace hx1222_3 := (HB.out.cell (World.block_lt_of_cell? w _ hx1222_3)).trans hx1222_3
                    replace hx1222_4 := (HB.out.cell (World.block_lt_of_cell? w _ hx1222_4)).trans hx1222_4
                    replace p1222 := eq_true p1222
                    replace q1222 := eq_true q1222
                    try go_wp2
                    have n0_ := Aside0.mk (below_drew1 HB.out)
                    clear HB
                    have HB := n0_
                    clear n0_
                    have p1223 : 0 ≤ (x5_1 : Int) := of_decide_eq_true (by first | (with_reducible assumption) | assumption)
                    have q1223 : x5_1 < (l0.length : Int) := of_decide_eq_true (by first | (with_reducible assumption) | assumption)
                    obtain ⟨ad1223, e1223, hx1223_0, hx1223_1, hx1223_2, hx1223_3, hx1223_4⟩ := at_T186 HR0.out x5_1 p1223 q1223
                    have hw1223_4 := hx1223_4
                    have hw1223_3 := hx1223_3
                    have hw1223_2 := hx1223_2
                    have hw1223_1 := hx1223_1
                    have hw1223_0 := hx1223_0
                    obtain rfl : ad1222 = ad1223 := (by injection e1223)
                    replace hx1223_0 := (HB.out.cell (World.block_lt_of_cell? w _ hx1223_0)).trans hx1223_0
                    replace hx1223_1 := (HB.out.cell (World.block_lt_of_cell? w _ hx1223_1)).trans hx1223_1
                    replace hx1223_2 := (HB.out.cell (World.block_lt_of_cell? w _ hx1223_2)).trans hx1223_2
                    replace hx1223_3 := (HB.out.cell (World.block_lt_of_cell? w _ hx1223_3)).trans hx1223_3
                    replace hx1223_4 := (HB.out.cell (World.block_lt_of_cell? w _ hx1223_4)).trans hx1223_4
                    replace p1223 := eq_true p1223
                    replace q1223 := eq_true q1223
                    refine start_ (n := 8) (S := fun w' => w'.cell? (ad1222.add ((x5_1).toNat * 5)) = some (.int .i64 ((rd_T186 l0 x5_1).f0)) ∧ w'.cell? ⟨(ad1222.add ((x5_1).toNat * 5)).block, (ad1222.add ((x5_1).toNat * 5)).off + 1, none⟩ = some (.string ((rd_T186 l0 x5_1).f1)) ∧ w'.cell? ⟨(ad1222.add ((x5_1).toNat * 5)).block, (ad1222.add ((x5_1).toNat * 5)).off + 2, none⟩ = some (.string ((rd_T186 l0 x5_1).f2)) ∧ w'.cell? ⟨(ad1222.add ((x5_1).toNat * 5)).block, (ad1222.add ((x5_1).toNat * 5)).off + 3, none⟩ = some (.int .i64 ((rd_T186 l0 x5_1).f3)) ∧ w'.cell? ⟨(ad1222.add ((x5_1).toNat * 5)).block, (ad1222.add ((x5_1).toNat * 5)).off + 4, none⟩ = some (.int .i64 ((rd_T186 l0 x5_1).f4))) (ds := []) #[false, false, false, false, false, false, false, false] (by kernel_rfl) rfl rfl ⟨((HB.out.cell (World.block_lt_of_cell? w _ hw1223_0)).trans hw1223_0), ((HB.out.cell (World.block_lt_of_cell? w _ hw1223_1)).trans hw1223_1), ((HB.out.cell (World.block_lt_of_cell? w _ hw1223_2)).trans hw1223_2), ((HB.out.cell (World.block_lt_of_cell? w _ hw1223_3)).trans hw1223_3), ((HB.out.cell (World.block_lt_of_cell? w _ hw1223_4)).trans hw1223_4)⟩ (fun hHeld => ?_); refine with_tabW laws_heldTxS.tab7 laws_heldTxS.bits7 (fun HT_ HW_ => ?_)
                    generalize wr.drew = w16 at HB hx1223_0 hx1223_1 hx1223_2 hx1223_3 hx1223_4 hHeld ⊢
                    refine pure_ (i := 0) (N := some 21) (v := ?_) (a' := ?_) #[true, false, false, false, false, false, false, false] rfl rfl (any_of HT_.out (by kernel_rfl)) (fun _ _ _ h => h) (Or.inl ⟨by rfl, ?_⟩) ?_ ?_
                    rotate_left
                    · intro w'
                      go_simp
                      with_reducible rfl
                    rotate_left
                    · simp only [Act.put, List.setIfInBounds_toArray, List.set_cons_zero, List.set_cons_succ, i64_w, i32_w]
                      rfl
                    refine pure_ (i := 1) (N := some 22) (v := ?_) (a' := ?_) #[true, true, false, false, false, false, false, false] rfl rfl (any_of HT_.out (by kernel_rfl)) (fun _ _ _ h => h) (Or.inl ⟨by rfl, ?_⟩) ?_ ?_
                    rotate_left
                    · intro w'
                      go_simp
                      with_reducible rfl
                    rotate_left
                    · simp only [Act.put, List.setIfInBounds_toArray, List.set_cons_zero, List.set_cons_succ, i64_w, i32_w]
                      rfl
                    refine pure_ (i := 2) (N := some 23) (v := ?_) (a' := ?_) #[true, true, true, false, false, false, false, false] rfl rfl (any_of HT_.out (by kernel_rfl)) (fun _ _ _ h => h) (Or.inl ⟨by rfl, ?_⟩) ?_ ?_
                    rotate_left
                    · intro w'
                      go_simp
                      with_reducible rfl
                    rotate_left
                    · simp only [Act.put, List.setIfInBounds_toArray, List.set_cons_zero, List.set_cons_succ, i64_w, i32_w]
                      rfl
                    refine pure_ (i := 3) (N := some 24) (v := ?_) (a' := ?_) #[true, true, true, true, false, false, false, false] rfl rfl (any_of HT_.out (by kernel_rfl)) (fun _ _ _ h => h) (Or.inl ⟨by rfl, ?_⟩) ?_ ?_
                    rotate_left
                    · intro w'
                      go_simp
                      with_reducible rfl
                    rotate_left
                    · simp only [Act.put, List.setIfInBounds_toArray, List.set_cons_zero, List.set_cons_succ, i64_w, i32_w]
                      rfl
                    refine pure_ (i := 5) (N := some 26) (v := ?_) (a' := ?_) #[true, true, true, true, false, true, false, false] rfl rfl (any_of HT_.out (by kernel_rfl)) (fun _ _ _ h => h) (Or.inl ⟨by rfl, ?_⟩) ?_ ?_
                    rotate_left
                    · intro w'
                      go_simp
                      with_reducible rfl
                    rotate_left
                    · simp only [Act.put, List.setIfInBounds_toArray, List.set_cons_zero, List.set_cons_succ, i64_w, i32_w]
                      rfl
                    refine take_ (i := 4) (N := some 25) (v := ?_) (a' := ?_) #[true, true, true, true, true, true, false, false] rfl rfl (take_ofW HT_.out HW_.out (by kernel_rfl)) (fun _ _ _ h => h) (Or.inl ⟨by rfl, ?_⟩) hHeld ?_ ?_
                    rotate_left
                    · rintro w' ⟨s0, s1, s2, s3, s4⟩
                      go_simp
                      with_reducible rfl
                    rotate_left
                    · simp only [Act.put, List.setIfInBounds_toArray, List.set_cons_zero, List.set_cons_succ, i64_w, i32_w]
                      rfl
                    refine one_ (i := 6) (N := some 27) #[true, true, true, true, true, true, true, false] rfl rfl (one_of HT_.out (by kernel_rfl)) (by decide) (fun K hK => ?_)
                    refine goes_ Try.func123 (by kernel_rfl) rfl #[.int .i64 (wrap64 (x1_1 + 1))] (by rfl) rfl rfl (by (try simp only [List.map_toArray, List.map_cons, List.map_nil]); first | done | rfl | (simp only [List.length_drop, List.length_take]; rfl)) ?_
                    with_reducible refine (laws_markText.calls k1 (wrap64 (x1_1 + 1)) t1224 _ A6.out).mono ?_
                    rintro e w17 ⟨rfl, hb⟩
                    refine ⟨_, rfl, ?_⟩
                    have n0_ := Aside0.mk (below_step (by repeat (first | (with_reducible first | exact HB.out | apply below_alloc | apply pw_below_drewN | apply below_drew1) | exact HB.out)) hb)
                    clear HB
                    have HB := n0_
                    clear n0_
                    (try clear hb)
                    (try clear hb2)
                    (try clear hk)
                    (try clear hi)
                    refine hK.out _ _ ⟨((HB.out.cell (World.block_lt_of_cell? w _ hw1223_0)).trans hw1223_0), ((HB.out.cell (World.block_lt_of_cell? w _ hw1223_1)).trans hw1223_1), ((HB.out.cell (World.block_lt_of_cell? w _ hw1223_2)).trans hw1223_2), ((HB.out.cell (World.block_lt_of_cell? w _ hw1223_3)).trans hw1223_3), ((HB.out.cell (World.block_lt_of_cell? w _ hw1223_4)).trans hw1223_4)⟩ (fun hHeld => ?_)
                    clear hK K
                    refine norm_ (a' := ?_) ?_ ?_
                    rotate_left
                    · show Act.put _ (some 27) _ = _
                      simp only [Act.put, List.setIfInBounds_toArray, List.set_cons_zero, List.set_cons_succ, i64_w, i32_w]
                      rfl
                    refine pure_ (i := 7) (N := some 28) (v := ?_) (a' := ?_) #[true, true, true, true, true, true, true, true] rfl rfl (any_of HT_.out (by kernel_rfl)) (fun _ _ _ h => h) (Or.inl ⟨by rfl, ?_⟩) ?_ ?_
                    rotate_left
                    · intro w'
                      go_simp
                      with_reducible rfl
                    rotate_left
                    · simp only [Act.put, List.setIfInBounds_toArray, List.set_cons_zero, List.set_cons_succ, i64_w, i32_w]
                      rfl
                    refine done_ (done_of HT_.out (by kernel_rfl)) ?_
                    try go_wp2
                    have n0_ := Aside0.mk (below_drew1 HB.out)
                    clear HB
                    have HB := n0_
                    clear n0_
                    have p1225 : 0 ≤ (x5_1 : Int) := of_decide_eq_true (by first | (with_reducible assumption) | assumption)
                    have q1225 : x5_1 < (l0.length : Int) := of_decide_eq_true (by first | (with_reducible assumption) | assumption)
                    obtain ⟨ad1225, e1225, hx1225_0, hx1225_1, hx1225_2, hx1225_3, hx1225_4⟩ := at_T186 HR0.out x5_1 p1225 q1225
                    have hw1225_4 := hx1225_4
                    have hw1225_3 := hx1225_3
                    have hw1225_2 := hx1225_2
                    have hw1225_1 := hx1225_1
                    have hw1225_0 := hx1225_0
                    obtain rfl : ad1222 = ad1225 := (by injection e1225)
                    replace hx1225_0 := (HB.out.cell (World.block_lt_of_cell? w _ hx1225_0)).trans hx1225_0
                    replace hx1225_1 := (HB.out.cell (World.block_lt_of_cell? w _ hx1225_1)).trans hx1225_1
                    replace hx1225_2 := (HB.out.cell (World.block_lt_of_cell? w _ hx1225_2)).trans hx1225_2
                    replace hx1225_3 := (HB.out.cell (World.block_lt_of_cell? w _ hx1225_3)).trans hx1225_3
                    replace hx1225_4 := (HB.out.cell (World.block_lt_of_cell? w _ hx1225_4)).trans hx1225_4
                    replace p1225 := eq_true p1225
                    replace q1225 := eq_true q1225
                    refine start_ (n := 8) (S := fun w' => w'.cell? (ad1222.add ((x5_1).toNat * 5)) = some (.int .i64 ((rd_T186 l0 x5_1).f0)) ∧ w'.cell? ⟨(ad1222.add ((x5_1).toNat * 5)).block, (ad1222.add ((x5_1).toNat * 5)).off + 1, none⟩ = some (.string ((rd_T186 l0 x5_1).f1)) ∧ w'.cell? ⟨(ad1222.add ((x5_1).toNat * 5)).block, (ad1222.add ((x5_1).toNat * 5)).off + 2, none⟩ = some (.string ((rd_T186 l0 x5_1).f2)) ∧ w'.cell? ⟨(ad1222.add ((x5_1).toNat * 5)).block, (ad1222.add ((x5_1).toNat * 5)).off + 3, none⟩ = some (.int .i64 ((rd_T186 l0 x5_1).f3)) ∧ w'.cell? ⟨(ad1222.add ((x5_1).toNat * 5)).block, (ad1222.add ((x5_1).toNat * 5)).off + 4, none⟩ = some (.int .i64 ((rd_T186 l0 x5_1).f4))) (ds := []) #[false, false, false, false, false, false, false, false] (by kernel_rfl) rfl rfl ⟨((HB.out.cell (World.block_lt_of_cell? w _ hw1225_0)).trans hw1225_0), ((HB.out.cell (World.block_lt_of_cell? w _ hw1225_1)).trans hw1225_1), ((HB.out.cell (World.block_lt_of_cell? w _ hw1225_2)).trans hw1225_2), ((HB.out.cell (World.block_lt_of_cell? w _ hw1225_3)).trans hw1225_3), ((HB.out.cell (World.block_lt_of_cell? w _ hw1225_4)).trans hw1225_4)⟩ (fun hHeld => ?_); refine with_tabW laws_heldTxS.tab10 laws_heldTxS.bits10 (fun HT_ HW_ => ?_)
                    generalize w17.drew = w18 at HB hx1225_0 hx1225_1 hx1225_2 hx1225_3 hx1225_4 hHeld ⊢
                    refine pure_ (i := 0) (N := some 31) (v := ?_) (a' := ?_) #[true, false, false, false, false, false, false, false] rfl rfl (any_of HT_.out (by kernel_rfl)) (fun _ _ _ h => h) (Or.inl ⟨by rfl, ?_⟩) ?_ ?_
                    rotate_left
                    · intro w'
                      go_simp
                      with_reducible rfl
                    rotate_left
                    · simp only [Act.put, List.setIfInBounds_toArray, List.set_cons_zero, List.set_cons_succ, i64_w, i32_w]
                      rfl
                    refine pure_ (i := 1) (N := some 32) (v := ?_) (a' := ?_) #[true, true, false, false, false, false, false, false] rfl rfl (any_of HT_.out (by kernel_rfl)) (fun _ _ _ h => h) (Or.inl ⟨by rfl, ?_⟩) ?_ ?_
                    rotate_left
                    · intro w'
                      go_simp
                      with_reducible rfl
                    rotate_left
                    · simp only [Act.put, List.setIfInBounds_toArray, List.set_cons_zero, List.set_cons_succ, i64_w, i32_w]
                      rfl
                    refine pure_ (i := 2) (N := some 33) (v := ?_) (a' := ?_) #[true, true, true, false, false, false, false, false] rfl rfl (any_of HT_.out (by kernel_rfl)) (fun _ _ _ h => h) (Or.inl ⟨by rfl, ?_⟩) ?_ ?_
                    rotate_left
                    · intro w'
                      go_simp
                      with_reducible rfl
                    rotate_left
                    · simp only [Act.put, List.setIfInBounds_toArray, List.set_cons_zero, List.set_cons_succ, i64_w, i32_w]
                      rfl
                    refine pure_ (i := 3) (N := some 34) (v := ?_) (a' := ?_) #[true, true, true, true, false, false, false, false] rfl rfl (any_of HT_.out (by kernel_rfl)) (fun _ _ _ h => h) (Or.inl ⟨by rfl, ?_⟩) ?_ ?_
                    rotate_left
                    · intro w'
                      go_simp
                      with_reducible rfl
                    rotate_left
                    · simp only [Act.put, List.setIfInBounds_toArray, List.set_cons_zero, List.set_cons_succ, i64_w, i32_w]
                      rfl
                    refine pure_ (i := 5) (N := some 36) (v := ?_) (a' := ?_) #[true, true, true, true, false, true, false, false] rfl rfl (any_of HT_.out (by kernel_rfl)) (fun _ _ _ h => h) (Or.inl ⟨by rfl, ?_⟩) ?_ ?_
                    rotate_left
                    · intro w'
                      go_simp
                      with_reducible rfl
                    rotate_left
                    · simp only [Act.put, List.setIfInBounds_toArray, List.set_cons_zero, List.set_cons_succ, i64_w, i32_w]
                      rfl
                    refine take_ (i := 4) (N := some 35) (v := ?_) (a' := ?_) #[true, true, true, true, true, true, false, false] rfl rfl (take_ofW HT_.out HW_.out (by kernel_rfl)) (fun _ _ _ h => h) (Or.inl ⟨by rfl, ?_⟩) hHeld ?_ ?_
                    rotate_left
                    · rintro w' ⟨s0, s1, s2, s3, s4⟩
                      go_simp
                      with_reducible rfl
                    rotate_left
                    · simp only [Act.put, List.setIfInBounds_toArray, List.set_cons_zero, List.set_cons_succ, i64_w, i32_w]
                      rfl
                    refine one_ (i := 6) (N := some 37) #[true, true, true, true, true, true, true, false] rfl rfl (one_of HT_.out (by kernel_rfl)) (by decide) (fun K hK => ?_)
                    refine goes_ Try.func123 (by kernel_rfl) rfl #[.int .i64 (wrap64 ((wrap64 (x1_1 + 1)) + 1))] (by rfl) rfl rfl (by (try simp only [List.map_toArray, List.map_cons, List.map_nil]); first | done | rfl | (simp only [List.length_drop, List.length_take]; rfl)) ?_
                    with_reducible refine (laws_markText.calls k1 (wrap64 ((wrap64 (x1_1 + 1)) + 1)) t1226 _ A8.out).mono ?_
                    rintro e w19 ⟨rfl, hb⟩
                    refine ⟨_, rfl, ?_⟩
                    have n0_ := Aside0.mk (below_step (by repeat (first | (with_reducible first | exact HB.out | apply below_alloc | apply pw_below_drewN | apply below_drew1) | exact HB.out)) hb)
                    clear HB
                    have HB := n0_
                    clear n0_
                    (try clear hb)
                    (try clear hb2)
                    (try clear hk)
                    (try clear hi)
                    refine hK.out _ _ ⟨((HB.out.cell (World.block_lt_of_cell? w _ hw1225_0)).trans hw1225_0), ((HB.out.cell (World.block_lt_of_cell? w _ hw1225_1)).trans hw1225_1), ((HB.out.cell (World.block_lt_of_cell? w _ hw1225_2)).trans hw1225_2), ((HB.out.cell (World.block_lt_of_cell? w _ hw1225_3)).trans hw1225_3), ((HB.out.cell (World.block_lt_of_cell? w _ hw1225_4)).trans hw1225_4)⟩ (fun hHeld => ?_)
                    clear hK K
                    refine norm_ (a' := ?_) ?_ ?_
                    rotate_left
                    · show Act.put _ (some 37) _ = _
                      simp only [Act.put, List.setIfInBounds_toArray, List.set_cons_zero, List.set_cons_succ, i64_w, i32_w]
                      rfl
                    refine pure_ (i := 7) (N := some 38) (v := ?_) (a' := ?_) #[true, true, true, true, true, true, true, true] rfl rfl (any_of HT_.out (by kernel_rfl)) (fun _ _ _ h => h) (Or.inl ⟨by rfl, ?_⟩) ?_ ?_
                    rotate_left
                    · intro w'
                      go_simp
                      with_reducible rfl
                    rotate_left
                    · simp only [Act.put, List.setIfInBounds_toArray, List.set_cons_zero, List.set_cons_succ, i64_w, i32_w]
                      rfl
                    refine done_ (done_of HT_.out (by kernel_rfl)) ?_
                    have p1227 : 0 ≤ (x5_1 : Int) := of_decide_eq_true (by first | (with_reducible assumption) | assumption)
                    have q1227 : x5_1 < (l0.length : Int) := of_decide_eq_true (by first | (with_reducible assumption) | assumption)
                    obtain ⟨ad1227, e1227, hx1227_0, hx1227_1, hx1227_2, hx1227_3, hx1227_4⟩ := at_T186 HR0.out x5_1 p1227 q1227
                    obtain rfl : ad1222 = ad1227 := (by injection e1227)
                    replace hx1227_0 := (HB.out.cell (World.block_lt_of_cell? w _ hx1227_0)).trans hx1227_0
                    replace hx1227_1 := (HB.out.cell (World.block_lt_of_cell? w _ hx1227_1)).trans hx1227_1
                    replace hx1227_2 := (HB.out.cell (World.block_lt_of_cell? w _ hx1227_2)).trans hx1227_2
                    replace hx1227_3 := (HB.out.cell (World.block_lt_of_cell? w _ hx1227_3)).trans hx1227_3
                    replace hx1227_4 := (HB.out.cell (World.block_lt_of_cell? w _ hx1227_4)).trans hx1227_4
                    replace p1227 := eq_true p1227
                    replace q1227 := eq_true q1227
                    have p1228 : 0 ≤ (x5_1 : Int) := of_decide_eq_true (by first | (with_reducible assumption) | assumption)
                    have q1228 : x5_1 < (l0.length : Int) := of_decide_eq_true (by first | (with_reducible assumption) | assumption)
                    obtain ⟨ad1228, e1228, hx1228_0, hx1228_1, hx1228_2, hx1228_3, hx1228_4⟩ := at_T186 HR0.out x5_1 p1228 q1228
                    obtain rfl : ad1222 = ad1228 := (by injection e1228)
                    replace hx1228_0 := (HB.out.cell (World.block_lt_of_cell? w _ hx1228_0)).trans hx1228_0
                    replace hx1228_1 := (HB.out.cell (World.block_lt_of_cell? w _ hx1228_1)).trans hx1228_1
                    replace hx1228_2 := (HB.out.cell (World.block_lt_of_cell? w _ hx1228_2)).trans hx1228_2
                    replace hx1228_3 := (HB.out.cell (World.block_lt_of_cell? w _ hx1228_3)).trans hx1228_3
                    replace hx1228_4 := (HB.out.cell (World.block_lt_of_cell? w _ hx1228_4)).trans hx1228_4
                    replace p1228 := eq_true p1228
                    replace q1228 := eq_true q1228
                    try go_wp2
                    go_ret
                    exact ⟨by first | rfl | (simp [errW_none, errW_some] <;> rfl) | (simp [*, errW_none, errW_some] <;> rfl), by repeat (first | (with_reducible first | exact HB.out | apply below_alloc | apply pw_below_drewN | apply below_drew1) | exact HB.out)⟩
                · rw [if_neg c10] at H
                  have c10b0 : (((rd_T186 l0 x5_1).f3) == (wrap64 ((wrap64 ((wrap64 (x1_1 + 1)) + 1)) + 1))) = false := beq_eq_false_iff_ne.mpr c10
                  have c10b1 : (((rd_T186 l0 x5_1).f3) != (wrap64 ((wrap64 ((wrap64 (x1_1 + 1)) + 1)) + 1))) = true := bne_iff_ne.mpr c10
                  obtain rfl := Option.some.inj H
                  have p1222 : 0 ≤ (x5_1 : Int) := of_decide_eq_true (by first | (with_reducible assumption) | assumption)
                  have q1222 : x5_1 < (l0.length : Int) := of_decide_eq_true (by first | (with_reducible assumption) | assumption)
                  obtain ⟨ad1222, e1222, hx1222_0, hx1222_1, hx1222_2, hx1222_3, hx1222_4⟩ := at_T186 HR0.out x5_1 p1222 q1222
                  cases e1222
                  replace hx1222_0 := (HB.out.cell (World.block_lt_of_cell? w _ hx1222_0)).trans hx1222_0
                  replace hx1222_1 := (HB.out.cell (World.block_lt_of_cell? w _ hx1222_1)).trans hx1222_1
                  replace hx1222_2 := (HB.out.cell (World.block_lt_of_cell? w _ hx1222_2)).trans hx1222_2
                  replace hx1222_3 := (HB.out.cell (World.block_lt_of_cell? w _ hx1222_3)).trans hx1222_3
                  replace hx1222_4 := (HB.out.cell (World.block_lt_of_cell? w _ hx1222_4)).trans hx1222_4
                  replace p1222 := eq_true p1222
                  replace q1222 := eq_true q1222
                  try go_wp2
                  have n0_ := Aside0.mk (below_drew1 HB.out)
                  clear HB
                  have HB := n0_
                  clear n0_
                  have p1223 : 0 ≤ (x5_1 : Int) := of_decide_eq_true (by first | (with_reducible assumption) | assumption)
                  have q1223 : x5_1 < (l0.length : Int) := of_decide_eq_true (by first | (with_reducible assumption) | assumption)
                  obtain ⟨ad1223, e1223, hx1223_0, hx1223_1, hx1223_2, hx1223_3, hx1223_4⟩ := at_T186 HR0.out x5_1 p1223 q1223
                  have hw1223_4 := hx1223_4
                  have hw1223_3 := hx1223_3
                  have hw1223_2 := hx1223_2
                  have hw1223_1 := hx1223_1
                  have hw1223_0 := hx1223_0
                  obtain rfl : ad1222 = ad1223 := (by injection e1223)
                  replace hx1223_0 := (HB.out.cell (World.block_lt_of_cell? w _ hx1223_0)).trans hx1223_0
                  replace hx1223_1 := (HB.out.cell (World.block_lt_of_cell? w _ hx1223_1)).trans hx1223_1
                  replace hx1223_2 := (HB.out.cell (World.block_lt_of_cell? w _ hx1223_2)).trans hx1223_2
                  replace hx1223_3 := (HB.out.cell (World.block_lt_of_cell? w _ hx1223_3)).trans hx1223_3
                  replace hx1223_4 := (HB.out.cell (World.block_lt_of_cell? w _ hx1223_4)).trans hx1223_4
                  replace p1223 := eq_true p1223
                  replace q1223 := eq_true q1223
                  refine start_ (n := 8) (S := fun w' => w'.cell? (ad1222.add ((x5_1).toNat * 5)) = some (.int .i64 ((rd_T186 l0 x5_1).f0)) ∧ w'.cell? ⟨(ad1222.add ((x5_1).toNat * 5)).block, (ad1222.add ((x5_1).toNat * 5)).off + 1, none⟩ = some (.string ((rd_T186 l0 x5_1).f1)) ∧ w'.cell? ⟨(ad1222.add ((x5_1).toNat * 5)).block, (ad1222.add ((x5_1).toNat * 5)).off + 2, none⟩ = some (.string ((rd_T186 l0 x5_1).f2)) ∧ w'.cell? ⟨(ad1222.add ((x5_1).toNat * 5)).block, (ad1222.add ((x5_1).toNat * 5)).off + 3, none⟩ = some (.int .i64 ((rd_T186 l0 x5_1).f3)) ∧ w'.cell? ⟨(ad1222.add ((x5_1).toNat * 5)).block, (ad1222.add ((x5_1).toNat * 5)).off + 4, none⟩ = some (.int .i64 ((rd_T186 l0 x5_1).f4))) (ds := []) #[false, false, false, false, false, false, false, false] (by kernel_rfl) rfl rfl ⟨((HB.out.cell (World.block_lt_of_cell? w _ hw1223_0)).trans hw1223_0), ((HB.out.cell (World.block_lt_of_cell? w _ hw1223_1)).trans hw1223_1), ((HB.out.cell (World.block_lt_of_cell? w _ hw1223_2)).trans hw1223_2), ((HB.out.cell (World.block_lt_of_cell? w _ hw1223_3)).trans hw1223_3), ((HB.out.cell (World.block_lt_of_cell? w _ hw1223_4)).trans hw1223_4)⟩ (fun hHeld => ?_); refine with_tabW laws_heldTxS.tab7 laws_heldTxS.bits7 (fun HT_ HW_ => ?_)
                  generalize wr.drew = w20 at HB hx1223_0 hx1223_1 hx1223_2 hx1223_3 hx1223_4 hHeld ⊢
                  refine pure_ (i := 0) (N := some 21) (v := ?_) (a' := ?_) #[true, false, false, false, false, false, false, false] rfl rfl (any_of HT_.out (by kernel_rfl)) (fun _ _ _ h => h) (Or.inl ⟨by rfl, ?_⟩) ?_ ?_
                  rotate_left
                  · intro w'
                    go_simp
                    with_reducible rfl
                  rotate_left
                  · simp only [Act.put, List.setIfInBounds_toArray, List.set_cons_zero, List.set_cons_succ, i64_w, i32_w]
                    rfl
                  refine pure_ (i := 1) (N := some 22) (v := ?_) (a' := ?_) #[true, true, false, false, false, false, false, false] rfl rfl (any_of HT_.out (by kernel_rfl)) (fun _ _ _ h => h) (Or.inl ⟨by rfl, ?_⟩) ?_ ?_
                  rotate_left
                  · intro w'
                    go_simp
                    with_reducible rfl
                  rotate_left
                  · simp only [Act.put, List.setIfInBounds_toArray, List.set_cons_zero, List.set_cons_succ, i64_w, i32_w]
                    rfl
                  refine pure_ (i := 2) (N := some 23) (v := ?_) (a' := ?_) #[true, true, true, false, false, false, false, false] rfl rfl (any_of HT_.out (by kernel_rfl)) (fun _ _ _ h => h) (Or.inl ⟨by rfl, ?_⟩) ?_ ?_
                  rotate_left
                  · intro w'
                    go_simp
                    with_reducible rfl
                  rotate_left
                  · simp only [Act.put, List.setIfInBounds_toArray, List.set_cons_zero, List.set_cons_succ, i64_w, i32_w]
                    rfl
                  refine pure_ (i := 3) (N := some 24) (v := ?_) (a' := ?_) #[true, true, true, true, false, false, false, false] rfl rfl (any_of HT_.out (by kernel_rfl)) (fun _ _ _ h => h) (Or.inl ⟨by rfl, ?_⟩) ?_ ?_
                  rotate_left
                  · intro w'
                    go_simp
                    with_reducible rfl
                  rotate_left
                  · simp only [Act.put, List.setIfInBounds_toArray, List.set_cons_zero, List.set_cons_succ, i64_w, i32_w]
                    rfl
                  refine pure_ (i := 5) (N := some 26) (v := ?_) (a' := ?_) #[true, true, true, true, false, true, false, false] rfl rfl (any_of HT_.out (by kernel_rfl)) (fun _ _ _ h => h) (Or.inl ⟨by rfl, ?_⟩) ?_ ?_
                  rotate_left
                  · intro w'
                    go_simp
                    with_reducible rfl
                  rotate_left
                  · simp only [Act.put, List.setIfInBounds_toArray, List.set_cons_zero, List.set_cons_succ, i64_w, i32_w]
                    rfl
                  refine take_ (i := 4) (N := some 25) (v := ?_) (a' := ?_) #[true, true, true, true, true, true, false, false] rfl rfl (take_ofW HT_.out HW_.out (by kernel_rfl)) (fun _ _ _ h => h) (Or.inl ⟨by rfl, ?_⟩) hHeld ?_ ?_
                  rotate_left
                  · rintro w' ⟨s0, s1, s2, s3, s4⟩
                    go_simp
                    with_reducible rfl
                  rotate_left
                  · simp only [Act.put, List.setIfInBounds_toArray, List.set_cons_zero, List.set_cons_succ, i64_w, i32_w]
                    rfl
                  refine one_ (i := 6) (N := some 27) #[true, true, true, true, true, true, true, false] rfl rfl (one_of HT_.out (by kernel_rfl)) (by decide) (fun K hK => ?_)
                  refine goes_ Try.func123 (by kernel_rfl) rfl #[.int .i64 (wrap64 (x1_1 + 1))] (by rfl) rfl rfl (by (try simp only [List.map_toArray, List.map_cons, List.map_nil]); first | done | rfl | (simp only [List.length_drop, List.length_take]; rfl)) ?_
                  with_reducible refine (laws_markText.calls k1 (wrap64 (x1_1 + 1)) t1224 _ A6.out).mono ?_
                  rintro e w21 ⟨rfl, hb⟩
                  refine ⟨_, rfl, ?_⟩
                  have n0_ := Aside0.mk (below_step (by repeat (first | (with_reducible first | exact HB.out | apply below_alloc | apply pw_below_drewN | apply below_drew1) | exact HB.out)) hb)
                  clear HB
                  have HB := n0_
                  clear n0_
                  (try clear hb)
                  (try clear hb2)
                  (try clear hk)
                  (try clear hi)
                  refine hK.out _ _ ⟨((HB.out.cell (World.block_lt_of_cell? w _ hw1223_0)).trans hw1223_0), ((HB.out.cell (World.block_lt_of_cell? w _ hw1223_1)).trans hw1223_1), ((HB.out.cell (World.block_lt_of_cell? w _ hw1223_2)).trans hw1223_2), ((HB.out.cell (World.block_lt_of_cell? w _ hw1223_3)).trans hw1223_3), ((HB.out.cell (World.block_lt_of_cell? w _ hw1223_4)).trans hw1223_4)⟩ (fun hHeld => ?_)
                  clear hK K
                  refine norm_ (a' := ?_) ?_ ?_
                  rotate_left
                  · show Act.put _ (some 27) _ = _
                    simp only [Act.put, List.setIfInBounds_toArray, List.set_cons_zero, List.set_cons_succ, i64_w, i32_w]
                    rfl
                  refine pure_ (i := 7) (N := some 28) (v := ?_) (a' := ?_) #[true, true, true, true, true, true, true, true] rfl rfl (any_of HT_.out (by kernel_rfl)) (fun _ _ _ h => h) (Or.inl ⟨by rfl, ?_⟩) ?_ ?_
                  rotate_left
                  · intro w'
                    go_simp
                    with_reducible rfl
                  rotate_left
                  · simp only [Act.put, List.setIfInBounds_toArray, List.set_cons_zero, List.set_cons_succ, i64_w, i32_w]
                    rfl
                  refine done_ (done_of HT_.out (by kernel_rfl)) ?_
                  try go_wp2
                  have n0_ := Aside0.mk (below_drew1 HB.out)
                  clear HB
                  have HB := n0_
                  clear n0_
                  have p1225 : 0 ≤ (x5_1 : Int) := of_decide_eq_true (by first | (with_reducible assumption) | assumption)
                  have q1225 : x5_1 < (l0.length : Int) := of_decide_eq_true (by first | (with_reducible assumption) | assumption)
                  obtain ⟨ad1225, e1225, hx1225_0, hx1225_1, hx1225_2, hx1225_3, hx1225_4⟩ := at_T186 HR0.out x5_1 p1225 q1225
                  have hw1225_4 := hx1225_4
                  have hw1225_3 := hx1225_3
                  have hw1225_2 := hx1225_2
                  have hw1225_1 := hx1225_1
                  have hw1225_0 := hx1225_0
                  obtain rfl : ad1222 = ad1225 := (by injection e1225)
                  replace hx1225_0 := (HB.out.cell (World.block_lt_of_cell? w _ hx1225_0)).trans hx1225_0
                  replace hx1225_1 := (HB.out.cell (World.block_lt_of_cell? w _ hx1225_1)).trans hx1225_1
                  replace hx1225_2 := (HB.out.cell (World.block_lt_of_cell? w _ hx1225_2)).trans hx1225_2
                  replace hx1225_3 := (HB.out.cell (World.block_lt_of_cell? w _ hx1225_3)).trans hx1225_3
                  replace hx1225_4 := (HB.out.cell (World.block_lt_of_cell? w _ hx1225_4)).trans hx1225_4
                  replace p1225 := eq_true p1225
                  replace q1225 := eq_true q1225
                  refine start_ (n := 8) (S := fun w' => w'.cell? (ad1222.add ((x5_1).toNat * 5)) = some (.int .i64 ((rd_T186 l0 x5_1).f0)) ∧ w'.cell? ⟨(ad1222.add ((x5_1).toNat * 5)).block, (ad1222.add ((x5_1).toNat * 5)).off + 1, none⟩ = some (.string ((rd_T186 l0 x5_1).f1)) ∧ w'.cell? ⟨(ad1222.add ((x5_1).toNat * 5)).block, (ad1222.add ((x5_1).toNat * 5)).off + 2, none⟩ = some (.string ((rd_T186 l0 x5_1).f2)) ∧ w'.cell? ⟨(ad1222.add ((x5_1).toNat * 5)).block, (ad1222.add ((x5_1).toNat * 5)).off + 3, none⟩ = some (.int .i64 ((rd_T186 l0 x5_1).f3)) ∧ w'.cell? ⟨(ad1222.add ((x5_1).toNat * 5)).block, (ad1222.add ((x5_1).toNat * 5)).off + 4, none⟩ = some (.int .i64 ((rd_T186 l0 x5_1).f4))) (ds := []) #[false, false, false, false, false, false, false, false] (by kernel_rfl) rfl rfl ⟨((HB.out.cell (World.block_lt_of_cell? w _ hw1225_0)).trans hw1225_0), ((HB.out.cell (World.block_lt_of_cell? w _ hw1225_1)).trans hw1225_1), ((HB.out.cell (World.block_lt_of_cell? w _ hw1225_2)).trans hw1225_2), ((HB.out.cell (World.block_lt_of_cell? w _ hw1225_3)).trans hw1225_3), ((HB.out.cell (World.block_lt_of_cell? w _ hw1225_4)).trans hw1225_4)⟩ (fun hHeld => ?_); refine with_tabW laws_heldTxS.tab10 laws_heldTxS.bits10 (fun HT_ HW_ => ?_)
                  generalize w21.drew = w22 at HB hx1225_0 hx1225_1 hx1225_2 hx1225_3 hx1225_4 hHeld ⊢
                  refine pure_ (i := 0) (N := some 31) (v := ?_) (a' := ?_) #[true, false, false, false, false, false, false, false] rfl rfl (any_of HT_.out (by kernel_rfl)) (fun _ _ _ h => h) (Or.inl ⟨by rfl, ?_⟩) ?_ ?_
                  rotate_left
                  · intro w'
                    go_simp
                    with_reducible rfl
                  rotate_left
                  · simp only [Act.put, List.setIfInBounds_toArray, List.set_cons_zero, List.set_cons_succ, i64_w, i32_w]
                    rfl
                  refine pure_ (i := 1) (N := some 32) (v := ?_) (a' := ?_) #[true, true, false, false, false, false, false, false] rfl rfl (any_of HT_.out (by kernel_rfl)) (fun _ _ _ h => h) (Or.inl ⟨by rfl, ?_⟩) ?_ ?_
                  rotate_left
                  · intro w'
                    go_simp
                    with_reducible rfl
                  rotate_left
                  · simp only [Act.put, List.setIfInBounds_toArray, List.set_cons_zero, List.set_cons_succ, i64_w, i32_w]
                    rfl
                  refine pure_ (i := 2) (N := some 33) (v := ?_) (a' := ?_) #[true, true, true, false, false, false, false, false] rfl rfl (any_of HT_.out (by kernel_rfl)) (fun _ _ _ h => h) (Or.inl ⟨by rfl, ?_⟩) ?_ ?_
                  rotate_left
                  · intro w'
                    go_simp
                    with_reducible rfl
                  rotate_left
                  · simp only [Act.put, List.setIfInBounds_toArray, List.set_cons_zero, List.set_cons_succ, i64_w, i32_w]
                    rfl
                  refine pure_ (i := 3) (N := some 34) (v := ?_) (a' := ?_) #[true, true, true, true, false, false, false, false] rfl rfl (any_of HT_.out (by kernel_rfl)) (fun _ _ _ h => h) (Or.inl ⟨by rfl, ?_⟩) ?_ ?_
                  rotate_left
                  · intro w'
                    go_simp
                    with_reducible rfl
                  rotate_left
                  · simp only [Act.put, List.setIfInBounds_toArray, List.set_cons_zero, List.set_cons_succ, i64_w, i32_w]
                    rfl
                  refine pure_ (i := 5) (N := some 36) (v := ?_) (a' := ?_) #[true, true, true, true, false, true, false, false] rfl rfl (any_of HT_.out (by kernel_rfl)) (fun _ _ _ h => h) (Or.inl ⟨by rfl, ?_⟩) ?_ ?_
                  rotate_left
                  · intro w'
                    go_simp
                    with_reducible rfl
                  rotate_left
                  · simp only [Act.put, List.setIfInBounds_toArray, List.set_cons_zero, List.set_cons_succ, i64_w, i32_w]
                    rfl
                  refine take_ (i := 4) (N := some 35) (v := ?_) (a' := ?_) #[true, true, true, true, true, true, false, false] rfl rfl (take_ofW HT_.out HW_.out (by kernel_rfl)) (fun _ _ _ h => h) (Or.inl ⟨by rfl, ?_⟩) hHeld ?_ ?_
                  rotate_left
                  · rintro w' ⟨s0, s1, s2, s3, s4⟩
                    go_simp
                    with_reducible rfl
                  rotate_left
                  · simp only [Act.put, List.setIfInBounds_toArray, List.set_cons_zero, List.set_cons_succ, i64_w, i32_w]
                    rfl
                  refine one_ (i := 6) (N := some 37) #[true, true, true, true, true, true, true, false] rfl rfl (one_of HT_.out (by kernel_rfl)) (by decide) (fun K hK => ?_)
                  refine goes_ Try.func123 (by kernel_rfl) rfl #[.int .i64 (wrap64 ((wrap64 (x1_1 + 1)) + 1))] (by rfl) rfl rfl (by (try simp only [List.map_toArray, List.map_cons, List.map_nil]); first | done | rfl | (simp only [List.length_drop, List.length_take]; rfl)) ?_
                  with_reducible refine (laws_markText.calls k1 (wrap64 ((wrap64 (x1_1 + 1)) + 1)) t1226 _ A8.out).mono ?_
                  rintro e w23 ⟨rfl, hb⟩
                  refine ⟨_, rfl, ?_⟩
                  have n0_ := Aside0.mk (below_step (by repeat (first | (with_reducible first | exact HB.out | apply below_alloc | apply pw_below_drewN | apply below_drew1) | exact HB.out)) hb)
                  clear HB
                  have HB := n0_
                  clear n0_
                  (try clear hb)
                  (try clear hb2)
                  (try clear hk)
                  (try clear hi)
                  refine hK.out _ _ ⟨((HB.out.cell (World.block_lt_of_cell? w _ hw1225_0)).trans hw1225_0), ((HB.out.cell (World.block_lt_of_cell? w _ hw1225_1)).trans hw1225_1), ((HB.out.cell (World.block_lt_of_cell? w _ hw1225_2)).trans hw1225_2), ((HB.out.cell (World.block_lt_of_cell? w _ hw1225_3)).trans hw1225_3), ((HB.out.cell (World.block_lt_of_cell? w _ hw1225_4)).trans hw1225_4)⟩ (fun hHeld => ?_)
                  clear hK K
                  refine norm_ (a' := ?_) ?_ ?_
                  rotate_left
                  · show Act.put _ (some 37) _ = _
                    simp only [Act.put, List.setIfInBounds_toArray, List.set_cons_zero, List.set_cons_succ, i64_w, i32_w]
                    rfl
                  refine pure_ (i := 7) (N := some 38) (v := ?_) (a' := ?_) #[true, true, true, true, true, true, true, true] rfl rfl (any_of HT_.out (by kernel_rfl)) (fun _ _ _ h => h) (Or.inl ⟨by rfl, ?_⟩) ?_ ?_
                  rotate_left
                  · intro w'
                    go_simp
                    with_reducible rfl
                  rotate_left
                  · simp only [Act.put, List.setIfInBounds_toArray, List.set_cons_zero, List.set_cons_succ, i64_w, i32_w]
                    rfl
                  refine done_ (done_of HT_.out (by kernel_rfl)) ?_
                  have p1227 : 0 ≤ (x5_1 : Int) := of_decide_eq_true (by first | (with_reducible assumption) | assumption)
                  have q1227 : x5_1 < (l0.length : Int) := of_decide_eq_true (by first | (with_reducible assumption) | assumption)
                  obtain ⟨ad1227, e1227, hx1227_0, hx1227_1, hx1227_2, hx1227_3, hx1227_4⟩ := at_T186 HR0.out x5_1 p1227 q1227
                  obtain rfl : ad1222 = ad1227 := (by injection e1227)
                  replace hx1227_0 := (HB.out.cell (World.block_lt_of_cell? w _ hx1227_0)).trans hx1227_0
                  replace hx1227_1 := (HB.out.cell (World.block_lt_of_cell? w _ hx1227_1)).trans hx1227_1
                  replace hx1227_2 := (HB.out.cell (World.block_lt_of_cell? w _ hx1227_2)).trans hx1227_2
                  replace hx1227_3 := (HB.out.cell (World.block_lt_of_cell? w _ hx1227_3)).trans hx1227_3
                  replace hx1227_4 := (HB.out.cell (World.block_lt_of_cell? w _ hx1227_4)).trans hx1227_4
                  replace p1227 := eq_true p1227
                  replace q1227 := eq_true q1227
                  try go_wp2
                  go_ret
                  exact ⟨by first | rfl | (simp [errW_none, errW_some] <;> rfl) | (simp [*, errW_none, errW_some] <;> rfl), by repeat (first | (with_reducible first | exact HB.out | apply below_alloc | apply pw_below_drewN | apply below_drew1) | exact HB.out)⟩
              · rw [if_neg c9] at H
                have c9b0 : (((rd_T186 l0 x5_1).f2).toList == t1226.toList) = false := beq_eq_false_iff_ne.mpr c9
                have c9b1 : (((rd_T186 l0 x5_1).f2).toList != t1226.toList) = true := bne_iff_ne.mpr c9
                obtain rfl := Option.some.inj H
                have p1222 : 0 ≤ (x5_1 : Int) := of_decide_eq_true (by first | (with_reducible assumption) | assumption)
                have q1222 : x5_1 < (l0.length : Int) := of_decide_eq_true (by first | (with_reducible assumption) | assumption)
                obtain ⟨ad1222, e1222, hx1222_0, hx1222_1, hx1222_2, hx1222_3, hx1222_4⟩ := at_T186 HR0.out x5_1 p1222 q1222
                cases e1222
                replace hx1222_0 := (HB.out.cell (World.block_lt_of_cell? w _ hx1222_0)).trans hx1222_0
                replace hx1222_1 := (HB.out.cell (World.block_lt_of_cell? w _ hx1222_1)).trans hx1222_1
                replace hx1222_2 := (HB.out.cell (World.block_lt_of_cell? w _ hx1222_2)).trans hx1222_2
                replace hx1222_3 := (HB.out.cell (World.block_lt_of_cell? w _ hx1222_3)).trans hx1222_3
                replace hx1222_4 := (HB.out.cell (World.block_lt_of_cell? w _ hx1222_4)).trans hx1222_4
                replace p1222 := eq_true p1222
                replace q1222 := eq_true q1222
                try go_wp2
                have n0_ := Aside0.mk (below_drew1 HB.out)
                clear HB
                have HB := n0_
                clear n0_
                have p1223 : 0 ≤ (x5_1 : Int) := of_decide_eq_true (by first | (with_reducible assumption) | assumption)
                have q1223 : x5_1 < (l0.length : Int) := of_decide_eq_true (by first | (with_reducible assumption) | assumption)
                obtain ⟨ad1223, e1223, hx1223_0, hx1223_1, hx1223_2, hx1223_3, hx1223_4⟩ := at_T186 HR0.out x5_1 p1223 q1223
                have hw1223_4 := hx1223_4
                have hw1223_3 := hx1223_3
                have hw1223_2 := hx1223_2
                have hw1223_1 := hx1223_1
                have hw1223_0 := hx1223_0
                obtain rfl : ad1222 = ad1223 := (by injection e1223)
                replace hx1223_0 := (HB.out.cell (World.block_lt_of_cell? w _ hx1223_0)).trans hx1223_0
                replace hx1223_1 := (HB.out.cell (World.block_lt_of_cell? w _ hx1223_1)).trans hx1223_1
                replace hx1223_2 := (HB.out.cell (World.block_lt_of_cell? w _ hx1223_2)).trans hx1223_2
                replace hx1223_3 := (HB.out.cell (World.block_lt_of_cell? w _ hx1223_3)).trans hx1223_3
                replace hx1223_4 := (HB.out.cell (World.block_lt_of_cell? w _ hx1223_4)).trans hx1223_4
                replace p1223 := eq_true p1223
                replace q1223 := eq_true q1223
                refine start_ (n := 8) (S := fun w' => w'.cell? (ad1222.add ((x5_1).toNat * 5)) = some (.int .i64 ((rd_T186 l0 x5_1).f0)) ∧ w'.cell? ⟨(ad1222.add ((x5_1).toNat * 5)).block, (ad1222.add ((x5_1).toNat * 5)).off + 1, none⟩ = some (.string ((rd_T186 l0 x5_1).f1)) ∧ w'.cell? ⟨(ad1222.add ((x5_1).toNat * 5)).block, (ad1222.add ((x5_1).toNat * 5)).off + 2, none⟩ = some (.string ((rd_T186 l0 x5_1).f2)) ∧ w'.cell? ⟨(ad1222.add ((x5_1).toNat * 5)).block, (ad1222.add ((x5_1).toNat * 5)).off + 3, none⟩ = some (.int .i64 ((rd_T186 l0 x5_1).f3)) ∧ w'.cell? ⟨(ad1222.add ((x5_1).toNat * 5)).block, (ad1222.add ((x5_1).toNat * 5)).off + 4, none⟩ = some (.int .i64 ((rd_T186 l0 x5_1).f4))) (ds := []) #[false, false, false, false, false, false, false, false] (by kernel_rfl) rfl rfl ⟨((HB.out.cell (World.block_lt_of_cell? w _ hw1223_0)).trans hw1223_0), ((HB.out.cell (World.block_lt_of_cell? w _ hw1223_1)).trans hw1223_1), ((HB.out.cell (World.block_lt_of_cell? w _ hw1223_2)).trans hw1223_2), ((HB.out.cell (World.block_lt_of_cell? w _ hw1223_3)).trans hw1223_3), ((HB.out.cell (World.block_lt_of_cell? w _ hw1223_4)).trans hw1223_4)⟩ (fun hHeld => ?_); refine with_tabW laws_heldTxS.tab7 laws_heldTxS.bits7 (fun HT_ HW_ => ?_)
                generalize wr.drew = w24 at HB hx1223_0 hx1223_1 hx1223_2 hx1223_3 hx1223_4 hHeld ⊢
                refine pure_ (i := 0) (N := some 21) (v := ?_) (a' := ?_) #[true, false, false, false, false, false, false, false] rfl rfl (any_of HT_.out (by kernel_rfl)) (fun _ _ _ h => h) (Or.inl ⟨by rfl, ?_⟩) ?_ ?_
                rotate_left
                · intro w'
                  go_simp
                  with_reducible rfl
                rotate_left
                · simp only [Act.put, List.setIfInBounds_toArray, List.set_cons_zero, List.set_cons_succ, i64_w, i32_w]
                  rfl
                refine pure_ (i := 1) (N := some 22) (v := ?_) (a' := ?_) #[true, true, false, false, false, false, false, false] rfl rfl (any_of HT_.out (by kernel_rfl)) (fun _ _ _ h => h) (Or.inl ⟨by rfl, ?_⟩) ?_ ?_
                rotate_left
                · intro w'
                  go_simp
                  with_reducible rfl
                rotate_left
                · simp only [Act.put, List.setIfInBounds_toArray, List.set_cons_zero, List.set_cons_succ, i64_w, i32_w]
                  rfl
                refine pure_ (i := 2) (N := some 23) (v := ?_) (a' := ?_) #[true, true, true, false, false, false, false, false] rfl rfl (any_of HT_.out (by kernel_rfl)) (fun _ _ _ h => h) (Or.inl ⟨by rfl, ?_⟩) ?_ ?_
                rotate_left
                · intro w'
                  go_simp
                  with_reducible rfl
                rotate_left
                · simp only [Act.put, List.setIfInBounds_toArray, List.set_cons_zero, List.set_cons_succ, i64_w, i32_w]
                  rfl
                refine pure_ (i := 3) (N := some 24) (v := ?_) (a' := ?_) #[true, true, true, true, false, false, false, false] rfl rfl (any_of HT_.out (by kernel_rfl)) (fun _ _ _ h => h) (Or.inl ⟨by rfl, ?_⟩) ?_ ?_
                rotate_left
                · intro w'
                  go_simp
                  with_reducible rfl
                rotate_left
                · simp only [Act.put, List.setIfInBounds_toArray, List.set_cons_zero, List.set_cons_succ, i64_w, i32_w]
                  rfl
                refine pure_ (i := 5) (N := some 26) (v := ?_) (a' := ?_) #[true, true, true, true, false, true, false, false] rfl rfl (any_of HT_.out (by kernel_rfl)) (fun _ _ _ h => h) (Or.inl ⟨by rfl, ?_⟩) ?_ ?_
                rotate_left
                · intro w'
                  go_simp
                  with_reducible rfl
                rotate_left
                · simp only [Act.put, List.setIfInBounds_toArray, List.set_cons_zero, List.set_cons_succ, i64_w, i32_w]
                  rfl
                refine take_ (i := 4) (N := some 25) (v := ?_) (a' := ?_) #[true, true, true, true, true, true, false, false] rfl rfl (take_ofW HT_.out HW_.out (by kernel_rfl)) (fun _ _ _ h => h) (Or.inl ⟨by rfl, ?_⟩) hHeld ?_ ?_
                rotate_left
                · rintro w' ⟨s0, s1, s2, s3, s4⟩
                  go_simp
                  with_reducible rfl
                rotate_left
                · simp only [Act.put, List.setIfInBounds_toArray, List.set_cons_zero, List.set_cons_succ, i64_w, i32_w]
                  rfl
                refine one_ (i := 6) (N := some 27) #[true, true, true, true, true, true, true, false] rfl rfl (one_of HT_.out (by kernel_rfl)) (by decide) (fun K hK => ?_)
                refine goes_ Try.func123 (by kernel_rfl) rfl #[.int .i64 (wrap64 (x1_1 + 1))] (by rfl) rfl rfl (by (try simp only [List.map_toArray, List.map_cons, List.map_nil]); first | done | rfl | (simp only [List.length_drop, List.length_take]; rfl)) ?_
                with_reducible refine (laws_markText.calls k1 (wrap64 (x1_1 + 1)) t1224 _ A6.out).mono ?_
                rintro e w25 ⟨rfl, hb⟩
                refine ⟨_, rfl, ?_⟩
                have n0_ := Aside0.mk (below_step (by repeat (first | (with_reducible first | exact HB.out | apply below_alloc | apply pw_below_drewN | apply below_drew1) | exact HB.out)) hb)
                clear HB
                have HB := n0_
                clear n0_
                (try clear hb)
                (try clear hb2)
                (try clear hk)
                (try clear hi)
                refine hK.out _ _ ⟨((HB.out.cell (World.block_lt_of_cell? w _ hw1223_0)).trans hw1223_0), ((HB.out.cell (World.block_lt_of_cell? w _ hw1223_1)).trans hw1223_1), ((HB.out.cell (World.block_lt_of_cell? w _ hw1223_2)).trans hw1223_2), ((HB.out.cell (World.block_lt_of_cell? w _ hw1223_3)).trans hw1223_3), ((HB.out.cell (World.block_lt_of_cell? w _ hw1223_4)).trans hw1223_4)⟩ (fun hHeld => ?_)
                clear hK K
                refine norm_ (a' := ?_) ?_ ?_
                rotate_left
                · show Act.put _ (some 27) _ = _
                  simp only [Act.put, List.setIfInBounds_toArray, List.set_cons_zero, List.set_cons_succ, i64_w, i32_w]
                  rfl
                refine pure_ (i := 7) (N := some 28) (v := ?_) (a' := ?_) #[true, true, true, true, true, true, true, true] rfl rfl (any_of HT_.out (by kernel_rfl)) (fun _ _ _ h => h) (Or.inl ⟨by rfl, ?_⟩) ?_ ?_
                rotate_left
                · intro w'
                  go_simp
                  with_reducible rfl
                rotate_left
                · simp only [Act.put, List.setIfInBounds_toArray, List.set_cons_zero, List.set_cons_succ, i64_w, i32_w]
                  rfl
                refine done_ (done_of HT_.out (by kernel_rfl)) ?_
                try go_wp2
                have n0_ := Aside0.mk (below_drew1 HB.out)
                clear HB
                have HB := n0_
                clear n0_
                have p1225 : 0 ≤ (x5_1 : Int) := of_decide_eq_true (by first | (with_reducible assumption) | assumption)
                have q1225 : x5_1 < (l0.length : Int) := of_decide_eq_true (by first | (with_reducible assumption) | assumption)
                obtain ⟨ad1225, e1225, hx1225_0, hx1225_1, hx1225_2, hx1225_3, hx1225_4⟩ := at_T186 HR0.out x5_1 p1225 q1225
                have hw1225_4 := hx1225_4
                have hw1225_3 := hx1225_3
                have hw1225_2 := hx1225_2
                have hw1225_1 := hx1225_1
                have hw1225_0 := hx1225_0
                obtain rfl : ad1222 = ad1225 := (by injection e1225)
                replace hx1225_0 := (HB.out.cell (World.block_lt_of_cell? w _ hx1225_0)).trans hx1225_0
                replace hx1225_1 := (HB.out.cell (World.block_lt_of_cell? w _ hx1225_1)).trans hx1225_1
                replace hx1225_2 := (HB.out.cell (World.block_lt_of_cell? w _ hx1225_2)).trans hx1225_2
                replace hx1225_3 := (HB.out.cell (World.block_lt_of_cell? w _ hx1225_3)).trans hx1225_3
                replace hx1225_4 := (HB.out.cell (World.block_lt_of_cell? w _ hx1225_4)).trans hx1225_4
                replace p1225 := eq_true p1225
                replace q1225 := eq_true q1225
                refine start_ (n := 8) (S := fun w' => w'.cell? (ad1222.add ((x5_1).toNat * 5)) = some (.int .i64 ((rd_T186 l0 x5_1).f0)) ∧ w'.cell? ⟨(ad1222.add ((x5_1).toNat * 5)).block, (ad1222.add ((x5_1).toNat * 5)).off + 1, none⟩ = some (.string ((rd_T186 l0 x5_1).f1)) ∧ w'.cell? ⟨(ad1222.add ((x5_1).toNat * 5)).block, (ad1222.add ((x5_1).toNat * 5)).off + 2, none⟩ = some (.string ((rd_T186 l0 x5_1).f2)) ∧ w'.cell? ⟨(ad1222.add ((x5_1).toNat * 5)).block, (ad1222.add ((x5_1).toNat * 5)).off + 3, none⟩ = some (.int .i64 ((rd_T186 l0 x5_1).f3)) ∧ w'.cell? ⟨(ad1222.add ((x5_1).toNat * 5)).block, (ad1222.add ((x5_1).toNat * 5)).off + 4, none⟩ = some (.int .i64 ((rd_T186 l0 x5_1).f4))) (ds := []) #[false, false, false, false, false, false, false, false] (by kernel_rfl) rfl rfl ⟨((HB.out.cell (World.block_lt_of_cell? w _ hw1225_0)).trans hw1225_0), ((HB.out.cell (World.block_lt_of_cell? w _ hw1225_1)).trans hw1225_1), ((HB.out.cell (World.block_lt_of_cell? w _ hw1225_2)).trans hw1225_2), ((HB.out.cell (World.block_lt_of_cell? w _ hw1225_3)).trans hw1225_3), ((HB.out.cell (World.block_lt_of_cell? w _ hw1225_4)).trans hw1225_4)⟩ (fun hHeld => ?_); refine with_tabW laws_heldTxS.tab10 laws_heldTxS.bits10 (fun HT_ HW_ => ?_)
                generalize w25.drew = w26 at HB hx1225_0 hx1225_1 hx1225_2 hx1225_3 hx1225_4 hHeld ⊢
                refine pure_ (i := 0) (N := some 31) (v := ?_) (a' := ?_) #[true, false, false, false, false, false, false, false] rfl rfl (any_of HT_.out (by kernel_rfl)) (fun _ _ _ h => h) (Or.inl ⟨by rfl, ?_⟩) ?_ ?_
                rotate_left
                · intro w'
                  go_simp
                  with_reducible rfl
                rotate_left
                · simp only [Act.put, List.setIfInBounds_toArray, List.set_cons_zero, List.set_cons_succ, i64_w, i32_w]
                  rfl
                refine pure_ (i := 1) (N := some 32) (v := ?_) (a' := ?_) #[true, true, false, false, false, false, false, false] rfl rfl (any_of HT_.out (by kernel_rfl)) (fun _ _ _ h => h) (Or.inl ⟨by rfl, ?_⟩) ?_ ?_
                rotate_left
                · intro w'
                  go_simp
                  with_reducible rfl
                rotate_left
                · simp only [Act.put, List.setIfInBounds_toArray, List.set_cons_zero, List.set_cons_succ, i64_w, i32_w]
                  rfl
                refine pure_ (i := 2) (N := some 33) (v := ?_) (a' := ?_) #[true, true, true, false, false, false, false, false] rfl rfl (any_of HT_.out (by kernel_rfl)) (fun _ _ _ h => h) (Or.inl ⟨by rfl, ?_⟩) ?_ ?_
                rotate_left
                · intro w'
                  go_simp
                  with_reducible rfl
                rotate_left
                · simp only [Act.put, List.setIfInBounds_toArray, List.set_cons_zero, List.set_cons_succ, i64_w, i32_w]
                  rfl
                refine pure_ (i := 3) (N := some 34) (v := ?_) (a' := ?_) #[true, true, true, true, false, false, false, false] rfl rfl (any_of HT_.out (by kernel_rfl)) (fun _ _ _ h => h) (Or.inl ⟨by rfl, ?_⟩) ?_ ?_
                rotate_left
                · intro w'
                  go_simp
                  with_reducible rfl
                rotate_left
                · simp only [Act.put, List.setIfInBounds_toArray, List.set_cons_zero, List.set_cons_succ, i64_w, i32_w]
                  rfl
                refine pure_ (i := 5) (N := some 36) (v := ?_) (a' := ?_) #[true, true, true, true, false, true, false, false] rfl rfl (any_of HT_.out (by kernel_rfl)) (fun _ _ _ h => h) (Or.inl ⟨by rfl, ?_⟩) ?_ ?_
                rotate_left
                · intro w'
                  go_simp
                  with_reducible rfl
                rotate_left
                · simp only [Act.put, List.setIfInBounds_toArray, List.set_cons_zero, List.set_cons_succ, i64_w, i32_w]
                  rfl
                refine take_ (i := 4) (N := some 35) (v := ?_) (a' := ?_) #[true, true, true, true, true, true, false, false] rfl rfl (take_ofW HT_.out HW_.out (by kernel_rfl)) (fun _ _ _ h => h) (Or.inl ⟨by rfl, ?_⟩) hHeld ?_ ?_
                rotate_left
                · rintro w' ⟨s0, s1, s2, s3, s4⟩
                  go_simp
                  with_reducible rfl
                rotate_left
                · simp only [Act.put, List.setIfInBounds_toArray, List.set_cons_zero, List.set_cons_succ, i64_w, i32_w]
                  rfl
                refine one_ (i := 6) (N := some 37) #[true, true, true, true, true, true, true, false] rfl rfl (one_of HT_.out (by kernel_rfl)) (by decide) (fun K hK => ?_)
                refine goes_ Try.func123 (by kernel_rfl) rfl #[.int .i64 (wrap64 ((wrap64 (x1_1 + 1)) + 1))] (by rfl) rfl rfl (by (try simp only [List.map_toArray, List.map_cons, List.map_nil]); first | done | rfl | (simp only [List.length_drop, List.length_take]; rfl)) ?_
                with_reducible refine (laws_markText.calls k1 (wrap64 ((wrap64 (x1_1 + 1)) + 1)) t1226 _ A8.out).mono ?_
                rintro e w27 ⟨rfl, hb⟩
                refine ⟨_, rfl, ?_⟩
                have n0_ := Aside0.mk (below_step (by repeat (first | (with_reducible first | exact HB.out | apply below_alloc | apply pw_below_drewN | apply below_drew1) | exact HB.out)) hb)
                clear HB
                have HB := n0_
                clear n0_
                (try clear hb)
                (try clear hb2)
                (try clear hk)
                (try clear hi)
                refine hK.out _ _ ⟨((HB.out.cell (World.block_lt_of_cell? w _ hw1225_0)).trans hw1225_0), ((HB.out.cell (World.block_lt_of_cell? w _ hw1225_1)).trans hw1225_1), ((HB.out.cell (World.block_lt_of_cell? w _ hw1225_2)).trans hw1225_2), ((HB.out.cell (World.block_lt_of_cell? w _ hw1225_3)).trans hw1225_3), ((HB.out.cell (World.block_lt_of_cell? w _ hw1225_4)).trans hw1225_4)⟩ (fun hHeld => ?_)
                clear hK K
                refine norm_ (a' := ?_) ?_ ?_
                rotate_left
                · show Act.put _ (some 37) _ = _
                  simp only [Act.put, List.setIfInBounds_toArray, List.set_cons_zero, List.set_cons_succ, i64_w, i32_w]
                  rfl
                refine pure_ (i := 7) (N := some 38) (v := ?_) (a' := ?_) #[true, true, true, true, true, true, true, true] rfl rfl (any_of HT_.out (by kernel_rfl)) (fun _ _ _ h => h) (Or.inl ⟨by rfl, ?_⟩) ?_ ?_
                rotate_left
                · intro w'
                  go_simp
                  with_reducible rfl
                rotate_left
                · simp only [Act.put, List.setIfInBounds_toArray, List.set_cons_zero, List.set_cons_succ, i64_w, i32_w]
                  rfl
                refine done_ (done_of HT_.out (by kernel_rfl)) ?_
                try go_wp2
                go_ret
                exact ⟨by first | rfl | (simp [errW_none, errW_some] <;> rfl) | (simp [*, errW_none, errW_some] <;> rfl), by repeat (first | (with_reducible first | exact HB.out | apply below_alloc | apply pw_below_drewN | apply below_drew1) | exact HB.out)⟩
            · rw [if_neg c7] at H
              have c7b0 : (((rd_T186 l0 x5_1).f1).toList == t1224.toList) = false := beq_eq_false_iff_ne.mpr c7
              have c7b1 : (((rd_T186 l0 x5_1).f1).toList != t1224.toList) = true := bne_iff_ne.mpr c7
              obtain rfl := Option.some.inj H
              have p1222 : 0 ≤ (x5_1 : Int) := of_decide_eq_true (by first | (with_reducible assumption) | assumption)
              have q1222 : x5_1 < (l0.length : Int) := of_decide_eq_true (by first | (with_reducible assumption) | assumption)
              obtain ⟨ad1222, e1222, hx1222_0, hx1222_1, hx1222_2, hx1222_3, hx1222_4⟩ := at_T186 HR0.out x5_1 p1222 q1222
              cases e1222
              replace hx1222_0 := (HB.out.cell (World.block_lt_of_cell? w _ hx1222_0)).trans hx1222_0
              replace hx1222_1 := (HB.out.cell (World.block_lt_of_cell? w _ hx1222_1)).trans hx1222_1
              replace hx1222_2 := (HB.out.cell (World.block_lt_of_cell? w _ hx1222_2)).trans hx1222_2
              replace hx1222_3 := (HB.out.cell (World.block_lt_of_cell? w _ hx1222_3)).trans hx1222_3
              replace hx1222_4 := (HB.out.cell (World.block_lt_of_cell? w _ hx1222_4)).trans hx1222_4
              replace p1222 := eq_true p1222
              replace q1222 := eq_true q1222
              try go_wp2
              have n0_ := Aside0.mk (below_drew1 HB.out)
              clear HB
              have HB := n0_
              clear n0_
              have p1223 : 0 ≤ (x5_1 : Int) := of_decide_eq_true (by first | (with_reducible assumption) | assumption)
              have q1223 : x5_1 < (l0.length : Int) := of_decide_eq_true (by first | (with_reducible assumption) | assumption)
              obtain ⟨ad1223, e1223, hx1223_0, hx1223_1, hx1223_2, hx1223_3, hx1223_4⟩ := at_T186 HR0.out x5_1 p1223 q1223
              have hw1223_4 := hx1223_4
              have hw1223_3 := hx1223_3
              have hw1223_2 := hx1223_2
              have hw1223_1 := hx1223_1
              have hw1223_0 := hx1223_0
              obtain rfl : ad1222 = ad1223 := (by injection e1223)
              replace hx1223_0 := (HB.out.cell (World.block_lt_of_cell? w _ hx1223_0)).trans hx1223_0
              replace hx1223_1 := (HB.out.cell (World.block_lt_of_cell? w _ hx1223_1)).trans hx1223_1
              replace hx1223_2 := (HB.out.cell (World.block_lt_of_cell? w _ hx1223_2)).trans hx1223_2
              replace hx1223_3 := (HB.out.cell (World.block_lt_of_cell? w _ hx1223_3)).trans hx1223_3
              replace hx1223_4 := (HB.out.cell (World.block_lt_of_cell? w _ hx1223_4)).trans hx1223_4
              replace p1223 := eq_true p1223
              replace q1223 := eq_true q1223
              refine start_ (n := 8) (S := fun w' => w'.cell? (ad1222.add ((x5_1).toNat * 5)) = some (.int .i64 ((rd_T186 l0 x5_1).f0)) ∧ w'.cell? ⟨(ad1222.add ((x5_1).toNat * 5)).block, (ad1222.add ((x5_1).toNat * 5)).off + 1, none⟩ = some (.string ((rd_T186 l0 x5_1).f1)) ∧ w'.cell? ⟨(ad1222.add ((x5_1).toNat * 5)).block, (ad1222.add ((x5_1).toNat * 5)).off + 2, none⟩ = some (.string ((rd_T186 l0 x5_1).f2)) ∧ w'.cell? ⟨(ad1222.add ((x5_1).toNat * 5)).block, (ad1222.add ((x5_1).toNat * 5)).off + 3, none⟩ = some (.int .i64 ((rd_T186 l0 x5_1).f3)) ∧ w'.cell? ⟨(ad1222.add ((x5_1).toNat * 5)).block, (ad1222.add ((x5_1).toNat * 5)).off + 4, none⟩ = some (.int .i64 ((rd_T186 l0 x5_1).f4))) (ds := []) #[false, false, false, false, false, false, false, false] (by kernel_rfl) rfl rfl ⟨((HB.out.cell (World.block_lt_of_cell? w _ hw1223_0)).trans hw1223_0), ((HB.out.cell (World.block_lt_of_cell? w _ hw1223_1)).trans hw1223_1), ((HB.out.cell (World.block_lt_of_cell? w _ hw1223_2)).trans hw1223_2), ((HB.out.cell (World.block_lt_of_cell? w _ hw1223_3)).trans hw1223_3), ((HB.out.cell (World.block_lt_of_cell? w _ hw1223_4)).trans hw1223_4)⟩ (fun hHeld => ?_); refine with_tabW laws_heldTxS.tab7 laws_heldTxS.bits7 (fun HT_ HW_ => ?_)
              generalize wr.drew = w28 at HB hx1223_0 hx1223_1 hx1223_2 hx1223_3 hx1223_4 hHeld ⊢
              refine pure_ (i := 0) (N := some 21) (v := ?_) (a' := ?_) #[true, false, false, false, false, false, false, false] rfl rfl (any_of HT_.out (by kernel_rfl)) (fun _ _ _ h => h) (Or.inl ⟨by rfl, ?_⟩) ?_ ?_
              rotate_left
              · intro w'
                go_simp
                with_reducible rfl
              rotate_left
              · simp only [Act.put, List.setIfInBounds_toArray, List.set_cons_zero, List.set_cons_succ, i64_w, i32_w]
                rfl
              refine pure_ (i := 1) (N := some 22) (v := ?_) (a' := ?_) #[true, true, false, false, false, false, false, false] rfl rfl (any_of HT_.out (by kernel_rfl)) (fun _ _ _ h => h) (Or.inl ⟨by rfl, ?_⟩) ?_ ?_
              rotate_left
              · intro w'
                go_simp
                with_reducible rfl
              rotate_left
              · simp only [Act.put, List.setIfInBounds_toArray, List.set_cons_zero, List.set_cons_succ, i64_w, i32_w]
                rfl
              refine pure_ (i := 2) (N := some 23) (v := ?_) (a' := ?_) #[true, true, true, false, false, false, false, false] rfl rfl (any_of HT_.out (by kernel_rfl)) (fun _ _ _ h => h) (Or.inl ⟨by rfl, ?_⟩) ?_ ?_
              rotate_left
              · intro w'
                go_simp
                with_reducible rfl
              rotate_left
              · simp only [Act.put, List.setIfInBounds_toArray, List.set_cons_zero, List.set_cons_succ, i64_w, i32_w]
                rfl
              refine pure_ (i := 3) (N := some 24) (v := ?_) (a' := ?_) #[true, true, true, true, false, false, false, false] rfl rfl (any_of HT_.out (by kernel_rfl)) (fun _ _ _ h => h) (Or.inl ⟨by rfl, ?_⟩) ?_ ?_
              rotate_left
              · intro w'
                go_simp
                with_reducible rfl
              rotate_left
              · simp only [Act.put, List.setIfInBounds_toArray, List.set_cons_zero, List.set_cons_succ, i64_w, i32_w]
                rfl
              refine pure_ (i := 5) (N := some 26) (v := ?_) (a' := ?_) #[true, true, true, true, false, true, false, false] rfl rfl (any_of HT_.out (by kernel_rfl)) (fun _ _ _ h => h) (Or.inl ⟨by rfl, ?_⟩) ?_ ?_
              rotate_left
              · intro w'
                go_simp
                with_reducible rfl
              rotate_left
              · simp only [Act.put, List.setIfInBounds_toArray, List.set_cons_zero, List.set_cons_succ, i64_w, i32_w]
                rfl
              refine take_ (i := 4) (N := some 25) (v := ?_) (a' := ?_) #[true, true, true, true, true, true, false, false] rfl rfl (take_ofW HT_.out HW_.out (by kernel_rfl)) (fun _ _ _ h => h) (Or.inl ⟨by rfl, ?_⟩) hHeld ?_ ?_
              rotate_left
              · rintro w' ⟨s0, s1, s2, s3, s4⟩
                go_simp
                with_reducible rfl
              rotate_left
              · simp only [Act.put, List.setIfInBounds_toArray, List.set_cons_zero, List.set_cons_succ, i64_w, i32_w]
                rfl
              refine one_ (i := 6) (N := some 27) #[true, true, true, true, true, true, true, false] rfl rfl (one_of HT_.out (by kernel_rfl)) (by decide) (fun K hK => ?_)
              refine goes_ Try.func123 (by kernel_rfl) rfl #[.int .i64 (wrap64 (x1_1 + 1))] (by rfl) rfl rfl (by (try simp only [List.map_toArray, List.map_cons, List.map_nil]); first | done | rfl | (simp only [List.length_drop, List.length_take]; rfl)) ?_
              with_reducible refine (laws_markText.calls k1 (wrap64 (x1_1 + 1)) t1224 _ A6.out).mono ?_
              rintro e w29 ⟨rfl, hb⟩
              refine ⟨_, rfl, ?_⟩
              have n0_ := Aside0.mk (below_step (by repeat (first | (with_reducible first | exact HB.out | apply below_alloc | apply pw_below_drewN | apply below_drew1) | exact HB.out)) hb)
              clear HB
              have HB := n0_
              clear n0_
              (try clear hb)
              (try clear hb2)
              (try clear hk)
              (try clear hi)
              refine hK.out _ _ ⟨((HB.out.cell (World.block_lt_of_cell? w _ hw1223_0)).trans hw1223_0), ((HB.out.cell (World.block_lt_of_cell? w _ hw1223_1)).trans hw1223_1), ((HB.out.cell (World.block_lt_of_cell? w _ hw1223_2)).trans hw1223_2), ((HB.out.cell (World.block_lt_of_cell? w _ hw1223_3)).trans hw1223_3), ((HB.out.cell (World.block_lt_of_cell? w _ hw1223_4)).trans hw1223_4)⟩ (fun hHeld => ?_)
              clear hK K
              refine norm_ (a' := ?_) ?_ ?_
              rotate_left
              · show Act.put _ (some 27) _ = _
                simp only [Act.put, List.setIfInBounds_toArray, List.set_cons_zero, List.set_cons_succ, i64_w, i32_w]
                rfl
              refine pure_ (i := 7) (N := some 28) (v := ?_) (a' := ?_) #[true, true, true, true, true, true, true, true] rfl rfl (any_of HT_.out (by kernel_rfl)) (fun _ _ _ h => h) (Or.inl ⟨by rfl, ?_⟩) ?_ ?_
              rotate_left
              · intro w'
                go_simp
                with_reducible rfl
              rotate_left
              · simp only [Act.put, List.setIfInBounds_toArray, List.set_cons_zero, List.set_cons_succ, i64_w, i32_w]
                rfl
              refine done_ (done_of HT_.out (by kernel_rfl)) ?_
              try go_wp2
              go_ret
              exact ⟨by first | rfl | (simp [errW_none, errW_some] <;> rfl) | (simp [*, errW_none, errW_some] <;> rfl), by repeat (first | (with_reducible first | exact HB.out | apply below_alloc | apply pw_below_drewN | apply below_drew1) | exact HB.out)⟩
          · rw [if_neg c5] at H
            have c5b0 : (((rd_T186 l0 x5_1).f0) == x1_1) = false := beq_eq_false_iff_ne.mpr c5
            have c5b1 : (((rd_T186 l0 x5_1).f0) != x1_1) = true := bne_iff_ne.mpr c5
            obtain rfl := Option.some.inj H
            have p1222 : 0 ≤ (x5_1 : Int) := of_decide_eq_true (by first | (with_reducible assumption) | assumption)
            have q1222 : x5_1 < (l0.length : Int) := of_decide_eq_true (by first | (with_reducible assumption) | assumption)
            obtain ⟨ad1222, e1222, hx1222_0, hx1222_1, hx1222_2, hx1222_3, hx1222_4⟩ := at_T186 HR0.out x5_1 p1222 q1222
            cases e1222
            replace hx1222_0 := (HB.out.cell (World.block_lt_of_cell? w _ hx1222_0)).trans hx1222_0
            replace hx1222_1 := (HB.out.cell (World.block_lt_of_cell? w _ hx1222_1)).trans hx1222_1
            replace hx1222_2 := (HB.out.cell (World.block_lt_of_cell? w _ hx1222_2)).trans hx1222_2
            replace hx1222_3 := (HB.out.cell (World.block_lt_of_cell? w _ hx1222_3)).trans hx1222_3
            replace hx1222_4 := (HB.out.cell (World.block_lt_of_cell? w _ hx1222_4)).trans hx1222_4
            replace p1222 := eq_true p1222
            replace q1222 := eq_true q1222
            go_wp2
            go_ret
            exact ⟨by first | rfl | (simp [errW_none, errW_some] <;> rfl) | (simp [*, errW_none, errW_some] <;> rfl), by repeat (first | (with_reducible first | exact HB.out | apply below_alloc | apply pw_below_drewN | apply below_drew1) | exact HB.out)⟩
        · rw [if_neg c4] at H
          exact absurd H (by simp)
      · rw [if_neg c3] at H
        have c3b0 : decide (x5_1 < (l0.length : Int)) = false := decide_eq_false c3
        clear c3
        obtain rfl := Option.some.inj H
        go_wp2
        go_ret
        exact ⟨by first | rfl | (simp [errW_none, errW_some] <;> rfl) | (simp [*, errW_none, errW_some] <;> rfl), by repeat (first | (with_reducible first | exact HB.out | apply below_alloc | apply pw_below_drewN | apply below_drew1) | exact HB.out)⟩

end Go.Proofs.Ytadkhkpchankjaa.F
