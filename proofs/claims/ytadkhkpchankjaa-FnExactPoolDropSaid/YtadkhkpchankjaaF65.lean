/-
Functions of the program, what they come to, and that Go comes to just that: laws_heldTxS.
Conditions: those that each theorem names.
-/
import Derived.Test.YtadkhkpchankjaaFAbs
import Derived.Test.YtadkhkpchankjaaF41
set_option linter.unusedVariables false
set_option linter.unusedSimpArgs false
namespace Go.Proofs.Ytadkhkpchankjaa.F
open Go.RowKit Go.Proofs.YtadkhkpchankjaaW.PrintWords Go.Proofs.YtadkhkpchankjaaW.PrintLast Go.Proofs.Ytadkhkpchankjaa.Base Go.Proofs.Ytadkhkpchankjaa.BW

/-! ### laws_heldTxS: function 89 -/
def laws_heldTxS.l0 : Nat → List (S186) → Int → Int → Option (Int)
  | 0, _, _, _ => none
  | k + 1, x0, x1, x5 => if x5 < (x0.length : Int) then (if 0 ≤ x5 then (if ((rd_T186 x0 x5).f0) = x1 then ((laws_markText.f k (wrap64 (x1 + 1))).bind fun t1197 => (if ((rd_T186 x0 x5).f1).toList = t1197.toList then ((laws_markText.f k (wrap64 ((wrap64 (x1 + 1)) + 1))).bind fun t1199 => (if ((rd_T186 x0 x5).f2).toList = t1199.toList then (if ((rd_T186 x0 x5).f3) = (wrap64 ((wrap64 ((wrap64 (x1 + 1)) + 1)) + 1)) then (if ((rd_T186 x0 x5).f4) = (wrap64 ((wrap64 ((wrap64 ((wrap64 (x1 + 1)) + 1)) + 1)) + 1)) then (laws_heldTxS.l0 k x0 (wrap64 ((wrap64 ((wrap64 ((wrap64 ((wrap64 (x1 + 1)) + 1)) + 1)) + 1)) + 1)) (wrap64 (x5 + 1))) else (some (-1))) else (some (-1))) else (some (-1)))) else (some (-1)))) else (some (-1))) else (none)) else (some x1)
def laws_heldTxS.f (k : Nat) (l0 : List (S186)) (a1 : Int) : Option (Int) := laws_heldTxS.l0 k l0 a1 0
theorem laws_heldTxS.mono_l : ∀ k, (∀ y0 y1 y2, LeO (laws_heldTxS.l0 k y0 y1 y2) (laws_heldTxS.l0 (k + 1) y0 y1 y2))
  | 0 => fun _ _ _ r h => by simp [laws_heldTxS.l0] at h
  | k + 1 => by
    have ih0 := laws_heldTxS.mono_l k
    · intro y0 y1 y2
      unfold laws_heldTxS.l0
      repeat' first
      | (with_reducible exact ih0 _ _ _)
      | (with_reducible exact laws_markText.mono _ _)
      | (with_reducible exact LeO.refl _)
      | (with_reducible exact LeO.none _)
      | (with_reducible refine LeO.ite ?_ ?_)
      | (with_reducible refine LeO.bind ?_ (fun _ => ?_))
      | exact ih0 _ _ _
      | exact laws_markText.mono _ _
      | exact LeO.none _
      | refine LeO.ite ?_ ?_
      | refine LeO.bind ?_ (fun _ => ?_)
theorem laws_heldTxS.mono : ∀ a0 a1 k, LeO (laws_heldTxS.f k a0 a1) (laws_heldTxS.f (k + 1) a0 a1) := by
  intro a0 a1 k
  have ih0 := laws_heldTxS.mono_l k
  unfold laws_heldTxS.f
  repeat' first
      | (with_reducible exact ih0 _ _ _)
      | (with_reducible exact laws_markText.mono _ _)
      | (with_reducible exact LeO.refl _)
      | (with_reducible exact LeO.none _)
      | (with_reducible refine LeO.ite ?_ ?_)
      | (with_reducible refine LeO.bind ?_ (fun _ => ?_))
      | exact ih0 _ _ _
      | exact laws_markText.mono _ _
      | exact LeO.none _
      | refine LeO.ite ?_ ?_
      | refine LeO.bind ?_ (fun _ => ?_)
def laws_heldTxS.T7 : Bool × List (List Nat × List Nat) := (true, [([], []), ([], []), ([0, 1], [0, 1]), ([2], [2]), ([3], [3]), ([], []), ([5], [5]), ([4, 6], [4, 6])])
def laws_heldTxS.B7 : List Nat := [0, 0, 3, 7, 15, 0, 32, 127]
theorem laws_heldTxS.tab7 : rtab .any (opsOf Try.f89 7) = laws_heldTxS.T7 := by kernel_rfl
theorem laws_heldTxS.bits7 : waitsOk laws_heldTxS.T7.2 laws_heldTxS.B7 = true := by kernel_rfl
def laws_heldTxS.T10 : Bool × List (List Nat × List Nat) := (true, [([], []), ([], []), ([0, 1], [0, 1]), ([2], [2]), ([3], [3]), ([], []), ([5], [5]), ([4, 6], [4, 6])])
def laws_heldTxS.B10 : List Nat := [0, 0, 3, 7, 15, 0, 32, 127]
theorem laws_heldTxS.tab10 : rtab .any (opsOf Try.f89 10) = laws_heldTxS.T10 := by kernel_rfl
theorem laws_heldTxS.bits10 : waitsOk laws_heldTxS.T10.2 laws_heldTxS.B10 = true := by kernel_rfl
set_option maxHeartbeats 8000000 in
set_option maxRecDepth 100000 in
theorem laws_heldTxS.calls (k : Nat) (A0 : Option Addr) (c0 : Nat) (l0 : List (S186)) (a1 : Int) (r : Int) (w : World) (hr0 : Kd.C k186 w A0 l0.length l0) (hc0 : l0.length ≤ c0) (h : laws_heldTxS.f k l0 a1 = some r) :
    Calls Try.prog 89 #[.slice A0 l0.length c0, .int .i64 a1] w fun e w' => e = .returned (.int .i64 r) ∧ Below w.heap.size w w' := by
  have HR0 := Aside0.mk hr0
  have HC0 := Aside0.mk hc0
  clear hr0 hc0
  have HB := Aside0.mk (Below.refl w.heap.size w)
  have H : (laws_heldTxS.l0 k l0 a1 0) = some r := h
  clear h
  have H' := Aside0.mk H
  clear H
  go_enter Try.func89, Try.ntmps89
  go_wp2
  go_loopg [1, 5] k (fun kq v1 v5 w' => ∃ (x1_1 : Int) (x5_1 : Int), v1 = .int .i64 x1_1 ∧ v5 = .int .i64 x5_1 ∧ Aside0 (laws_heldTxS.l0 kq l0 x1_1 x5_1 = some r) ∧ Aside0 (kq ≤ k) ∧ Aside0 (Below w.heap.size w w'))
  case atStart => exact ⟨(a1), (0), (by first | rfl | (simp; done) | (simp [*]; done)), (by first | rfl | (simp; done) | (simp [*]; done)), H', ⟨Nat.le_refl _⟩, ⟨by repeat (first | (with_reducible first | exact HB.out | apply below_alloc | apply pw_below_drewN | apply below_drew1) | exact HB.out)⟩⟩
  case round =>
    clear H'
    try clear p2
    obtain ⟨x1_1, x5_1, rfl, rfl, HA, HK1, HB⟩ := hrel
    cases gk with
    | zero => exact absurd HA.out (by simp [laws_heldTxS.l0])
    | succ k1 =>
      have H := HA.out
      clear HA
      simp only [laws_heldTxS.l0] at H
      by_cases c3 : x5_1 < (l0.length : Int)
      · rw [if_pos c3] at H
        have c3b0 : decide (x5_1 < (l0.length : Int)) = true := decide_eq_true c3
        clear c3
        by_cases c4 : 0 ≤ x5_1
        · rw [if_pos c4] at H
          have c4b0 : decide (0 ≤ x5_1) = true := decide_eq_true c4
          clear c4
          by_cases c5 : ((rd_T186 l0 x5_1).f0) = x1_1
          · rw [if_pos c5] at H
            have c5b0 : (((rd_T186 l0 x5_1).f0) == x1_1) = true := beq_iff_eq.mpr c5
            have c5b1 : (((rd_T186 l0 x5_1).f0) != x1_1) = false := bne_eq_false_iff_eq.mpr c5
            clear c5
            replace H := Option.bind_eq_some_iff.mp H
            obtain ⟨t1197, A60, H⟩ := H
            replace H : (if ((rd_T186 l0 x5_1).f1).toList = t1197.toList then ((laws_markText.f k1 (wrap64 ((wrap64 (x1_1 + 1)) + 1))).bind fun t1199 => (if ((rd_T186 l0 x5_1).f2).toList = t1199.toList then (if ((rd_T186 l0 x5_1).f3) = (wrap64 ((wrap64 ((wrap64 (x1_1 + 1)) + 1)) + 1)) then (if ((rd_T186 l0 x5_1).f4) = (wrap64 ((wrap64 ((wrap64 ((wrap64 (x1_1 + 1)) + 1)) + 1)) + 1)) then (laws_heldTxS.l0 k1 l0 (wrap64 ((wrap64 ((wrap64 ((wrap64 ((wrap64 (x1_1 + 1)) + 1)) + 1)) + 1)) + 1)) (wrap64 (x5_1 + 1))) else (some (-1))) else (some (-1))) else (some (-1)))) else (some (-1))) = some r := H
            have A6 := Aside0.mk A60
            clear A60
            by_cases c7 : ((rd_T186 l0 x5_1).f1).toList = t1197.toList
            · rw [if_pos c7] at H
              have c7b0 : (((rd_T186 l0 x5_1).f1).toList == t1197.toList) = true := beq_iff_eq.mpr c7
              have c7b1 : (((rd_T186 l0 x5_1).f1).toList != t1197.toList) = false := bne_eq_false_iff_eq.mpr c7
              clear c7
              replace H := Option.bind_eq_some_iff.mp H
              obtain ⟨t1199, A80, H⟩ := H
              replace H : (if ((rd_T186 l0 x5_1).f2).toList = t1199.toList then (if ((rd_T186 l0 x5_1).f3) = (wrap64 ((wrap64 ((wrap64 (x1_1 + 1)) + 1)) + 1)) then (if ((rd_T186 l0 x5_1).f4) = (wrap64 ((wrap64 ((wrap64 ((wrap64 (x1_1 + 1)) + 1)) + 1)) + 1)) then (laws_heldTxS.l0 k1 l0 (wrap64 ((wrap64 ((wrap64 ((wrap64 ((wrap64 (x1_1 + 1)) + 1)) + 1)) + 1)) + 1)) (wrap64 (x5_1 + 1))) else (some (-1))) else (some (-1))) else (some (-1))) = some r := H
              have A8 := Aside0.mk A80
              clear A80
              by_cases c9 : ((rd_T186 l0 x5_1).f2).toList = t1199.toList
              · rw [if_pos c9] at H
                have c9b0 : (((rd_T186 l0 x5_1).f2).toList == t1199.toList) = true := beq_iff_eq.mpr c9
                have c9b1 : (((rd_T186 l0 x5_1).f2).toList != t1199.toList) = false := bne_eq_false_iff_eq.mpr c9
                clear c9
                by_cases c10 : ((rd_T186 l0 x5_1).f3) = (wrap64 ((wrap64 ((wrap64 (x1_1 + 1)) + 1)) + 1))
                · rw [if_pos c10] at H
                  have c10b0 : (((rd_T186 l0 x5_1).f3) == (wrap64 ((wrap64 ((wrap64 (x1_1 + 1)) + 1)) + 1))) = true := beq_iff_eq.mpr c10
                  have c10b1 : (((rd_T186 l0 x5_1).f3) != (wrap64 ((wrap64 ((wrap64 (x1_1 + 1)) + 1)) + 1))) = false := bne_eq_false_iff_eq.mpr c10
                  clear c10
                  by_cases c11 : ((rd_T186 l0 x5_1).f4) = (wrap64 ((wrap64 ((wrap64 ((wrap64 (x1_1 + 1)) + 1)) + 1)) + 1))
                  · rw [if_pos c11] at H
                    have c11b0 : (((rd_T186 l0 x5_1).f4) == (wrap64 ((wrap64 ((wrap64 ((wrap64 (x1_1 + 1)) + 1)) + 1)) + 1))) = true := beq_iff_eq.mpr c11
                    have c11b1 : (((rd_T186 l0 x5_1).f4) != (wrap64 ((wrap64 ((wrap64 ((wrap64 (x1_1 + 1)) + 1)) + 1)) + 1))) = false := bne_eq_false_iff_eq.mpr c11
                    clear c11
                    have H' := Aside0.mk H
                    clear H
                    have p1195 : 0 ≤ (x5_1 : Int) := of_decide_eq_true (by first | (with_reducible assumption) | assumption)
                    have q1195 : x5_1 < (l0.length : Int) := of_decide_eq_true (by first | (with_reducible assumption) | assumption)
                    obtain ⟨ad1195, e1195, hx1195_0, hx1195_1, hx1195_2, hx1195_3, hx1195_4⟩ := at_T186 HR0.out x5_1 p1195 q1195
                    cases e1195
                    replace hx1195_0 := (HB.out.cell (World.block_lt_of_cell? w _ hx1195_0)).trans hx1195_0
                    replace hx1195_1 := (HB.out.cell (World.block_lt_of_cell? w _ hx1195_1)).trans hx1195_1
                    replace hx1195_2 := (HB.out.cell (World.block_lt_of_cell? w _ hx1195_2)).trans hx1195_2
                    replace hx1195_3 := (HB.out.cell (World.block_lt_of_cell? w _ hx1195_3)).trans hx1195_3
                    replace hx1195_4 := (HB.out.cell (World.block_lt_of_cell? w _ hx1195_4)).trans hx1195_4
                    replace p1195 := eq_true p1195
                    replace q1195 := eq_true q1195
                    try go_wp2
                    have n0_ := Aside0.mk (below_drew1 HB.out)
                    clear HB
                    have HB := n0_
                    clear n0_
                    have p1196 : 0 ≤ (x5_1 : Int) := of_decide_eq_true (by first | (with_reducible assumption) | assumption)
                    have q1196 : x5_1 < (l0.length : Int) := of_decide_eq_true (by first | (with_reducible assumption) | assumption)
                    obtain ⟨ad1196, e1196, hx1196_0, hx1196_1, hx1196_2, hx1196_3, hx1196_4⟩ := at_T186 HR0.out x5_1 p1196 q1196
                    have hw1196_4 := hx1196_4
                    have hw1196_3 := hx1196_3
                    have hw1196_2 := hx1196_2
                    have hw1196_1 := hx1196_1
                    have hw1196_0 := hx1196_0
                    obtain rfl : ad1195 = ad1196 := (by injection e1196)
                    replace hx1196_0 := (HB.out.cell (World.block_lt_of_cell? w _ hx1196_0)).trans hx1196_0
                    replace hx1196_1 := (HB.out.cell (World.block_lt_of_cell? w _ hx1196_1)).trans hx1196_1
                    replace hx1196_2 := (HB.out.cell (World.block_lt_of_cell? w _ hx1196_2)).trans hx1196_2
                    replace hx1196_3 := (HB.out.cell (World.block_lt_of_cell? w _ hx1196_3)).trans hx1196_3
                    replace hx1196_4 := (HB.out.cell (World.block_lt_of_cell? w _ hx1196_4)).trans hx1196_4
                    replace p1196 := eq_true p1196
                    replace q1196 := eq_true q1196
                    refine start_ (n := 8) (S := fun w' => w'.cell? (ad1195.add ((x5_1).toNat * 5)) = some (.int .i64 ((rd_T186 l0 x5_1).f0)) ∧ w'.cell? ⟨(ad1195.add ((x5_1).toNat * 5)).block, (ad1195.add ((x5_1).toNat * 5)).off + 1, none⟩ = some (.string ((rd_T186 l0 x5_1).f1)) ∧ w'.cell? ⟨(ad1195.add ((x5_1).toNat * 5)).block, (ad1195.add ((x5_1).toNat * 5)).off + 2, none⟩ = some (.string ((rd_T186 l0 x5_1).f2)) ∧ w'.cell? ⟨(ad1195.add ((x5_1).toNat * 5)).block, (ad1195.add ((x5_1).toNat * 5)).off + 3, none⟩ = some (.int .i64 ((rd_T186 l0 x5_1).f3)) ∧ w'.cell? ⟨(ad1195.add ((x5_1).toNat * 5)).block, (ad1195.add ((x5_1).toNat * 5)).off + 4, none⟩ = some (.int .i64 ((rd_T186 l0 x5_1).f4))) (ds := []) #[false, false, false, false, false, false, false, false] (by kernel_rfl) rfl rfl ⟨((HB.out.cell (World.block_lt_of_cell? w _ hw1196_0)).trans hw1196_0), ((HB.out.cell (World.block_lt_of_cell? w _ hw1196_1)).trans hw1196_1), ((HB.out.cell (World.block_lt_of_cell? w _ hw1196_2)).trans hw1196_2), ((HB.out.cell (World.block_lt_of_cell? w _ hw1196_3)).trans hw1196_3), ((HB.out.cell (World.block_lt_of_cell? w _ hw1196_4)).trans hw1196_4)⟩ (fun hHeld => ?_); refine with_tabW laws_heldTxS.tab7 laws_heldTxS.bits7 (fun HT_ HW_ => ?_)
                    generalize wr.drew = w12 at HB hx1196_0 hx1196_1 hx1196_2 hx1196_3 hx1196_4 hHeld ⊢
                    refine pure_ (i := 0) (N := some 21) (v := ?_) (a' := ?_) #[true, false, false, false, false, false, false, false] rfl rfl (any_of HT_.out (by kernel_rfl)) (fun _ _ _ h => h) (Or.inl ⟨by rfl, ?_⟩) ?_ ?_
                    rotate_left
                    · intro w'
                      go_simp
                      with_reducible rfl
                    rotate_left
                    · simp only [Act.put, List.setIfInBounds_toArray, List.set_cons_zero, List.set_cons_succ, i64_w, i32_w]
                      rfl
                    refine pure_ (i := 1) (N := some 22) (v := ?_) (a' := ?_) #[true, true, false, false, false, false, false, false] rfl rfl (any_of HT_.out (by kernel_rfl)) (fun _ _ _ h => h) (Or.inl ⟨by rfl, ?_⟩) ?_ ?_
                    rotate_left
                    · intro w'
                      go_simp
                      with_reducible rfl
                    rotate_left
                    · simp only [Act.put, List.setIfInBounds_toArray, List.set_cons_zero, List.set_cons_succ, i64_w, i32_w]
                      rfl
                    refine pure_ (i := 2) (N := some 23) (v := ?_) (a' := ?_) #[true, true, true, false, false, false, false, false] rfl rfl (any_of HT_.out (by kernel_rfl)) (fun _ _ _ h => h) (Or.inl ⟨by rfl, ?_⟩) ?_ ?_
                    rotate_left
                    · intro w'
                      go_simp
                      with_reducible rfl
                    rotate_left
                    · simp only [Act.put, List.setIfInBounds_toArray, List.set_cons_zero, List.set_cons_succ, i64_w, i32_w]
                      rfl
                    refine pure_ (i := 3) (N := some 24) (v := ?_) (a' := ?_) #[true, true, true, true, false, false, false, false] rfl rfl (any_of HT_.out (by kernel_rfl)) (fun _ _ _ h => h) (Or.inl ⟨by rfl, ?_⟩) ?_ ?_
                    rotate_left
                    · intro w'
                      go_simp
                      with_reducible rfl
                    rotate_left
                    · simp only [Act.put, List.setIfInBounds_toArray, List.set_cons_zero, List.set_cons_succ, i64_w, i32_w]
                      rfl
                    refine pure_ (i := 5) (N := some 26) (v := ?_) (a' := ?_) #[true, true, true, true, false, true, false, false] rfl rfl (any_of HT_.out (by kernel_rfl)) (fun _ _ _ h => h) (Or.inl ⟨by rfl, ?_⟩) ?_ ?_
                    rotate_left
                    · intro w'
                      go_simp
                      with_reducible rfl
                    rotate_left
                    · simp only [Act.put, List.setIfInBounds_toArray, List.set_cons_zero, List.set_cons_succ, i64_w, i32_w]
                      rfl
                    refine take_ (i := 4) (N := some 25) (v := ?_) (a' := ?_) #[true, true, true, true, true, true, false, false] rfl rfl (take_ofW HT_.out HW_.out (by kernel_rfl)) (fun _ _ _ h => h) (Or.inl ⟨by rfl, ?_⟩) hHeld ?_ ?_
                    rotate_left
                    · rintro w' ⟨s0, s1, s2, s3, s4⟩
                      go_simp
                      with_reducible rfl
                    rotate_left
                    · simp only [Act.put, List.setIfInBounds_toArray, List.set_cons_zero, List.set_cons_succ, i64_w, i32_w]
                      rfl
                    refine one_ (i := 6) (N := some 27) #[true, true, true, true, true, true, true, false] rfl rfl (one_of HT_.out (by kernel_rfl)) (by decide) (fun K hK => ?_)
                    refine goes_ Try.func123 (by kernel_rfl) rfl #[.int .i64 (wrap64 (x1_1 + 1))] (by rfl) rfl rfl (by (try simp only [List.map_toArray, List.map_cons, List.map_nil]); first | done | rfl | (simp only [List.length_drop, List.length_take]; rfl)) ?_
                    with_reducible refine (laws_markText.calls k1 (wrap64 (x1_1 + 1)) t1197 _ A6.out).mono ?_
                    rintro e w13 ⟨rfl, hb⟩
                    refine ⟨_, rfl, ?_⟩
                    have n0_ := Aside0.mk (below_step (by repeat (first | (with_reducible first | exact HB.out | apply below_alloc | apply pw_below_drewN | apply below_drew1) | exact HB.out)) hb)
                    clear HB
                    have HB := n0_
                    clear n0_
                    (try clear hb)
                    (try clear hb2)
                    (try clear hk)
                    (try clear hi)
                    refine hK.out _ _ ⟨((HB.out.cell (World.block_lt_of_cell? w _ hw1196_0)).trans hw1196_0), ((HB.out.cell (World.block_lt_of_cell? w _ hw1196_1)).trans hw1196_1), ((HB.out.cell (World.block_lt_of_cell? w _ hw1196_2)).trans hw1196_2), ((HB.out.cell (World.block_lt_of_cell? w _ hw1196_3)).trans hw1196_3), ((HB.out.cell (World.block_lt_of_cell? w _ hw1196_4)).trans hw1196_4)⟩ (fun hHeld => ?_)
                    clear hK K
                    refine norm_ (a' := ?_) ?_ ?_
                    rotate_left
                    · show Act.put _ (some 27) _ = _
                      simp only [Act.put, List.setIfInBounds_toArray, List.set_cons_zero, List.set_cons_succ, i64_w, i32_w]
                      rfl
                    refine pure_ (i := 7) (N := some 28) (v := ?_) (a' := ?_) #[true, true, true, true, true, true, true, true] rfl rfl (any_of HT_.out (by kernel_rfl)) (fun _ _ _ h => h) (Or.inl ⟨by rfl, ?_⟩) ?_ ?_
                    rotate_left
                    · intro w'
                      go_simp
                      with_reducible rfl
                    rotate_left
                    · simp only [Act.put, List.setIfInBounds_toArray, List.set_cons_zero, List.set_cons_succ, i64_w, i32_w]
                      rfl
                    refine done_ (done_of HT_.out (by kernel_rfl)) ?_
                    try go_wp2
                    have n0_ := Aside0.mk (below_drew1 HB.out)
                    clear HB
                    have HB := n0_
                    clear n0_
                    have p1198 : 0 ≤ (x5_1 : Int) := of_decide_eq_true (by first | (with_reducible assumption) | assumption)
                    have q1198 : x5_1 < (l0.length : Int) := of_decide_eq_true (by first | (with_reducible assumption) | assumption)
                    obtain ⟨ad1198, e1198, hx1198_0, hx1198_1, hx1198_2, hx1198_3, hx1198_4⟩ := at_T186 HR0.out x5_1 p1198 q1198
                    have hw1198_4 := hx1198_4
                    have hw1198_3 := hx1198_3
                    have hw1198_2 := hx1198_2
                    have hw1198_1 := hx1198_1
                    have hw1198_0 := hx1198_0
                    obtain rfl : ad1195 = ad1198 := (by injection e1198)
                    replace hx1198_0 := (HB.out.cell (World.block_lt_of_cell? w _ hx1198_0)).trans hx1198_0
                    replace hx1198_1 := (HB.out.cell (World.block_lt_of_cell? w _ hx1198_1)).trans hx1198_1
                    replace hx1198_2 := (HB.out.cell (World.block_lt_of_cell? w _ hx1198_2)).trans hx1198_2
                    replace hx1198_3 := (HB.out.cell (World.block_lt_of_cell? w _ hx1198_3)).trans hx1198_3
                    replace hx1198_4 := (HB.out.cell (World.block_lt_of_cell? w _ hx1198_4)).trans hx1198_4
                    replace p1198 := eq_true p1198
                    replace q1198 := eq_true q1198
                    refine start_ (n := 8) (S := fun w' => w'.cell? (ad1195.add ((x5_1).toNat * 5)) = some (.int .i64 ((rd_T186 l0 x5_1).f0)) ∧ w'.cell? ⟨(ad1195.add ((x5_1).toNat * 5)).block, (ad1195.add ((x5_1).toNat * 5)).off + 1, none⟩ = some (.string ((rd_T186 l0 x5_1).f1)) ∧ w'.cell? ⟨(ad1195.add ((x5_1).toNat * 5)).block, (ad1195.add ((x5_1).toNat * 5)).off + 2, none⟩ = some (.string ((rd_T186 l0 x5_1).f2)) ∧ w'.cell? ⟨(ad1195.add ((x5_1).toNat * 5)).block, (ad1195.add ((x5_1).toNat * 5)).off + 3, none⟩ = some (.int .i64 ((rd_T186 l0 x5_1).f3)) ∧ w'.cell? ⟨(ad1195.add ((x5_1).toNat * 5)).block, (ad1195.add ((x5_1).toNat * 5)).off + 4, none⟩ = some (.int .i64 ((rd_T186 l0 x5_1).f4))) (ds := []) #[false, false, false, false, false, false, false, false] (by kernel_rfl) rfl rfl ⟨((HB.out.cell (World.block_lt_of_cell? w _ hw1198_0)).trans hw1198_0), ((HB.out.cell (World.block_lt_of_cell? w _ hw1198_1)).trans hw1198_1), ((HB.out.cell (World.block_lt_of_cell? w _ hw1198_2)).trans hw1198_2), ((HB.out.cell (World.block_lt_of_cell? w _ hw1198_3)).trans hw1198_3), ((HB.out.cell (World.block_lt_of_cell? w _ hw1198_4)).trans hw1198_4)⟩ (fun hHeld => ?_); refine with_tabW laws_heldTxS.tab10 laws_heldTxS.bits10 (fun HT_ HW_ => ?_)
                    generalize w13.drew = w14 at HB hx1198_0 hx1198_1 hx1198_2 hx1198_3 hx1198_4 hHeld ⊢
                    refine pure_ (i := 0) (N := some 31) (v := ?_) (a' := ?_) #[true, false, false, false, false, false, false, false] rfl rfl (any_of HT_.out (by kernel_rfl)) (fun _ _ _ h => h) (Or.inl ⟨by rfl, ?_⟩) ?_ ?_
                    rotate_left
                    · intro w'
                      go_simp
                      with_reducible rfl
                    rotate_left
                    · simp only [Act.put, List.setIfInBounds_toArray, List.set_cons_zero, List.set_cons_succ, i64_w, i32_w]
                      rfl
                    refine pure_ (i := 1) (N := some 32) (v := ?_) (a' := ?_) #[true, true, false, false, false, false, false, false] rfl rfl (any_of HT_.out (by kernel_rfl)) (fun _ _ _ h => h) (Or.inl ⟨by rfl, ?_⟩) ?_ ?_
                    rotate_left
                    · intro w'
                      go_simp
                      with_reducible rfl
                    rotate_left
                    · simp only [Act.put, List.setIfInBounds_toArray, List.set_cons_zero, List.set_cons_succ, i64_w, i32_w]
                      rfl
                    refine pure_ (i := 2) (N := some 33) (v := ?_) (a' := ?_) #[true, true, true, false, false, false, false, false] rfl rfl (any_of HT_.out (by kernel_rfl)) (fun _ _ _ h => h) (Or.inl ⟨by rfl, ?_⟩) ?_ ?_
                    rotate_left
                    · intro w'
                      go_simp
                      with_reducible rfl
                    rotate_left
                    · simp only [Act.put, List.setIfInBounds_toArray, List.set_cons_zero, List.set_cons_succ, i64_w, i32_w]
                      rfl
                    refine pure_ (i := 3) (N := some 34) (v := ?_) (a' := ?_) #[true, true, true, true, false, false, false, false] rfl rfl (any_of HT_.out (by kernel_rfl)) (fun _ _ _ h => h) (Or.inl ⟨by rfl, ?_⟩) ?_ ?_
                    rotate_left
                    · intro w'
                      go_simp
                      with_reducible rfl
                    rotate_left
                    · simp only [Act.put, List.setIfInBounds_toArray, List.set_cons_zero, List.set_cons_succ, i64_w, i32_w]
                      rfl
                    refine pure_ (i := 5) (N := some 36) (v := ?_) (a' := ?_) #[true, true, true, true, false, true, false, false] rfl rfl (any_of HT_.out (by kernel_rfl)) (fun _ _ _ h => h) (Or.inl ⟨by rfl, ?_⟩) ?_ ?_
                    rotate_left
                    · intro w'
                      go_simp
                      with_reducible rfl
                    rotate_left
                    · simp only [Act.put, List.setIfInBounds_toArray, List.set_cons_zero, List.set_cons_succ, i64_w, i32_w]
                      rfl
                    refine take_ (i := 4) (N := some 35) (v := ?_) (a' := ?_) #[true, true, true, true, true, true, false, false] rfl rfl (take_ofW HT_.out HW_.out (by kernel_rfl)) (fun _ _ _ h => h) (Or.inl ⟨by rfl, ?_⟩) hHeld ?_ ?_
                    rotate_left
                    · rintro w' ⟨s0, s1, s2, s3, s4⟩
                      go_simp
                      with_reducible rfl
                    rotate_left
                    · simp only [Act.put, List.setIfInBounds_toArray, List.set_cons_zero, List.set_cons_succ, i64_w, i32_w]
                      rfl
                    refine one_ (i := 6) (N := some 37) #[true, true, true, true, true, true, true, false] rfl rfl (one_of HT_.out (by kernel_rfl)) (by decide) (fun K hK => ?_)
                    refine goes_ Try.func123 (by kernel_rfl) rfl #[.int .i64 (wrap64 ((wrap64 (x1_1 + 1)) + 1))] (by rfl) rfl rfl (by (try simp only [List.map_toArray, List.map_cons, List.map_nil]); first | done | rfl | (simp only [List.length_drop, List.length_take]; rfl)) ?_
                    with_reducible refine (laws_markText.calls k1 (wrap64 ((wrap64 (x1_1 + 1)) + 1)) t1199 _ A8.out).mono ?_
                    rintro e w15 ⟨rfl, hb⟩
                    refine ⟨_, rfl, ?_⟩
                    have n0_ := Aside0.mk (below_step (by repeat (first | (with_reducible first | exact HB.out | apply below_alloc | apply pw_below_drewN | apply below_drew1) | exact HB.out)) hb)
                    clear HB
                    have HB := n0_
                    clear n0_
                    (try clear hb)
                    (try clear hb2)
                    (try clear hk)
                    (try clear hi)
                    refine hK.out _ _ ⟨((HB.out.cell (World.block_lt_of_cell? w _ hw1198_0)).trans hw1198_0), ((HB.out.cell (World.block_lt_of_cell? w _ hw1198_1)).trans hw1198_1), ((HB.out.cell (World.block_lt_of_cell? w _ hw1198_2)).trans hw1198_2), ((HB.out.cell (World.block_lt_of_cell? w _ hw1198_3)).trans hw1198_3), ((HB.out.cell (World.block_lt_of_cell? w _ hw1198_4)).trans hw1198_4)⟩ (fun hHeld => ?_)
                    clear hK K
                    refine norm_ (a' := ?_) ?_ ?_
                    rotate_left
                    · show Act.put _ (some 37) _ = _
                      simp only [Act.put, List.setIfInBounds_toArray, List.set_cons_zero, List.set_cons_succ, i64_w, i32_w]
                      rfl
                    refine pure_ (i := 7) (N := some 38) (v := ?_) (a' := ?_) #[true, true, true, true, true, true, true, true] rfl rfl (any_of HT_.out (by kernel_rfl)) (fun _ _ _ h => h) (Or.inl ⟨by rfl, ?_⟩) ?_ ?_
                    rotate_left
                    · intro w'
                      go_simp
                      with_reducible rfl
                    rotate_left
                    · simp only [Act.put, List.setIfInBounds_toArray, List.set_cons_zero, List.set_cons_succ, i64_w, i32_w]
                      rfl
                    refine done_ (done_of HT_.out (by kernel_rfl)) ?_
                    have p1200 : 0 ≤ (x5_1 : Int) := of_decide_eq_true (by first | (with_reducible assumption) | assumption)
                    have q1200 : x5_1 < (l0.length : Int) := of_decide_eq_true (by first | (with_reducible assumption) | assumption)
                    obtain ⟨ad1200, e1200, hx1200_0, hx1200_1, hx1200_2, hx1200_3, hx1200_4⟩ := at_T186 HR0.out x5_1 p1200 q1200
                    obtain rfl : ad1195 = ad1200 := (by injection e1200)
                    replace hx1200_0 := (HB.out.cell (World.block_lt_of_cell? w _ hx1200_0)).trans hx1200_0
                    replace hx1200_1 := (HB.out.cell (World.block_lt_of_cell? w _ hx1200_1)).trans hx1200_1
                    replace hx1200_2 := (HB.out.cell (World.block_lt_of_cell? w _ hx1200_2)).trans hx1200_2
                    replace hx1200_3 := (HB.out.cell (World.block_lt_of_cell? w _ hx1200_3)).trans hx1200_3
                    replace hx1200_4 := (HB.out.cell (World.block_lt_of_cell? w _ hx1200_4)).trans hx1200_4
                    replace p1200 := eq_true p1200
                    replace q1200 := eq_true q1200
                    have p1201 : 0 ≤ (x5_1 : Int) := of_decide_eq_true (by first | (with_reducible assumption) | assumption)
                    have q1201 : x5_1 < (l0.length : Int) := of_decide_eq_true (by first | (with_reducible assumption) | assumption)
                    obtain ⟨ad1201, e1201, hx1201_0, hx1201_1, hx1201_2, hx1201_3, hx1201_4⟩ := at_T186 HR0.out x5_1 p1201 q1201
                    obtain rfl : ad1195 = ad1201 := (by injection e1201)
                    replace hx1201_0 := (HB.out.cell (World.block_lt_of_cell? w _ hx1201_0)).trans hx1201_0
                    replace hx1201_1 := (HB.out.cell (World.block_lt_of_cell? w _ hx1201_1)).trans hx1201_1
                    replace hx1201_2 := (HB.out.cell (World.block_lt_of_cell? w _ hx1201_2)).trans hx1201_2
                    replace hx1201_3 := (HB.out.cell (World.block_lt_of_cell? w _ hx1201_3)).trans hx1201_3
                    replace hx1201_4 := (HB.out.cell (World.block_lt_of_cell? w _ hx1201_4)).trans hx1201_4
                    replace p1201 := eq_true p1201
                    replace q1201 := eq_true q1201
                    try go_wp2
                    go_roundg k1
                    case measure => have := HK1.out; omega
                    case rel => exact ⟨(wrap64 ((wrap64 ((wrap64 ((wrap64 ((wrap64 (x1_1 + 1)) + 1)) + 1)) + 1)) + 1)), (wrap64 (x5_1 + 1)), (by first | rfl | (simp; done) | (simp [*]; done)), (by first | rfl | (simp; done) | (simp [*]; done)), H', ⟨by have := HK1.out; omega⟩, ⟨by repeat (first | (with_reducible first | exact HB.out | apply below_alloc | apply pw_below_drewN | apply below_drew1) | exact HB.out)⟩⟩
                  · rw [if_neg c11] at H
                    have c11b0 : (((rd_T186 l0 x5_1).f4) == (wrap64 ((wrap64 ((wrap64 ((wrap64 (x1_1 + 1)) + 1)) + 1)) + 1))) = false := beq_eq_false_iff_ne.mpr c11
                    have c11b1 : (((rd_T186 l0 x5_1).f4) != (wrap64 ((wrap64 ((wrap64 ((wrap64 (x1_1 + 1)) + 1)) + 1)) + 1))) = true := bne_iff_ne.mpr c11
                    obtain rfl := Option.some.inj H
                    have p1195 : 0 ≤ (x5_1 : Int) := of_decide_eq_true (by first | (with_reducible assumption) | assumption)
                    have q1195 : x5_1 < (l0.length : Int) := of_decide_eq_true (by first | (with_reducible assumption) | assumption)
                    obtain ⟨ad1195, e1195, hx1195_0, hx1195_1, hx1195_2, hx1195_3, hx1195_4⟩ := at_T186 HR0.out x5_1 p1195 q1195
                    cases e1195
                    replace hx1195_0 := (HB.out.cell (World.block_lt_of_cell? w _ hx1195_0)).trans hx1195_0
                    replace hx1195_1 := (HB.out.cell (World.block_lt_of_cell? w _ hx1195_1)).trans hx1195_1
                    replace hx1195_2 := (HB.out.cell (World.block_lt_of_cell? w _ hx1195_2)).trans hx1195_2
                    replace hx1195_3 := (HB.out.cell (World.block_lt_of_cell? w _ hx1195_3)).trans hx1195_3
                    replace hx1195_4 := (HB.out.cell (World.block_lt_of_cell? w _ hx1195_4)).trans hx1195_4
                    replace p1195 := eq_true p1195
                    replace q1195 := eq_true q1195
                    try go_wp2
                    have n0_ := Aside0.mk (below_drew1 HB.out)
                    clear HB
                    have HB := n0_
                    clear n0_
                    have p1196 : 0 ≤ (x5_1 : Int) := of_decide_eq_true (by first | (with_reducible assumption) | assumption)
                    have q1196 : x5_1 < (l0.length : Int) := of_decide_eq_true (by first | (with_reducible assumption) | assumption)
                    obtain ⟨ad1196, e1196, hx1196_0, hx1196_1, hx1196_2, hx1196_3, hx1196_4⟩ := at_T186 HR0.out x5_1 p1196 q1196
                    have hw1196_4 := hx1196_4
                    have hw1196_3 := hx1196_3
                    have hw1196_2 := hx1196_2
                    have hw1196_1 := hx1196_1
                    have hw1196_0 := hx1196_0
                    obtain rfl : ad1195 = ad1196 := (by injection e1196)
                    replace hx1196_0 := (HB.out.cell (World.block_lt_of_cell? w _ hx1196_0)).trans hx1196_0
                    replace hx1196_1 := (HB.out.cell (World.block_lt_of_cell? w _ hx1196_1)).trans hx1196_1
                    replace hx1196_2 := (HB.out.cell (World.block_lt_of_cell? w _ hx1196_2)).trans hx1196_2
                    replace hx1196_3 := (HB.out.cell (World.block_lt_of_cell? w _ hx1196_3)).trans hx1196_3
                    replace hx1196_4 := (HB.out.cell (World.block_lt_of_cell? w _ hx1196_4)).trans hx1196_4
                    replace p1196 := eq_true p1196
                    replace q1196 := eq_true q1196
                    refine start_ (n := 8) (S := fun w' => w'.cell? (ad1195.add ((x5_1).toNat * 5)) = some (.int .i64 ((rd_T186 l0 x5_1).f0)) ∧ w'.cell? ⟨(ad1195.add ((x5_1).toNat * 5)).block, (ad1195.add ((x5_1).toNat * 5)).off + 1, none⟩ = some (.string ((rd_T186 l0 x5_1).f1)) ∧ w'.cell? ⟨(ad1195.add ((x5_1).toNat * 5)).block, (ad1195.add ((x5_1).toNat * 5)).off + 2, none⟩ = some (.string ((rd_T186 l0 x5_1).f2)) ∧ w'.cell? ⟨(ad1195.add ((x5_1).toNat * 5)).block, (ad1195.add ((x5_1).toNat * 5)).off + 3, none⟩ = some (.int .i64 ((rd_T186 l0 x5_1).f3)) ∧ w'.cell? ⟨(ad1195.add ((x5_1).toNat * 5)).block, (ad1195.add ((x5_1).toNat * 5)).off + 4, none⟩ = some (.int .i64 ((rd_T186 l0 x5_1).f4))) (ds := []) #[false, false, false, false, false, false, false, false] (by kernel_rfl) rfl rfl ⟨((HB.out.cell (World.block_lt_of_cell? w _ hw1196_0)).trans hw1196_0), ((HB.out.cell (World.block_lt_of_cell? w _ hw1196_1)).trans hw1196_1), ((HB.out.cell (World.block_lt_of_cell? w _ hw1196_2)).trans hw1196_2), ((HB.out.cell (World.block_lt_of_cell? w _ hw1196_3)).trans hw1196_3), ((HB.out.cell (World.block_lt_of_cell? w _ hw1196_4)).trans hw1196_4)⟩ (fun hHeld => ?_); refine with_tabW laws_heldTxS.tab7 laws_heldTxS.bits7 (fun HT_ HW_ => ?_)
                    generalize wr.drew = w16 at HB hx1196_0 hx1196_1 hx1196_2 hx1196_3 hx1196_4 hHeld ⊢
                    refine pure_ (i := 0) (N := some 21) (v := ?_) (a' := ?_) #[true, false, false, false, false, false, false, false] rfl rfl (any_of HT_.out (by kernel_rfl)) (fun _ _ _ h => h) (Or.inl ⟨by rfl, ?_⟩) ?_ ?_
                    rotate_left
                    · intro w'
                      go_simp
                      with_reducible rfl
                    rotate_left
                    · simp only [Act.put, List.setIfInBounds_toArray, List.set_cons_zero, List.set_cons_succ, i64_w, i32_w]
                      rfl
                    refine pure_ (i := 1) (N := some 22) (v := ?_) (a' := ?_) #[true, true, false, false, false, false, false, false] rfl rfl (any_of HT_.out (by kernel_rfl)) (fun _ _ _ h => h) (Or.inl ⟨by rfl, ?_⟩) ?_ ?_
                    rotate_left
                    · intro w'
                      go_simp
                      with_reducible rfl
                    rotate_left
                    · simp only [Act.put, List.setIfInBounds_toArray, List.set_cons_zero, List.set_cons_succ, i64_w, i32_w]
                      rfl
                    refine pure_ (i := 2) (N := some 23) (v := ?_) (a' := ?_) #[true, true, true, false, false, false, false, false] rfl rfl (any_of HT_.out (by kernel_rfl)) (fun _ _ _ h => h) (Or.inl ⟨by rfl, ?_⟩) ?_ ?_
                    rotate_left
                    · intro w'
                      go_simp
                      with_reducible rfl
                    rotate_left
                    · simp only [Act.put, List.setIfInBounds_toArray, List.set_cons_zero, List.set_cons_succ, i64_w, i32_w]
                      rfl
                    refine pure_ (i := 3) (N := some 24) (v := ?_) (a' := ?_) #[true, true, true, true, false, false, false, false] rfl rfl (any_of HT_.out (by kernel_rfl)) (fun _ _ _ h => h) (Or.inl ⟨by rfl, ?_⟩) ?_ ?_
                    rotate_left
                    · intro w'
                      go_simp
                      with_reducible rfl
                    rotate_left
                    · simp only [Act.put, List.setIfInBounds_toArray, List.set_cons_zero, List.set_cons_succ, i64_w, i32_w]
                      rfl
                    refine pure_ (i := 5) (N := some 26) (v := ?_) (a' := ?_) #[true, true, true, true, false, true, false, false] rfl rfl (any_of HT_.out (by kernel_rfl)) (fun _ _ _ h => h) (Or.inl ⟨by rfl, ?_⟩) ?_ ?_
                    rotate_left
                    · intro w'
                      go_simp
                      with_reducible rfl
                    rotate_left
                    · simp only [Act.put, List.setIfInBounds_toArray, List.set_cons_zero, List.set_cons_succ, i64_w, i32_w]
                      rfl
                    refine take_ (i := 4) (N := some 25) (v := ?_) (a' := ?_) #[true, true, true, true, true, true, false, false] rfl rfl (take_ofW HT_.out HW_.out (by kernel_rfl)) (fun _ _ _ h => h) (Or.inl ⟨by rfl, ?_⟩) hHeld ?_ ?_
                    rotate_left
                    · rintro w' ⟨s0, s1, s2, s3, s4⟩
                      go_simp
                      with_reducible rfl
                    rotate_left
                    · simp only [Act.put, List.setIfInBounds_toArray, List.set_cons_zero, List.set_cons_succ, i64_w, i32_w]
                      rfl
                    refine one_ (i := 6) (N := some 27) #[true, true, true, true, true, true, true, false] rfl rfl (one_of HT_.out (by kernel_rfl)) (by decide) (fun K hK => ?_)
                    refine goes_ Try.func123 (by kernel_rfl) rfl #[.int .i64 (wrap64 (x1_1 + 1))] (by rfl) rfl rfl (by (try simp only [List.map_toArray, List.map_cons, List.map_nil]); first | done | rfl | (simp only [List.length_drop, List.length_take]; rfl)) ?_
                    with_reducible refine (laws_markText.calls k1 (wrap64 (x1_1 + 1)) t1197 _ A6.out).mono ?_
                    rintro e w17 ⟨rfl, hb⟩
                    refine ⟨_, rfl, ?_⟩
                    have n0_ := Aside0.mk (below_step (by repeat (first | (with_reducible first | exact HB.out | apply below_alloc | apply pw_below_drewN | apply below_drew1) | exact HB.out)) hb)
                    clear HB
                    have HB := n0_
                    clear n0_
                    (try clear hb)
                    (try clear hb2)
                    (try clear hk)
                    (try clear hi)
                    refine hK.out _ _ ⟨((HB.out.cell (World.block_lt_of_cell? w _ hw1196_0)).trans hw1196_0), ((HB.out.cell (World.block_lt_of_cell? w _ hw1196_1)).trans hw1196_1), ((HB.out.cell (World.block_lt_of_cell? w _ hw1196_2)).trans hw1196_2), ((HB.out.cell (World.block_lt_of_cell? w _ hw1196_3)).trans hw1196_3), ((HB.out.cell (World.block_lt_of_cell? w _ hw1196_4)).trans hw1196_4)⟩ (fun hHeld => ?_)
                    clear hK K
                    refine norm_ (a' := ?_) ?_ ?_
                    rotate_left
                    · show Act.put _ (some 27) _ = _
                      simp only [Act.put, List.setIfInBounds_toArray, List.set_cons_zero, List.set_cons_succ, i64_w, i32_w]
                      rfl
                    refine pure_ (i := 7) (N := some 28) (v := ?_) (a' := ?_) #[true, true, true, true, true, true, true, true] rfl rfl (any_of HT_.out (by kernel_rfl)) (fun _ _ _ h => h) (Or.inl ⟨by rfl, ?_⟩) ?_ ?_
                    rotate_left
                    · intro w'
                      go_simp
                      with_reducible rfl
                    rotate_left
                    · simp only [Act.put, List.setIfInBounds_toArray, List.set_cons_zero, List.set_cons_succ, i64_w, i32_w]
                      rfl
                    refine done_ (done_of HT_.out (by kernel_rfl)) ?_
                    try go_wp2
                    have n0_ := Aside0.mk (below_drew1 HB.out)
                    clear HB
                    have HB := n0_
                    clear n0_
                    have p1198 : 0 ≤ (x5_1 : Int) := of_decide_eq_true (by first | (with_reducible assumption) | assumption)
                    have q1198 : x5_1 < (l0.length : Int) := of_decide_eq_true (by first | (with_reducible assumption) | assumption)
                    obtain ⟨ad1198, e1198, hx1198_0, hx1198_1, hx1198_2, hx1198_3, hx1198_4⟩ := at_T186 HR0.out x5_1 p1198 q1198
                    have hw1198_4 := hx1198_4
                    have hw1198_3 := hx1198_3
                    have hw1198_2 := hx1198_2
                    have hw1198_1 := hx1198_1
                    have hw1198_0 := hx1198_0
                    obtain rfl : ad1195 = ad1198 := (by injection e1198)
                    replace hx1198_0 := (HB.out.cell (World.block_lt_of_cell? w _ hx1198_0)).trans hx1198_0
                    replace hx1198_1 := (HB.out.cell (World.block_lt_of_cell? w _ hx1198_1)).trans hx1198_1
                    replace hx1198_2 := (HB.out.cell (World.block_lt_of_cell? w _ hx1198_2)).trans hx1198_2
                    replace hx1198_3 := (HB.out.cell (World.block_lt_of_cell? w _ hx1198_3)).trans hx1198_3
                    replace hx1198_4 := (HB.out.cell (World.block_lt_of_cell? w _ hx1198_4)).trans hx1198_4
                    replace p1198 := eq_true p1198
                    replace q1198 := eq_true q1198
                    refine start_ (n := 8) (S := fun w' => w'.cell? (ad1195.add ((x5_1).toNat * 5)) = some (.int .i64 ((rd_T186 l0 x5_1).f0)) ∧ w'.cell? ⟨(ad1195.add ((x5_1).toNat * 5)).block, (ad1195.add ((x5_1).toNat * 5)).off + 1, none⟩ = some (.string ((rd_T186 l0 x5_1).f1)) ∧ w'.cell? ⟨(ad1195.add ((x5_1).toNat * 5)).block, (ad1195.add ((x5_1).toNat * 5)).off + 2, none⟩ = some (.string ((rd_T186 l0 x5_1).f2)) ∧ w'.cell? ⟨(ad1195.add ((x5_1).toNat * 5)).block, (ad1195.add ((x5_1).toNat * 5)).off + 3, none⟩ = some (.int .i64 ((rd_T186 l0 x5_1).f3)) ∧ w'.cell? ⟨(ad1195.add ((x5_1).toNat * 5)).block, (ad1195.add ((x5_1).toNat * 5)).off + 4, none⟩ = some (.int .i64 ((rd_T186 l0 x5_1).f4))) (ds := []) #[false, false, false, false, false, false, false, false] (by kernel_rfl) rfl rfl ⟨((HB.out.cell (World.block_lt_of_cell? w _ hw1198_0)).trans hw1198_0), ((HB.out.cell (World.block_lt_of_cell? w _ hw1198_1)).trans hw1198_1), ((HB.out.cell (World.block_lt_of_cell? w _ hw1198_2)).trans hw1198_2), ((HB.out.cell (World.block_lt_of_cell? w _ hw1198_3)).trans hw1198_3), ((HB.out.cell (World.block_lt_of_cell? w _ hw1198_4)).trans hw1198_4)⟩ (fun hHeld => ?_); refine with_tabW laws_heldTxS.tab10 laws_heldTxS.bits10 (fun HT_ HW_ => ?_)
                    generalize w17.drew = w18 at HB hx1198_0 hx1198_1 hx1198_2 hx1198_3 hx1198_4 hHeld ⊢
                    refine pure_ (i := 0) (N := some 31) (v := ?_) (a' := ?_) #[true, false, false, false, false, false, false, false] rfl rfl (any_of HT_.out (by kernel_rfl)) (fun _ _ _ h => h) (Or.inl ⟨by rfl, ?_⟩) ?_ ?_
                    rotate_left
                    · intro w'
                      go_simp
                      with_reducible rfl
                    rotate_left
                    · simp only [Act.put, List.setIfInBounds_toArray, List.set_cons_zero, List.set_cons_succ, i64_w, i32_w]
                      rfl
                    refine pure_ (i := 1) (N := some 32) (v := ?_) (a' := ?_) #[true, true, false, false, false, false, false, false] rfl rfl (any_of HT_.out (by kernel_rfl)) (fun _ _ _ h => h) (Or.inl ⟨by rfl, ?_⟩) ?_ ?_
                    rotate_left
                    · intro w'
                      go_simp
                      with_reducible rfl
                    rotate_left
                    · simp only [Act.put, List.setIfInBounds_toArray, List.set_cons_zero, List.set_cons_succ, i64_w, i32_w]
                      rfl
                    refine pure_ (i := 2) (N := some 33) (v := ?_) (a' := ?_) #[true, true, true, false, false, false, false, false] rfl rfl (any_of HT_.out (by kernel_rfl)) (fun _ _ _ h => h) (Or.inl ⟨by rfl, ?_⟩) ?_ ?_
                    rotate_left
                    · intro w'
                      go_simp
                      with_reducible rfl
                    rotate_left
                    · simp only [Act.put, List.setIfInBounds_toArray, List.set_cons_zero, List.set_cons_succ, i64_w, i32_w]
                      rfl
                    refine pure_ (i := 3) (N := some 34) (v := ?_) (a' := ?_) #[true, true, true, true, false, false, false, false] rfl rfl (any_of HT_.out (by kernel_rfl)) (fun _ _ _ h => h) (Or.inl ⟨by rfl, ?_⟩) ?_ ?_
                    rotate_left
                    · intro w'
                      go_simp
                      with_reducible rfl
                    rotate_left
                    · simp only [Act.put, List.setIfInBounds_toArray, List.set_cons_zero, List.set_cons_succ, i64_w, i32_w]
                      rfl
                    refine pure_ (i := 5) (N := some 36) (v := ?_) (a' := ?_) #[true, true, true, true, false, true, false, false] rfl rfl (any_of HT_.out (by kernel_rfl)) (fun _ _ _ h => h) (Or.inl ⟨by rfl, ?_⟩) ?_ ?_
                    rotate_left
                    · intro w'
                      go_simp
                      with_reducible rfl
                    rotate_left
                    · simp only [Act.put, List.setIfInBounds_toArray, List.set_cons_zero, List.set_cons_succ, i64_w, i32_w]
                      rfl
                    refine take_ (i := 4) (N := some 35) (v := ?_) (a' := ?_) #[true, true, true, true, true, true, false, false] rfl rfl (take_ofW HT_.out HW_.out (by kernel_rfl)) (fun _ _ _ h => h) (Or.inl ⟨by rfl, ?_⟩) hHeld ?_ ?_
                    rotate_left
                    · rintro w' ⟨s0, s1, s2, s3, s4⟩
                      go_simp
                      with_reducible rfl
                    rotate_left
                    · simp only [Act.put, List.setIfInBounds_toArray, List.set_cons_zero, List.set_cons_succ, i64_w, i32_w]
                      rfl
                    refine one_ (i := 6) (N := some 37) #[true, true, true, true, true, true, true, false] rfl rfl (one_of HT_.out (by kernel_rfl)) (by decide) (fun K hK => ?_)
                    refine goes_ Try.func123 (by kernel_rfl) rfl #[.int .i64 (wrap64 ((wrap64 (x1_1 + 1)) + 1))] (by rfl) rfl rfl (by (try simp only [List.map_toArray, List.map_cons, List.map_nil]); first | done | rfl | (simp only [List.length_drop, List.length_take]; rfl)) ?_
                    with_reducible refine (laws_markText.calls k1 (wrap64 ((wrap64 (x1_1 + 1)) + 1)) t1199 _ A8.out).mono ?_
                    rintro e w19 ⟨rfl, hb⟩
                    refine ⟨_, rfl, ?_⟩
                    have n0_ := Aside0.mk (below_step (by repeat (first | (with_reducible first | exact HB.out | apply below_alloc | apply pw_below_drewN | apply below_drew1) | exact HB.out)) hb)
                    clear HB
                    have HB := n0_
                    clear n0_
                    (try clear hb)
                    (try clear hb2)
                    (try clear hk)
                    (try clear hi)
                    refine hK.out _ _ ⟨((HB.out.cell (World.block_lt_of_cell? w _ hw1198_0)).trans hw1198_0), ((HB.out.cell (World.block_lt_of_cell? w _ hw1198_1)).trans hw1198_1), ((HB.out.cell (World.block_lt_of_cell? w _ hw1198_2)).trans hw1198_2), ((HB.out.cell (World.block_lt_of_cell? w _ hw1198_3)).trans hw1198_3), ((HB.out.cell (World.block_lt_of_cell? w _ hw1198_4)).trans hw1198_4)⟩ (fun hHeld => ?_)
                    clear hK K
                    refine norm_ (a' := ?_) ?_ ?_
                    rotate_left
                    · show Act.put _ (some 37) _ = _
                      simp only [Act.put, List.setIfInBounds_toArray, List.set_cons_zero, List.set_cons_succ, i64_w, i32_w]
                      rfl
                    refine pure_ (i := 7) (N := some 38) (v := ?_) (a' := ?_) #[true, true, true, true, true, true, true, true] rfl rfl (any_of HT_.out (by kernel_rfl)) (fun _ _ _ h => h) (Or.inl ⟨by rfl, ?_⟩) ?_ ?_
                    rotate_left
                    · intro w'
                      go_simp
                      with_reducible rfl
                    rotate_left
                    · simp only [Act.put, List.setIfInBounds_toArray, List.set_cons_zero, List.set_cons_succ, i64_w, i32_w]
                      rfl
                    refine done_ (done_of HT_.out (by kernel_rfl)) ?_
                    have p1200 : 0 ≤ (x5_1 : Int) := of_decide_eq_true (by first | (with_reducible assumption) | assumption)
                    have q1200 : x5_1 < (l0.length : Int) := of_decide_eq_true (by first | (with_reducible assumption) | assumption)
                    obtain ⟨ad1200, e1200, hx1200_0, hx1200_1, hx1200_2, hx1200_3, hx1200_4⟩ := at_T186 HR0.out x5_1 p1200 q1200
                    obtain rfl : ad1195 = ad1200 := (by injection e1200)
                    replace hx1200_0 := (HB.out.cell (World.block_lt_of_cell? w _ hx1200_0)).trans hx1200_0
                    replace hx1200_1 := (HB.out.cell (World.block_lt_of_cell? w _ hx1200_1)).trans hx1200_1
                    replace hx1200_2 := (HB.out.cell (World.block_lt_of_cell? w _ hx1200_2)).trans hx1200_2
                    replace hx1200_3 := (HB.out.cell (World.block_lt_of_cell? w _ hx1200_3)).trans hx1200_3
                    replace hx1200_4 := (HB.out.cell (World.block_lt_of_cell? w _ hx1200_4)).trans hx1200_4
                    replace p1200 := eq_true p1200
                    replace q1200 := eq_true q1200
                    have p1201 : 0 ≤ (x5_1 : Int) := of_decide_eq_true (by first | (with_reducible assumption) | assumption)
                    have q1201 : x5_1 < (l0.length : Int) := of_decide_eq_true (by first | (with_reducible assumption) | assumption)
                    obtain ⟨ad1201, e1201, hx1201_0, hx1201_1, hx1201_2, hx1201_3, hx1201_4⟩ := at_T186 HR0.out x5_1 p1201 q1201
                    obtain rfl : ad1195 = ad1201 := (by injection e1201)
                    replace hx1201_0 := (HB.out.cell (World.block_lt_of_cell? w _ hx1201_0)).trans hx1201_0
                    replace hx1201_1 := (HB.out.cell (World.block_lt_of_cell? w _ hx1201_1)).trans hx1201_1
                    replace hx1201_2 := (HB.out.cell (World.block_lt_of_cell? w _ hx1201_2)).trans hx1201_2
                    replace hx1201_3 := (HB.out.cell (World.block_lt_of_cell? w _ hx1201_3)).trans hx1201_3
                    replace hx1201_4 := (HB.out.cell (World.block_lt_of_cell? w _ hx1201_4)).trans hx1201_4
                    replace p1201 := eq_true p1201
                    replace q1201 := eq_true q1201
                    try go_wp2
                    go_ret
                    exact ⟨by first | rfl | (simp [errW_none, errW_some] <;> rfl) | (simp [*, errW_none, errW_some] <;> rfl), by repeat (first | (with_reducible first | exact HB.out | apply below_alloc | apply pw_below_drewN | apply below_drew1) | exact HB.out)⟩
                · rw [if_neg c10] at H
                  have c10b0 : (((rd_T186 l0 x5_1).f3) == (wrap64 ((wrap64 ((wrap64 (x1_1 + 1)) + 1)) + 1))) = false := beq_eq_false_iff_ne.mpr c10
                  have c10b1 : (((rd_T186 l0 x5_1).f3) != (wrap64 ((wrap64 ((wrap64 (x1_1 + 1)) + 1)) + 1))) = true := bne_iff_ne.mpr c10
                  obtain rfl := Option.some.inj H
                  have p1195 : 0 ≤ (x5_1 : Int) := of_decide_eq_true (by first | (with_reducible assumption) | assumption)
                  have q1195 : x5_1 < (l0.length : Int) := of_decide_eq_true (by first | (with_reducible assumption) | assumption)
                  obtain ⟨ad1195, e1195, hx1195_0, hx1195_1, hx1195_2, hx1195_3, hx1195_4⟩ := at_T186 HR0.out x5_1 p1195 q1195
                  cases e1195
                  replace hx1195_0 := (HB.out.cell (World.block_lt_of_cell? w _ hx1195_0)).trans hx1195_0
                  replace hx1195_1 := (HB.out.cell (World.block_lt_of_cell? w _ hx1195_1)).trans hx1195_1
                  replace hx1195_2 := (HB.out.cell (World.block_lt_of_cell? w _ hx1195_2)).trans hx1195_2
                  replace hx1195_3 := (HB.out.cell (World.block_lt_of_cell? w _ hx1195_3)).trans hx1195_3
                  replace hx1195_4 := (HB.out.cell (World.block_lt_of_cell? w _ hx1195_4)).trans hx1195_4
                  replace p1195 := eq_true p1195
                  replace q1195 := eq_true q1195
                  try go_wp2
                  have n0_ := Aside0.mk (below_drew1 HB.out)
                  clear HB
                  have HB := n0_
                  clear n0_
                  have p1196 : 0 ≤ (x5_1 : Int) := of_decide_eq_true (by first | (with_reducible assumption) | assumption)
                  have q1196 : x5_1 < (l0.length : Int) := of_decide_eq_true (by first | (with_reducible assumption) | assumption)
                  obtain ⟨ad1196, e1196, hx1196_0, hx1196_1, hx1196_2, hx1196_3, hx1196_4⟩ := at_T186 HR0.out x5_1 p1196 q1196
                  have hw1196_4 := hx1196_4
                  have hw1196_3 := hx1196_3
                  have hw1196_2 := hx1196_2
                  have hw1196_1 := hx1196_1
                  have hw1196_0 := hx1196_0
                  obtain rfl : ad1195 = ad1196 := (by injection e1196)
                  replace hx1196_0 := (HB.out.cell (World.block_lt_of_cell? w _ hx1196_0)).trans hx1196_0
                  replace hx1196_1 := (HB.out.cell (World.block_lt_of_cell? w _ hx1196_1)).trans hx1196_1
                  replace hx1196_2 := (HB.out.cell (World.block_lt_of_cell? w _ hx1196_2)).trans hx1196_2
                  replace hx1196_3 := (HB.out.cell (World.block_lt_of_cell? w _ hx1196_3)).trans hx1196_3
                  replace hx1196_4 := (HB.out.cell (World.block_lt_of_cell? w _ hx1196_4)).trans hx1196_4
                  replace p1196 := eq_true p1196
                  replace q1196 := eq_true q1196
                  refine start_ (n := 8) (S := fun w' => w'.cell? (ad1195.add ((x5_1).toNat * 5)) = some (.int .i64 ((rd_T186 l0 x5_1).f0)) ∧ w'.cell? ⟨(ad1195.add ((x5_1).toNat * 5)).block, (ad1195.add ((x5_1).toNat * 5)).off + 1, none⟩ = some (.string ((rd_T186 l0 x5_1).f1)) ∧ w'.cell? ⟨(ad1195.add ((x5_1).toNat * 5)).block, (ad1195.add ((x5_1).toNat * 5)).off + 2, none⟩ = some (.string ((rd_T186 l0 x5_1).f2)) ∧ w'.cell? ⟨(ad1195.add ((x5_1).toNat * 5)).block, (ad1195.add ((x5_1).toNat * 5)).off + 3, none⟩ = some (.int .i64 ((rd_T186 l0 x5_1).f3)) ∧ w'.cell? ⟨(ad1195.add ((x5_1).toNat * 5)).block, (ad1195.add ((x5_1).toNat * 5)).off + 4, none⟩ = some (.int .i64 ((rd_T186 l0 x5_1).f4))) (ds := []) #[false, false, false, false, false, false, false, false] (by kernel_rfl) rfl rfl ⟨((HB.out.cell (World.block_lt_of_cell? w _ hw1196_0)).trans hw1196_0), ((HB.out.cell (World.block_lt_of_cell? w _ hw1196_1)).trans hw1196_1), ((HB.out.cell (World.block_lt_of_cell? w _ hw1196_2)).trans hw1196_2), ((HB.out.cell (World.block_lt_of_cell? w _ hw1196_3)).trans hw1196_3), ((HB.out.cell (World.block_lt_of_cell? w _ hw1196_4)).trans hw1196_4)⟩ (fun hHeld => ?_); refine with_tabW laws_heldTxS.tab7 laws_heldTxS.bits7 (fun HT_ HW_ => ?_)
                  generalize wr.drew = w20 at HB hx1196_0 hx1196_1 hx1196_2 hx1196_3 hx1196_4 hHeld ⊢
                  refine pure_ (i := 0) (N := some 21) (v := ?_) (a' := ?_) #[true, false, false, false, false, false, false, false] rfl rfl (any_of HT_.out (by kernel_rfl)) (fun _ _ _ h => h) (Or.inl ⟨by rfl, ?_⟩) ?_ ?_
                  rotate_left
                  · intro w'
                    go_simp
                    with_reducible rfl
                  rotate_left
                  · simp only [Act.put, List.setIfInBounds_toArray, List.set_cons_zero, List.set_cons_succ, i64_w, i32_w]
                    rfl
                  refine pure_ (i := 1) (N := some 22) (v := ?_) (a' := ?_) #[true, true, false, false, false, false, false, false] rfl rfl (any_of HT_.out (by kernel_rfl)) (fun _ _ _ h => h) (Or.inl ⟨by rfl, ?_⟩) ?_ ?_
                  rotate_left
                  · intro w'
                    go_simp
                    with_reducible rfl
                  rotate_left
                  · simp only [Act.put, List.setIfInBounds_toArray, List.set_cons_zero, List.set_cons_succ, i64_w, i32_w]
                    rfl
                  refine pure_ (i := 2) (N := some 23) (v := ?_) (a' := ?_) #[true, true, true, false, false, false, false, false] rfl rfl (any_of HT_.out (by kernel_rfl)) (fun _ _ _ h => h) (Or.inl ⟨by rfl, ?_⟩) ?_ ?_
                  rotate_left
                  · intro w'
                    go_simp
                    with_reducible rfl
                  rotate_left
                  · simp only [Act.put, List.setIfInBounds_toArray, List.set_cons_zero, List.set_cons_succ, i64_w, i32_w]
                    rfl
                  refine pure_ (i := 3) (N := some 24) (v := ?_) (a' := ?_) #[true, true, true, true, false, false, false, false] rfl rfl (any_of HT_.out (by kernel_rfl)) (fun _ _ _ h => h) (Or.inl ⟨by rfl, ?_⟩) ?_ ?_
                  rotate_left
                  · intro w'
                    go_simp
                    with_reducible rfl
                  rotate_left
                  · simp only [Act.put, List.setIfInBounds_toArray, List.set_cons_zero, List.set_cons_succ, i64_w, i32_w]
                    rfl
                  refine pure_ (i := 5) (N := some 26) (v := ?_) (a' := ?_) #[true, true, true, true, false, true, false, false] rfl rfl (any_of HT_.out (by kernel_rfl)) (fun _ _ _ h => h) (Or.inl ⟨by rfl, ?_⟩) ?_ ?_
                  rotate_left
                  · intro w'
                    go_simp
                    with_reducible rfl
                  rotate_left
                  · simp only [Act.put, List.setIfInBounds_toArray, List.set_cons_zero, List.set_cons_succ, i64_w, i32_w]
                    rfl
                  refine take_ (i := 4) (N := some 25) (v := ?_) (a' := ?_) #[true, true, true, true, true, true, false, false] rfl rfl (take_ofW HT_.out HW_.out (by kernel_rfl)) (fun _ _ _ h => h) (Or.inl ⟨by rfl, ?_⟩) hHeld ?_ ?_
                  rotate_left
                  · rintro w' ⟨s0, s1, s2, s3, s4⟩
                    go_simp
                    with_reducible rfl
                  rotate_left
                  · simp only [Act.put, List.setIfInBounds_toArray, List.set_cons_zero, List.set_cons_succ, i64_w, i32_w]
                    rfl
                  refine one_ (i := 6) (N := some 27) #[true, true, true, true, true, true, true, false] rfl rfl (one_of HT_.out (by kernel_rfl)) (by decide) (fun K hK => ?_)
                  refine goes_ Try.func123 (by kernel_rfl) rfl #[.int .i64 (wrap64 (x1_1 + 1))] (by rfl) rfl rfl (by (try simp only [List.map_toArray, List.map_cons, List.map_nil]); first | done | rfl | (simp only [List.length_drop, List.length_take]; rfl)) ?_
                  with_reducible refine (laws_markText.calls k1 (wrap64 (x1_1 + 1)) t1197 _ A6.out).mono ?_
                  rintro e w21 ⟨rfl, hb⟩
                  refine ⟨_, rfl, ?_⟩
                  have n0_ := Aside0.mk (below_step (by repeat (first | (with_reducible first | exact HB.out | apply below_alloc | apply pw_below_drewN | apply below_drew1) | exact HB.out)) hb)
                  clear HB
                  have HB := n0_
                  clear n0_
                  (try clear hb)
                  (try clear hb2)
                  (try clear hk)
                  (try clear hi)
                  refine hK.out _ _ ⟨((HB.out.cell (World.block_lt_of_cell? w _ hw1196_0)).trans hw1196_0), ((HB.out.cell (World.block_lt_of_cell? w _ hw1196_1)).trans hw1196_1), ((HB.out.cell (World.block_lt_of_cell? w _ hw1196_2)).trans hw1196_2), ((HB.out.cell (World.block_lt_of_cell? w _ hw1196_3)).trans hw1196_3), ((HB.out.cell (World.block_lt_of_cell? w _ hw1196_4)).trans hw1196_4)⟩ (fun hHeld => ?_)
                  clear hK K
                  refine norm_ (a' := ?_) ?_ ?_
                  rotate_left
                  · show Act.put _ (some 27) _ = _
                    simp only [Act.put, List.setIfInBounds_toArray, List.set_cons_zero, List.set_cons_succ, i64_w, i32_w]
                    rfl
                  refine pure_ (i := 7) (N := some 28) (v := ?_) (a' := ?_) #[true, true, true, true, true, true, true, true] rfl rfl (any_of HT_.out (by kernel_rfl)) (fun _ _ _ h => h) (Or.inl ⟨by rfl, ?_⟩) ?_ ?_
                  rotate_left
                  · intro w'
                    go_simp
                    with_reducible rfl
                  rotate_left
                  · simp only [Act.put, List.setIfInBounds_toArray, List.set_cons_zero, List.set_cons_succ, i64_w, i32_w]
                    rfl
                  refine done_ (done_of HT_.out (by kernel_rfl)) ?_
                  try go_wp2
                  have n0_ := Aside0.mk (below_drew1 HB.out)
                  clear HB
                  have HB := n0_
                  clear n0_
                  have p1198 : 0 ≤ (x5_1 : Int) := of_decide_eq_true (by first | (with_reducible assumption) | assumption)
                  have q1198 : x5_1 < (l0.length : Int) := of_decide_eq_true (by first | (with_reducible assumption) | assumption)
                  obtain ⟨ad1198, e1198, hx1198_0, hx1198_1, hx1198_2, hx1198_3, hx1198_4⟩ := at_T186 HR0.out x5_1 p1198 q1198
                  have hw1198_4 := hx1198_4
                  have hw1198_3 := hx1198_3
                  have hw1198_2 := hx1198_2
                  have hw1198_1 := hx1198_1
                  have hw1198_0 := hx1198_0
                  obtain rfl : ad1195 = ad1198 := (by injection e1198)
                  replace hx1198_0 := (HB.out.cell (World.block_lt_of_cell? w _ hx1198_0)).trans hx1198_0
                  replace hx1198_1 := (HB.out.cell (World.block_lt_of_cell? w _ hx1198_1)).trans hx1198_1
                  replace hx1198_2 := (HB.out.cell (World.block_lt_of_cell? w _ hx1198_2)).trans hx1198_2
                  replace hx1198_3 := (HB.out.cell (World.block_lt_of_cell? w _ hx1198_3)).trans hx1198_3
                  replace hx1198_4 := (HB.out.cell (World.block_lt_of_cell? w _ hx1198_4)).trans hx1198_4
                  replace p1198 := eq_true p1198
                  replace q1198 := eq_true q1198
                  refine start_ (n := 8) (S := fun w' => w'.cell? (ad1195.add ((x5_1).toNat * 5)) = some (.int .i64 ((rd_T186 l0 x5_1).f0)) ∧ w'.cell? ⟨(ad1195.add ((x5_1).toNat * 5)).block, (ad1195.add ((x5_1).toNat * 5)).off + 1, none⟩ = some (.string ((rd_T186 l0 x5_1).f1)) ∧ w'.cell? ⟨(ad1195.add ((x5_1).toNat * 5)).block, (ad1195.add ((x5_1).toNat * 5)).off + 2, none⟩ = some (.string ((rd_T186 l0 x5_1).f2)) ∧ w'.cell? ⟨(ad1195.add ((x5_1).toNat * 5)).block, (ad1195.add ((x5_1).toNat * 5)).off + 3, none⟩ = some (.int .i64 ((rd_T186 l0 x5_1).f3)) ∧ w'.cell? ⟨(ad1195.add ((x5_1).toNat * 5)).block, (ad1195.add ((x5_1).toNat * 5)).off + 4, none⟩ = some (.int .i64 ((rd_T186 l0 x5_1).f4))) (ds := []) #[false, false, false, false, false, false, false, false] (by kernel_rfl) rfl rfl ⟨((HB.out.cell (World.block_lt_of_cell? w _ hw1198_0)).trans hw1198_0), ((HB.out.cell (World.block_lt_of_cell? w _ hw1198_1)).trans hw1198_1), ((HB.out.cell (World.block_lt_of_cell? w _ hw1198_2)).trans hw1198_2), ((HB.out.cell (World.block_lt_of_cell? w _ hw1198_3)).trans hw1198_3), ((HB.out.cell (World.block_lt_of_cell? w _ hw1198_4)).trans hw1198_4)⟩ (fun hHeld => ?_); refine with_tabW laws_heldTxS.tab10 laws_heldTxS.bits10 (fun HT_ HW_ => ?_)
                  generalize w21.drew = w22 at HB hx1198_0 hx1198_1 hx1198_2 hx1198_3 hx1198_4 hHeld ⊢
                  refine pure_ (i := 0) (N := some 31) (v := ?_) (a' := ?_) #[true, false, false, false, false, false, false, false] rfl rfl (any_of HT_.out (by kernel_rfl)) (fun _ _ _ h => h) (Or.inl ⟨by rfl, ?_⟩) ?_ ?_
                  rotate_left
                  · intro w'
                    go_simp
                    with_reducible rfl
                  rotate_left
                  · simp only [Act.put, List.setIfInBounds_toArray, List.set_cons_zero, List.set_cons_succ, i64_w, i32_w]
                    rfl
                  refine pure_ (i := 1) (N := some 32) (v := ?_) (a' := ?_) #[true, true, false, false, false, false, false, false] rfl rfl (any_of HT_.out (by kernel_rfl)) (fun _ _ _ h => h) (Or.inl ⟨by rfl, ?_⟩) ?_ ?_
                  rotate_left
                  · intro w'
                    go_simp
                    with_reducible rfl
                  rotate_left
                  · simp only [Act.put, List.setIfInBounds_toArray, List.set_cons_zero, List.set_cons_succ, i64_w, i32_w]
                    rfl
                  refine pure_ (i := 2) (N := some 33) (v := ?_) (a' := ?_) #[true, true, true, false, false, false, false, false] rfl rfl (any_of HT_.out (by kernel_rfl)) (fun _ _ _ h => h) (Or.inl ⟨by rfl, ?_⟩) ?_ ?_
                  rotate_left
                  · intro w'
                    go_simp
                    with_reducible rfl
                  rotate_left
                  · simp only [Act.put, List.setIfInBounds_toArray, List.set_cons_zero, List.set_cons_succ, i64_w, i32_w]
                    rfl
                  refine pure_ (i := 3) (N := some 34) (v := ?_) (a' := ?_) #[true, true, true, true, false, false, false, false] rfl rfl (any_of HT_.out (by kernel_rfl)) (fun _ _ _ h => h) (Or.inl ⟨by rfl, ?_⟩) ?_ ?_
                  rotate_left
                  · intro w'
                    go_simp
                    with_reducible rfl
                  rotate_left
                  · simp only [Act.put, List.setIfInBounds_toArray, List.set_cons_zero, List.set_cons_succ, i64_w, i32_w]
                    rfl
                  refine pure_ (i := 5) (N := some 36) (v := ?_) (a' := ?_) #[true, true, true, true, false, true, false, false] rfl rfl (any_of HT_.out (by kernel_rfl)) (fun _ _ _ h => h) (Or.inl ⟨by rfl, ?_⟩) ?_ ?_
                  rotate_left
                  · intro w'
                    go_simp
                    with_reducible rfl
                  rotate_left
                  · simp only [Act.put, List.setIfInBounds_toArray, List.set_cons_zero, List.set_cons_succ, i64_w, i32_w]
                    rfl
                  refine take_ (i := 4) (N := some 35) (v := ?_) (a' := ?_) #[true, true, true, true, true, true, false, false] rfl rfl (take_ofW HT_.out HW_.out (by kernel_rfl)) (fun _ _ _ h => h) (Or.inl ⟨by rfl, ?_⟩) hHeld ?_ ?_
                  rotate_left
                  · rintro w' ⟨s0, s1, s2, s3, s4⟩
                    go_simp
                    with_reducible rfl
                  rotate_left
                  · simp only [Act.put, List.setIfInBounds_toArray, List.set_cons_zero, List.set_cons_succ, i64_w, i32_w]
                    rfl
                  refine one_ (i := 6) (N := some 37) #[true, true, true, true, true, true, true, false] rfl rfl (one_of HT_.out (by kernel_rfl)) (by decide) (fun K hK => ?_)
                  refine goes_ Try.func123 (by kernel_rfl) rfl #[.int .i64 (wrap64 ((wrap64 (x1_1 + 1)) + 1))] (by rfl) rfl rfl (by (try simp only [List.map_toArray, List.map_cons, List.map_nil]); first | done | rfl | (simp only [List.length_drop, List.length_take]; rfl)) ?_
                  with_reducible refine (laws_markText.calls k1 (wrap64 ((wrap64 (x1_1 + 1)) + 1)) t1199 _ A8.out).mono ?_
                  rintro e w23 ⟨rfl, hb⟩
                  refine ⟨_, rfl, ?_⟩
                  have n0_ := Aside0.mk (below_step (by repeat (first | (with_reducible first | exact HB.out | apply below_alloc | apply pw_below_drewN | apply below_drew1) | exact HB.out)) hb)
                  clear HB
                  have HB := n0_
                  clear n0_
                  (try clear hb)
                  (try clear hb2)
                  (try clear hk)
                  (try clear hi)
                  refine hK.out _ _ ⟨((HB.out.cell (World.block_lt_of_cell? w _ hw1198_0)).trans hw1198_0), ((HB.out.cell (World.block_lt_of_cell? w _ hw1198_1)).trans hw1198_1), ((HB.out.cell (World.block_lt_of_cell? w _ hw1198_2)).trans hw1198_2), ((HB.out.cell (World.block_lt_of_cell? w _ hw1198_3)).trans hw1198_3), ((HB.out.cell (World.block_lt_of_cell? w _ hw1198_4)).trans hw1198_4)⟩ (fun hHeld => ?_)
                  clear hK K
                  refine norm_ (a' := ?_) ?_ ?_
                  rotate_left
                  · show Act.put _ (some 37) _ = _
                    simp only [Act.put, List.setIfInBounds_toArray, List.set_cons_zero, List.set_cons_succ, i64_w, i32_w]
                    rfl
                  refine pure_ (i := 7) (N := some 38) (v := ?_) (a' := ?_) #[true, true, true, true, true, true, true, true] rfl rfl (any_of HT_.out (by kernel_rfl)) (fun _ _ _ h => h) (Or.inl ⟨by rfl, ?_⟩) ?_ ?_
                  rotate_left
                  · intro w'
                    go_simp
                    with_reducible rfl
                  rotate_left
                  · simp only [Act.put, List.setIfInBounds_toArray, List.set_cons_zero, List.set_cons_succ, i64_w, i32_w]
                    rfl
                  refine done_ (done_of HT_.out (by kernel_rfl)) ?_
                  have p1200 : 0 ≤ (x5_1 : Int) := of_decide_eq_true (by first | (with_reducible assumption) | assumption)
                  have q1200 : x5_1 < (l0.length : Int) := of_decide_eq_true (by first | (with_reducible assumption) | assumption)
                  obtain ⟨ad1200, e1200, hx1200_0, hx1200_1, hx1200_2, hx1200_3, hx1200_4⟩ := at_T186 HR0.out x5_1 p1200 q1200
                  obtain rfl : ad1195 = ad1200 := (by injection e1200)
                  replace hx1200_0 := (HB.out.cell (World.block_lt_of_cell? w _ hx1200_0)).trans hx1200_0
                  replace hx1200_1 := (HB.out.cell (World.block_lt_of_cell? w _ hx1200_1)).trans hx1200_1
                  replace hx1200_2 := (HB.out.cell (World.block_lt_of_cell? w _ hx1200_2)).trans hx1200_2
                  replace hx1200_3 := (HB.out.cell (World.block_lt_of_cell? w _ hx1200_3)).trans hx1200_3
                  replace hx1200_4 := (HB.out.cell (World.block_lt_of_cell? w _ hx1200_4)).trans hx1200_4
                  replace p1200 := eq_true p1200
                  replace q1200 := eq_true q1200
                  try go_wp2
                  go_ret
                  exact ⟨by first | rfl | (simp [errW_none, errW_some] <;> rfl) | (simp [*, errW_none, errW_some] <;> rfl), by repeat (first | (with_reducible first | exact HB.out | apply below_alloc | apply pw_below_drewN | apply below_drew1) | exact HB.out)⟩
              · rw [if_neg c9] at H
                have c9b0 : (((rd_T186 l0 x5_1).f2).toList == t1199.toList) = false := beq_eq_false_iff_ne.mpr c9
                have c9b1 : (((rd_T186 l0 x5_1).f2).toList != t1199.toList) = true := bne_iff_ne.mpr c9
                obtain rfl := Option.some.inj H
                have p1195 : 0 ≤ (x5_1 : Int) := of_decide_eq_true (by first | (with_reducible assumption) | assumption)
                have q1195 : x5_1 < (l0.length : Int) := of_decide_eq_true (by first | (with_reducible assumption) | assumption)
                obtain ⟨ad1195, e1195, hx1195_0, hx1195_1, hx1195_2, hx1195_3, hx1195_4⟩ := at_T186 HR0.out x5_1 p1195 q1195
                cases e1195
                replace hx1195_0 := (HB.out.cell (World.block_lt_of_cell? w _ hx1195_0)).trans hx1195_0
                replace hx1195_1 := (HB.out.cell (World.block_lt_of_cell? w _ hx1195_1)).trans hx1195_1
                replace hx1195_2 := (HB.out.cell (World.block_lt_of_cell? w _ hx1195_2)).trans hx1195_2
                replace hx1195_3 := (HB.out.cell (World.block_lt_of_cell? w _ hx1195_3)).trans hx1195_3
                replace hx1195_4 := (HB.out.cell (World.block_lt_of_cell? w _ hx1195_4)).trans hx1195_4
                replace p1195 := eq_true p1195
                replace q1195 := eq_true q1195
                try go_wp2
                have n0_ := Aside0.mk (below_drew1 HB.out)
                clear HB
                have HB := n0_
                clear n0_
                have p1196 : 0 ≤ (x5_1 : Int) := of_decide_eq_true (by first | (with_reducible assumption) | assumption)
                have q1196 : x5_1 < (l0.length : Int) := of_decide_eq_true (by first | (with_reducible assumption) | assumption)
                obtain ⟨ad1196, e1196, hx1196_0, hx1196_1, hx1196_2, hx1196_3, hx1196_4⟩ := at_T186 HR0.out x5_1 p1196 q1196
                have hw1196_4 := hx1196_4
                have hw1196_3 := hx1196_3
                have hw1196_2 := hx1196_2
                have hw1196_1 := hx1196_1
                have hw1196_0 := hx1196_0
                obtain rfl : ad1195 = ad1196 := (by injection e1196)
                replace hx1196_0 := (HB.out.cell (World.block_lt_of_cell? w _ hx1196_0)).trans hx1196_0
                replace hx1196_1 := (HB.out.cell (World.block_lt_of_cell? w _ hx1196_1)).trans hx1196_1
                replace hx1196_2 := (HB.out.cell (World.block_lt_of_cell? w _ hx1196_2)).trans hx1196_2
                replace hx1196_3 := (HB.out.cell (World.block_lt_of_cell? w _ hx1196_3)).trans hx1196_3
                replace hx1196_4 := (HB.out.cell (World.block_lt_of_cell? w _ hx1196_4)).trans hx1196_4
                replace p1196 := eq_true p1196
                replace q1196 := eq_true q1196
                refine start_ (n := 8) (S := fun w' => w'.cell? (ad1195.add ((x5_1).toNat * 5)) = some (.int .i64 ((rd_T186 l0 x5_1).f0)) ∧ w'.cell? ⟨(ad1195.add ((x5_1).toNat * 5)).block, (ad1195.add ((x5_1).toNat * 5)).off + 1, none⟩ = some (.string ((rd_T186 l0 x5_1).f1)) ∧ w'.cell? ⟨(ad1195.add ((x5_1).toNat * 5)).block, (ad1195.add ((x5_1).toNat * 5)).off + 2, none⟩ = some (.string ((rd_T186 l0 x5_1).f2)) ∧ w'.cell? ⟨(ad1195.add ((x5_1).toNat * 5)).block, (ad1195.add ((x5_1).toNat * 5)).off + 3, none⟩ = some (.int .i64 ((rd_T186 l0 x5_1).f3)) ∧ w'.cell? ⟨(ad1195.add ((x5_1).toNat * 5)).block, (ad1195.add ((x5_1).toNat * 5)).off + 4, none⟩ = some (.int .i64 ((rd_T186 l0 x5_1).f4))) (ds := []) #[false, false, false, false, false, false, false, false] (by kernel_rfl) rfl rfl ⟨((HB.out.cell (World.block_lt_of_cell? w _ hw1196_0)).trans hw1196_0), ((HB.out.cell (World.block_lt_of_cell? w _ hw1196_1)).trans hw1196_1), ((HB.out.cell (World.block_lt_of_cell? w _ hw1196_2)).trans hw1196_2), ((HB.out.cell (World.block_lt_of_cell? w _ hw1196_3)).trans hw1196_3), ((HB.out.cell (World.block_lt_of_cell? w _ hw1196_4)).trans hw1196_4)⟩ (fun hHeld => ?_); refine with_tabW laws_heldTxS.tab7 laws_heldTxS.bits7 (fun HT_ HW_ => ?_)
                generalize wr.drew = w24 at HB hx1196_0 hx1196_1 hx1196_2 hx1196_3 hx1196_4 hHeld ⊢
                refine pure_ (i := 0) (N := some 21) (v := ?_) (a' := ?_) #[true, false, false, false, false, false, false, false] rfl rfl (any_of HT_.out (by kernel_rfl)) (fun _ _ _ h => h) (Or.inl ⟨by rfl, ?_⟩) ?_ ?_
                rotate_left
                · intro w'
                  go_simp
                  with_reducible rfl
                rotate_left
                · simp only [Act.put, List.setIfInBounds_toArray, List.set_cons_zero, List.set_cons_succ, i64_w, i32_w]
                  rfl
                refine pure_ (i := 1) (N := some 22) (v := ?_) (a' := ?_) #[true, true, false, false, false, false, false, false] rfl rfl (any_of HT_.out (by kernel_rfl)) (fun _ _ _ h => h) (Or.inl ⟨by rfl, ?_⟩) ?_ ?_
                rotate_left
                · intro w'
                  go_simp
                  with_reducible rfl
                rotate_left
                · simp only [Act.put, List.setIfInBounds_toArray, List.set_cons_zero, List.set_cons_succ, i64_w, i32_w]
                  rfl
                refine pure_ (i := 2) (N := some 23) (v := ?_) (a' := ?_) #[true, true, true, false, false, false, false, false] rfl rfl (any_of HT_.out (by kernel_rfl)) (fun _ _ _ h => h) (Or.inl ⟨by rfl, ?_⟩) ?_ ?_
                rotate_left
                · intro w'
                  go_simp
                  with_reducible rfl
                rotate_left
                · simp only [Act.put, List.setIfInBounds_toArray, List.set_cons_zero, List.set_cons_succ, i64_w, i32_w]
                  rfl
                refine pure_ (i := 3) (N := some 24) (v := ?_) (a' := ?_) #[true, true, true, true, false, false, false, false] rfl rfl (any_of HT_.out (by kernel_rfl)) (fun _ _ _ h => h) (Or.inl ⟨by rfl, ?_⟩) ?_ ?_
                rotate_left
                · intro w'
                  go_simp
                  with_reducible rfl
                rotate_left
                · simp only [Act.put, List.setIfInBounds_toArray, List.set_cons_zero, List.set_cons_succ, i64_w, i32_w]
                  rfl
                refine pure_ (i := 5) (N := some 26) (v := ?_) (a' := ?_) #[true, true, true, true, false, true, false, false] rfl rfl (any_of HT_.out (by kernel_rfl)) (fun _ _ _ h => h) (Or.inl ⟨by rfl, ?_⟩) ?_ ?_
                rotate_left
                · intro w'
                  go_simp
                  with_reducible rfl
                rotate_left
                · simp only [Act.put, List.setIfInBounds_toArray, List.set_cons_zero, List.set_cons_succ, i64_w, i32_w]
                  rfl
                refine take_ (i := 4) (N := some 25) (v := ?_) (a' := ?_) #[true, true, true, true, true, true, false, false] rfl rfl (take_ofW HT_.out HW_.out (by kernel_rfl)) (fun _ _ _ h => h) (Or.inl ⟨by rfl, ?_⟩) hHeld ?_ ?_
                rotate_left
                · rintro w' ⟨s0, s1, s2, s3, s4⟩
                  go_simp
                  with_reducible rfl
                rotate_left
                · simp only [Act.put, List.setIfInBounds_toArray, List.set_cons_zero, List.set_cons_succ, i64_w, i32_w]
                  rfl
                refine one_ (i := 6) (N := some 27) #[true, true, true, true, true, true, true, false] rfl rfl (one_of HT_.out (by kernel_rfl)) (by decide) (fun K hK => ?_)
                refine goes_ Try.func123 (by kernel_rfl) rfl #[.int .i64 (wrap64 (x1_1 + 1))] (by rfl) rfl rfl (by (try simp only [List.map_toArray, List.map_cons, List.map_nil]); first | done | rfl | (simp only [List.length_drop, List.length_take]; rfl)) ?_
                with_reducible refine (laws_markText.calls k1 (wrap64 (x1_1 + 1)) t1197 _ A6.out).mono ?_
                rintro e w25 ⟨rfl, hb⟩
                refine ⟨_, rfl, ?_⟩
                have n0_ := Aside0.mk (below_step (by repeat (first | (with_reducible first | exact HB.out | apply below_alloc | apply pw_below_drewN | apply below_drew1) | exact HB.out)) hb)
                clear HB
                have HB := n0_
                clear n0_
                (try clear hb)
                (try clear hb2)
                (try clear hk)
                (try clear hi)
                refine hK.out _ _ ⟨((HB.out.cell (World.block_lt_of_cell? w _ hw1196_0)).trans hw1196_0), ((HB.out.cell (World.block_lt_of_cell? w _ hw1196_1)).trans hw1196_1), ((HB.out.cell (World.block_lt_of_cell? w _ hw1196_2)).trans hw1196_2), ((HB.out.cell (World.block_lt_of_cell? w _ hw1196_3)).trans hw1196_3), ((HB.out.cell (World.block_lt_of_cell? w _ hw1196_4)).trans hw1196_4)⟩ (fun hHeld => ?_)
                clear hK K
                refine norm_ (a' := ?_) ?_ ?_
                rotate_left
                · show Act.put _ (some 27) _ = _
                  simp only [Act.put, List.setIfInBounds_toArray, List.set_cons_zero, List.set_cons_succ, i64_w, i32_w]
                  rfl
                refine pure_ (i := 7) (N := some 28) (v := ?_) (a' := ?_) #[true, true, true, true, true, true, true, true] rfl rfl (any_of HT_.out (by kernel_rfl)) (fun _ _ _ h => h) (Or.inl ⟨by rfl, ?_⟩) ?_ ?_
                rotate_left
                · intro w'
                  go_simp
                  with_reducible rfl
                rotate_left
                · simp only [Act.put, List.setIfInBounds_toArray, List.set_cons_zero, List.set_cons_succ, i64_w, i32_w]
                  rfl
                refine done_ (done_of HT_.out (by kernel_rfl)) ?_
                try go_wp2
                have n0_ := Aside0.mk (below_drew1 HB.out)
                clear HB
                have HB := n0_
                clear n0_
                have p1198 : 0 ≤ (x5_1 : Int) := of_decide_eq_true (by first | (with_reducible assumption) | assumption)
                have q1198 : x5_1 < (l0.length : Int) := of_decide_eq_true (by first | (with_reducible assumption) | assumption)
                obtain ⟨ad1198, e1198, hx1198_0, hx1198_1, hx1198_2, hx1198_3, hx1198_4⟩ := at_T186 HR0.out x5_1 p1198 q1198
                have hw1198_4 := hx1198_4
                have hw1198_3 := hx1198_3
                have hw1198_2 := hx1198_2
                have hw1198_1 := hx1198_1
                have hw1198_0 := hx1198_0
                obtain rfl : ad1195 = ad1198 := (by injection e1198)
                replace hx1198_0 := (HB.out.cell (World.block_lt_of_cell? w _ hx1198_0)).trans hx1198_0
                replace hx1198_1 := (HB.out.cell (World.block_lt_of_cell? w _ hx1198_1)).trans hx1198_1
                replace hx1198_2 := (HB.out.cell (World.block_lt_of_cell? w _ hx1198_2)).trans hx1198_2
                replace hx1198_3 := (HB.out.cell (World.block_lt_of_cell? w _ hx1198_3)).trans hx1198_3
                replace hx1198_4 := (HB.out.cell (World.block_lt_of_cell? w _ hx1198_4)).trans hx1198_4
                replace p1198 := eq_true p1198
                replace q1198 := eq_true q1198
                refine start_ (n := 8) (S := fun w' => w'.cell? (ad1195.add ((x5_1).toNat * 5)) = some (.int .i64 ((rd_T186 l0 x5_1).f0)) ∧ w'.cell? ⟨(ad1195.add ((x5_1).toNat * 5)).block, (ad1195.add ((x5_1).toNat * 5)).off + 1, none⟩ = some (.string ((rd_T186 l0 x5_1).f1)) ∧ w'.cell? ⟨(ad1195.add ((x5_1).toNat * 5)).block, (ad1195.add ((x5_1).toNat * 5)).off + 2, none⟩ = some (.string ((rd_T186 l0 x5_1).f2)) ∧ w'.cell? ⟨(ad1195.add ((x5_1).toNat * 5)).block, (ad1195.add ((x5_1).toNat * 5)).off + 3, none⟩ = some (.int .i64 ((rd_T186 l0 x5_1).f3)) ∧ w'.cell? ⟨(ad1195.add ((x5_1).toNat * 5)).block, (ad1195.add ((x5_1).toNat * 5)).off + 4, none⟩ = some (.int .i64 ((rd_T186 l0 x5_1).f4))) (ds := []) #[false, false, false, false, false, false, false, false] (by kernel_rfl) rfl rfl ⟨((HB.out.cell (World.block_lt_of_cell? w _ hw1198_0)).trans hw1198_0), ((HB.out.cell (World.block_lt_of_cell? w _ hw1198_1)).trans hw1198_1), ((HB.out.cell (World.block_lt_of_cell? w _ hw1198_2)).trans hw1198_2), ((HB.out.cell (World.block_lt_of_cell? w _ hw1198_3)).trans hw1198_3), ((HB.out.cell (World.block_lt_of_cell? w _ hw1198_4)).trans hw1198_4)⟩ (fun hHeld => ?_); refine with_tabW laws_heldTxS.tab10 laws_heldTxS.bits10 (fun HT_ HW_ => ?_)
                generalize w25.drew = w26 at HB hx1198_0 hx1198_1 hx1198_2 hx1198_3 hx1198_4 hHeld ⊢
                refine pure_ (i := 0) (N := some 31) (v := ?_) (a' := ?_) #[true, false, false, false, false, false, false, false] rfl rfl (any_of HT_.out (by kernel_rfl)) (fun _ _ _ h => h) (Or.inl ⟨by rfl, ?_⟩) ?_ ?_
                rotate_left
                · intro w'
                  go_simp
                  with_reducible rfl
                rotate_left
                · simp only [Act.put, List.setIfInBounds_toArray, List.set_cons_zero, List.set_cons_succ, i64_w, i32_w]
                  rfl
                refine pure_ (i := 1) (N := some 32) (v := ?_) (a' := ?_) #[true, true, false, false, false, false, false, false] rfl rfl (any_of HT_.out (by kernel_rfl)) (fun _ _ _ h => h) (Or.inl ⟨by rfl, ?_⟩) ?_ ?_
                rotate_left
                · intro w'
                  go_simp
                  with_reducible rfl
                rotate_left
                · simp only [Act.put, List.setIfInBounds_toArray, List.set_cons_zero, List.set_cons_succ, i64_w, i32_w]
                  rfl
                refine pure_ (i := 2) (N := some 33) (v := ?_) (a' := ?_) #[true, true, true, false, false, false, false, false] rfl rfl (any_of HT_.out (by kernel_rfl)) (fun _ _ _ h => h) (Or.inl ⟨by rfl, ?_⟩) ?_ ?_
                rotate_left
                · intro w'
                  go_simp
                  with_reducible rfl
                rotate_left
                · simp only [Act.put, List.setIfInBounds_toArray, List.set_cons_zero, List.set_cons_succ, i64_w, i32_w]
                  rfl
                refine pure_ (i := 3) (N := some 34) (v := ?_) (a' := ?_) #[true, true, true, true, false, false, false, false] rfl rfl (any_of HT_.out (by kernel_rfl)) (fun _ _ _ h => h) (Or.inl ⟨by rfl, ?_⟩) ?_ ?_
                rotate_left
                · intro w'
                  go_simp
                  with_reducible rfl
                rotate_left
                · simp only [Act.put, List.setIfInBounds_toArray, List.set_cons_zero, List.set_cons_succ, i64_w, i32_w]
                  rfl
                refine pure_ (i := 5) (N := some 36) (v := ?_) (a' := ?_) #[true, true, true, true, false, true, false, false] rfl rfl (any_of HT_.out (by kernel_rfl)) (fun _ _ _ h => h) (Or.inl ⟨by rfl, ?_⟩) ?_ ?_
                rotate_left
                · intro w'
                  go_simp
                  with_reducible rfl
                rotate_left
                · simp only [Act.put, List.setIfInBounds_toArray, List.set_cons_zero, List.set_cons_succ, i64_w, i32_w]
                  rfl
                refine take_ (i := 4) (N := some 35) (v := ?_) (a' := ?_) #[true, true, true, true, true, true, false, false] rfl rfl (take_ofW HT_.out HW_.out (by kernel_rfl)) (fun _ _ _ h => h) (Or.inl ⟨by rfl, ?_⟩) hHeld ?_ ?_
                rotate_left
                · rintro w' ⟨s0, s1, s2, s3, s4⟩
                  go_simp
                  with_reducible rfl
                rotate_left
                · simp only [Act.put, List.setIfInBounds_toArray, List.set_cons_zero, List.set_cons_succ, i64_w, i32_w]
                  rfl
                refine one_ (i := 6) (N := some 37) #[true, true, true, true, true, true, true, false] rfl rfl (one_of HT_.out (by kernel_rfl)) (by decide) (fun K hK => ?_)
                refine goes_ Try.func123 (by kernel_rfl) rfl #[.int .i64 (wrap64 ((wrap64 (x1_1 + 1)) + 1))] (by rfl) rfl rfl (by (try simp only [List.map_toArray, List.map_cons, List.map_nil]); first | done | rfl | (simp only [List.length_drop, List.length_take]; rfl)) ?_
                with_reducible refine (laws_markText.calls k1 (wrap64 ((wrap64 (x1_1 + 1)) + 1)) t1199 _ A8.out).mono ?_
                rintro e w27 ⟨rfl, hb⟩
                refine ⟨_, rfl, ?_⟩
                have n0_ := Aside0.mk (below_step (by repeat (first | (with_reducible first | exact HB.out | apply below_alloc | apply pw_below_drewN | apply below_drew1) | exact HB.out)) hb)
                clear HB
                have HB := n0_
                clear n0_
                (try clear hb)
                (try clear hb2)
                (try clear hk)
                (try clear hi)
                refine hK.out _ _ ⟨((HB.out.cell (World.block_lt_of_cell? w _ hw1198_0)).trans hw1198_0), ((HB.out.cell (World.block_lt_of_cell? w _ hw1198_1)).trans hw1198_1), ((HB.out.cell (World.block_lt_of_cell? w _ hw1198_2)).trans hw1198_2), ((HB.out.cell (World.block_lt_of_cell? w _ hw1198_3)).trans hw1198_3), ((HB.out.cell (World.block_lt_of_cell? w _ hw1198_4)).trans hw1198_4)⟩ (fun hHeld => ?_)
                clear hK K
                refine norm_ (a' := ?_) ?_ ?_
                rotate_left
                · show Act.put _ (some 37) _ = _
                  simp only [Act.put, List.setIfInBounds_toArray, List.set_cons_zero, List.set_cons_succ, i64_w, i32_w]
                  rfl
                refine pure_ (i := 7) (N := some 38) (v := ?_) (a' := ?_) #[true, true, true, true, true, true, true, true] rfl rfl (any_of HT_.out (by kernel_rfl)) (fun _ _ _ h => h) (Or.inl ⟨by rfl, ?_⟩) ?_ ?_
                rotate_left
                · intro w'
                  go_simp
                  with_reducible rfl
                rotate_left
                · simp only [Act.put, List.setIfInBounds_toArray, List.set_cons_zero, List.set_cons_succ, i64_w, i32_w]
                  rfl
                refine done_ (done_of HT_.out (by kernel_rfl)) ?_
                try go_wp2
                go_ret
                exact ⟨by first | rfl | (simp [errW_none, errW_some] <;> rfl) | (simp [*, errW_none, errW_some] <;> rfl), by repeat (first | (with_reducible first | exact HB.out | apply below_alloc | apply pw_below_drewN | apply below_drew1) | exact HB.out)⟩
            · rw [if_neg c7] at H
              have c7b0 : (((rd_T186 l0 x5_1).f1).toList == t1197.toList) = false := beq_eq_false_iff_ne.mpr c7
              have c7b1 : (((rd_T186 l0 x5_1).f1).toList != t1197.toList) = true := bne_iff_ne.mpr c7
              obtain rfl := Option.some.inj H
              have p1195 : 0 ≤ (x5_1 : Int) := of_decide_eq_true (by first | (with_reducible assumption) | assumption)
              have q1195 : x5_1 < (l0.length : Int) := of_decide_eq_true (by first | (with_reducible assumption) | assumption)
              obtain ⟨ad1195, e1195, hx1195_0, hx1195_1, hx1195_2, hx1195_3, hx1195_4⟩ := at_T186 HR0.out x5_1 p1195 q1195
              cases e1195
              replace hx1195_0 := (HB.out.cell (World.block_lt_of_cell? w _ hx1195_0)).trans hx1195_0
              replace hx1195_1 := (HB.out.cell (World.block_lt_of_cell? w _ hx1195_1)).trans hx1195_1
              replace hx1195_2 := (HB.out.cell (World.block_lt_of_cell? w _ hx1195_2)).trans hx1195_2
              replace hx1195_3 := (HB.out.cell (World.block_lt_of_cell? w _ hx1195_3)).trans hx1195_3
              replace hx1195_4 := (HB.out.cell (World.block_lt_of_cell? w _ hx1195_4)).trans hx1195_4
              replace p1195 := eq_true p1195
              replace q1195 := eq_true q1195
              try go_wp2
              have n0_ := Aside0.mk (below_drew1 HB.out)
              clear HB
              have HB := n0_
              clear n0_
              have p1196 : 0 ≤ (x5_1 : Int) := of_decide_eq_true (by first | (with_reducible assumption) | assumption)
              have q1196 : x5_1 < (l0.length : Int) := of_decide_eq_true (by first | (with_reducible assumption) | assumption)
              obtain ⟨ad1196, e1196, hx1196_0, hx1196_1, hx1196_2, hx1196_3, hx1196_4⟩ := at_T186 HR0.out x5_1 p1196 q1196
              have hw1196_4 := hx1196_4
              have hw1196_3 := hx1196_3
              have hw1196_2 := hx1196_2
              have hw1196_1 := hx1196_1
              have hw1196_0 := hx1196_0
              obtain rfl : ad1195 = ad1196 := (by injection e1196)
              replace hx1196_0 := (HB.out.cell (World.block_lt_of_cell? w _ hx1196_0)).trans hx1196_0
              replace hx1196_1 := (HB.out.cell (World.block_lt_of_cell? w _ hx1196_1)).trans hx1196_1
              replace hx1196_2 := (HB.out.cell (World.block_lt_of_cell? w _ hx1196_2)).trans hx1196_2
              replace hx1196_3 := (HB.out.cell (World.block_lt_of_cell? w _ hx1196_3)).trans hx1196_3
              replace hx1196_4 := (HB.out.cell (World.block_lt_of_cell? w _ hx1196_4)).trans hx1196_4
              replace p1196 := eq_true p1196
              replace q1196 := eq_true q1196
              refine start_ (n := 8) (S := fun w' => w'.cell? (ad1195.add ((x5_1).toNat * 5)) = some (.int .i64 ((rd_T186 l0 x5_1).f0)) ∧ w'.cell? ⟨(ad1195.add ((x5_1).toNat * 5)).block, (ad1195.add ((x5_1).toNat * 5)).off + 1, none⟩ = some (.string ((rd_T186 l0 x5_1).f1)) ∧ w'.cell? ⟨(ad1195.add ((x5_1).toNat * 5)).block, (ad1195.add ((x5_1).toNat * 5)).off + 2, none⟩ = some (.string ((rd_T186 l0 x5_1).f2)) ∧ w'.cell? ⟨(ad1195.add ((x5_1).toNat * 5)).block, (ad1195.add ((x5_1).toNat * 5)).off + 3, none⟩ = some (.int .i64 ((rd_T186 l0 x5_1).f3)) ∧ w'.cell? ⟨(ad1195.add ((x5_1).toNat * 5)).block, (ad1195.add ((x5_1).toNat * 5)).off + 4, none⟩ = some (.int .i64 ((rd_T186 l0 x5_1).f4))) (ds := []) #[false, false, false, false, false, false, false, false] (by kernel_rfl) rfl rfl ⟨((HB.out.cell (World.block_lt_of_cell? w _ hw1196_0)).trans hw1196_0), ((HB.out.cell (World.block_lt_of_cell? w _ hw1196_1)).trans hw1196_1), ((HB.out.cell (World.block_lt_of_cell? w _ hw1196_2)).trans hw1196_2), ((HB.out.cell (World.block_lt_of_cell? w _ hw1196_3)).trans hw1196_3), ((HB.out.cell (World.block_lt_of_cell? w _ hw1196_4)).trans hw1196_4)⟩ (fun hHeld => ?_); refine with_tabW laws_heldTxS.tab7 laws_heldTxS.bits7 (fun HT_ HW_ => ?_)
              generalize wr.drew = w28 at HB hx1196_0 hx1196_1 hx1196_2 hx1196_3 hx1196_4 hHeld ⊢
              refine pure_ (i := 0) (N := some 21) (v := ?_) (a' := ?_) #[true, false, false, false, false, false, false, false] rfl rfl (any_of HT_.out (by kernel_rfl)) (fun _ _ _ h => h) (Or.inl ⟨by rfl, ?_⟩) ?_ ?_
              rotate_left
              · intro w'
                go_simp
                with_reducible rfl
              rotate_left
              · simp only [Act.put, List.setIfInBounds_toArray, List.set_cons_zero, List.set_cons_succ, i64_w, i32_w]
                rfl
              refine pure_ (i := 1) (N := some 22) (v := ?_) (a' := ?_) #[true, true, false, false, false, false, false, false] rfl rfl (any_of HT_.out (by kernel_rfl)) (fun _ _ _ h => h) (Or.inl ⟨by rfl, ?_⟩) ?_ ?_
              rotate_left
              · intro w'
                go_simp
                with_reducible rfl
              rotate_left
              · simp only [Act.put, List.setIfInBounds_toArray, List.set_cons_zero, List.set_cons_succ, i64_w, i32_w]
                rfl
              refine pure_ (i := 2) (N := some 23) (v := ?_) (a' := ?_) #[true, true, true, false, false, false, false, false] rfl rfl (any_of HT_.out (by kernel_rfl)) (fun _ _ _ h => h) (Or.inl ⟨by rfl, ?_⟩) ?_ ?_
              rotate_left
              · intro w'
                go_simp
                with_reducible rfl
              rotate_left
              · simp only [Act.put, List.setIfInBounds_toArray, List.set_cons_zero, List.set_cons_succ, i64_w, i32_w]
                rfl
              refine pure_ (i := 3) (N := some 24) (v := ?_) (a' := ?_) #[true, true, true, true, false, false, false, false] rfl rfl (any_of HT_.out (by kernel_rfl)) (fun _ _ _ h => h) (Or.inl ⟨by rfl, ?_⟩) ?_ ?_
              rotate_left
              · intro w'
                go_simp
                with_reducible rfl
              rotate_left
              · simp only [Act.put, List.setIfInBounds_toArray, List.set_cons_zero, List.set_cons_succ, i64_w, i32_w]
                rfl
              refine pure_ (i := 5) (N := some 26) (v := ?_) (a' := ?_) #[true, true, true, true, false, true, false, false] rfl rfl (any_of HT_.out (by kernel_rfl)) (fun _ _ _ h => h) (Or.inl ⟨by rfl, ?_⟩) ?_ ?_
              rotate_left
              · intro w'
                go_simp
                with_reducible rfl
              rotate_left
              · simp only [Act.put, List.setIfInBounds_toArray, List.set_cons_zero, List.set_cons_succ, i64_w, i32_w]
                rfl
              refine take_ (i := 4) (N := some 25) (v := ?_) (a' := ?_) #[true, true, true, true, true, true, false, false] rfl rfl (take_ofW HT_.out HW_.out (by kernel_rfl)) (fun _ _ _ h => h) (Or.inl ⟨by rfl, ?_⟩) hHeld ?_ ?_
              rotate_left
              · rintro w' ⟨s0, s1, s2, s3, s4⟩
                go_simp
                with_reducible rfl
              rotate_left
              · simp only [Act.put, List.setIfInBounds_toArray, List.set_cons_zero, List.set_cons_succ, i64_w, i32_w]
                rfl
              refine one_ (i := 6) (N := some 27) #[true, true, true, true, true, true, true, false] rfl rfl (one_of HT_.out (by kernel_rfl)) (by decide) (fun K hK => ?_)
              refine goes_ Try.func123 (by kernel_rfl) rfl #[.int .i64 (wrap64 (x1_1 + 1))] (by rfl) rfl rfl (by (try simp only [List.map_toArray, List.map_cons, List.map_nil]); first | done | rfl | (simp only [List.length_drop, List.length_take]; rfl)) ?_
              with_reducible refine (laws_markText.calls k1 (wrap64 (x1_1 + 1)) t1197 _ A6.out).mono ?_
              rintro e w29 ⟨rfl, hb⟩
              refine ⟨_, rfl, ?_⟩
              have n0_ := Aside0.mk (below_step (by repeat (first | (with_reducible first | exact HB.out | apply below_alloc | apply pw_below_drewN | apply below_drew1) | exact HB.out)) hb)
              clear HB
              have HB := n0_
              clear n0_
              (try clear hb)
              (try clear hb2)
              (try clear hk)
              (try clear hi)
              refine hK.out _ _ ⟨((HB.out.cell (World.block_lt_of_cell? w _ hw1196_0)).trans hw1196_0), ((HB.out.cell (World.block_lt_of_cell? w _ hw1196_1)).trans hw1196_1), ((HB.out.cell (World.block_lt_of_cell? w _ hw1196_2)).trans hw1196_2), ((HB.out.cell (World.block_lt_of_cell? w _ hw1196_3)).trans hw1196_3), ((HB.out.cell (World.block_lt_of_cell? w _ hw1196_4)).trans hw1196_4)⟩ (fun hHeld => ?_)
              clear hK K
              refine norm_ (a' := ?_) ?_ ?_
              rotate_left
              · show Act.put _ (some 27) _ = _
                simp only [Act.put, List.setIfInBounds_toArray, List.set_cons_zero, List.set_cons_succ, i64_w, i32_w]
                rfl
              refine pure_ (i := 7) (N := some 28) (v := ?_) (a' := ?_) #[true, true, true, true, true, true, true, true] rfl rfl (any_of HT_.out (by kernel_rfl)) (fun _ _ _ h => h) (Or.inl ⟨by rfl, ?_⟩) ?_ ?_
              rotate_left
              · intro w'
                go_simp
                with_reducible rfl
              rotate_left
              · simp only [Act.put, List.setIfInBounds_toArray, List.set_cons_zero, List.set_cons_succ, i64_w, i32_w]
                rfl
              refine done_ (done_of HT_.out (by kernel_rfl)) ?_
              try go_wp2
              go_ret
              exact ⟨by first | rfl | (simp [errW_none, errW_some] <;> rfl) | (simp [*, errW_none, errW_some] <;> rfl), by repeat (first | (with_reducible first | exact HB.out | apply below_alloc | apply pw_below_drewN | apply below_drew1) | exact HB.out)⟩
          · rw [if_neg c5] at H
            have c5b0 : (((rd_T186 l0 x5_1).f0) == x1_1) = false := beq_eq_false_iff_ne.mpr c5
            have c5b1 : (((rd_T186 l0 x5_1).f0) != x1_1) = true := bne_iff_ne.mpr c5
            obtain rfl := Option.some.inj H
            have p1195 : 0 ≤ (x5_1 : Int) := of_decide_eq_true (by first | (with_reducible assumption) | assumption)
            have q1195 : x5_1 < (l0.length : Int) := of_decide_eq_true (by first | (with_reducible assumption) | assumption)
            obtain ⟨ad1195, e1195, hx1195_0, hx1195_1, hx1195_2, hx1195_3, hx1195_4⟩ := at_T186 HR0.out x5_1 p1195 q1195
            cases e1195
            replace hx1195_0 := (HB.out.cell (World.block_lt_of_cell? w _ hx1195_0)).trans hx1195_0
            replace hx1195_1 := (HB.out.cell (World.block_lt_of_cell? w _ hx1195_1)).trans hx1195_1
            replace hx1195_2 := (HB.out.cell (World.block_lt_of_cell? w _ hx1195_2)).trans hx1195_2
            replace hx1195_3 := (HB.out.cell (World.block_lt_of_cell? w _ hx1195_3)).trans hx1195_3
            replace hx1195_4 := (HB.out.cell (World.block_lt_of_cell? w _ hx1195_4)).trans hx1195_4
            replace p1195 := eq_true p1195
            replace q1195 := eq_true q1195
            go_wp2
            go_ret
            exact ⟨by first | rfl | (simp [errW_none, errW_some] <;> rfl) | (simp [*, errW_none, errW_some] <;> rfl), by repeat (first | (with_reducible first | exact HB.out | apply below_alloc | apply pw_below_drewN | apply below_drew1) | exact HB.out)⟩
        · rw [if_neg c4] at H
          exact absurd H (by simp)
      · rw [if_neg c3] at H
        have c3b0 : decide (x5_1 < (l0.length : Int)) = false := decide_eq_false c3
        clear c3
        obtain rfl := Option.some.inj H
        go_wp2
        go_ret
        exact ⟨by first | rfl | (simp [errW_none, errW_some] <;> rfl) | (simp [*, errW_none, errW_some] <;> rfl), by repeat (first | (with_reducible first | exact HB.out | apply below_alloc | apply pw_below_drewN | apply below_drew1) | exact HB.out)⟩

end Go.Proofs.Ytadkhkpchankjaa.F
