/-
Functions of the program, what they come to, and that Go comes to just that: laws_FnSets.
Conditions: those that each theorem names.
-/
import Derived.Test.YtadkhkpchankjaaFAbs
import Derived.Test.YtadkhkpchankjaaF1
import Derived.Test.YtadkhkpchankjaaF5
import Derived.Test.YtadkhkpchankjaaF8
import Derived.Test.YtadkhkpchankjaaF13
import Derived.Test.YtadkhkpchankjaaF16
import Derived.Test.YtadkhkpchankjaaF18
import Derived.Test.YtadkhkpchankjaaF19
import Derived.Test.YtadkhkpchankjaaWApart
import Derived.Test.YtadkhkpchankjaaWMore
set_option linter.unusedVariables false
set_option linter.unusedSimpArgs false
namespace Go.Proofs.Ytadkhkpchankjaa.F
open Go.RowKit Go.Proofs.YtadkhkpchankjaaW.PrintWords Go.Proofs.YtadkhkpchankjaaW.PrintLast Go.Proofs.Ytadkhkpchankjaa.Base Go.Proofs.Ytadkhkpchankjaa.BW
open Go.Proofs.YtadkhkpchankjaaW.PrintMore
attribute [local go_sem] max2_int min2_int max_two min_two max_three min_three max_four min_four   -- for this text's walks alone

/-! ### laws_FnSets: function 5 -/
def laws_FnSets.l0 : Nat → List (S138) → Int → Int → Int → List (S43) → Option (Bool)
  | 0, _, _, _, _, _ => none
  | k + 1, x4, x5, x6, x468000, x468001 => if x6 < (x468001.length : Int) then (if 0 ≤ x6 then ((laws_inSet.f k x4 ((rd_T43 x468001 x6).f0)).bind fun t475 => (if (t475 != (decide (((rd_T43 x468001 x6).f3) ≥ 5))) = true then (some false) else (if t475 = true then (laws_FnSets.l0 k x4 (wrap64 (x5 + ((rd_T43 x468001 x6).f3))) (wrap64 (x6 + 1)) x468000 x468001) else (laws_FnSets.l0 k x4 x5 (wrap64 (x6 + 1)) x468000 x468001)))) else (none)) else ((impl_TotalOf.f k x4).bind fun t472 => (if t472 = x5 then (if (x4.length : Int) = 0 then (some true) else ((impl_SetOk.f k x4).bind fun t473 => (some t473))) else (some false)))
def laws_FnSets.f (k : Nat) (l0 : List Int) : Option (Bool) := (laws_big.f l0).bind fun t462 => (if t462 = true then (some true) else ((spec_DrawSetOf.f k l0).bind fun bt463 => ((impl_SetOf.f k bt463.1 bt463.2).bind fun t468 => ((spec_LedgerOk.f k bt463.1 bt463.2).bind fun t471 => (if t471 = true then (laws_FnSets.l0 k t468 0 0 bt463.1 bt463.2) else (some ((t468.length : Int) == 0)))))))
theorem laws_FnSets.mono_l : ∀ k, (∀ y0 y1 y2 y3 y4, LeO (laws_FnSets.l0 k y0 y1 y2 y3 y4) (laws_FnSets.l0 (k + 1) y0 y1 y2 y3 y4))
  | 0 => fun _ _ _ _ _ r h => by simp [laws_FnSets.l0] at h
  | k + 1 => by
    have ih0 := laws_FnSets.mono_l k
    · intro y0 y1 y2 y3 y4
      unfold laws_FnSets.l0
      repeat' first
      | (with_reducible exact ih0 _ _ _ _ _)
      | (with_reducible exact impl_SetOf.mono _ _ _)
      | (with_reducible exact impl_SetOk.mono _ _)
      | (with_reducible exact impl_TotalOf.mono _ _)
      | (with_reducible exact laws_inSet.mono _ _ _)
      | (with_reducible exact spec_DrawSetOf.mono _ _)
      | (with_reducible exact spec_LedgerOk.mono _ _ _)
      | (with_reducible exact LeO.refl _)
      | (with_reducible exact LeO.none _)
      | (with_reducible refine LeO.ite ?_ ?_)
      | (with_reducible refine LeO.bind ?_ (fun _ => ?_))
      | exact ih0 _ _ _ _ _
      | exact impl_SetOf.mono _ _ _
      | exact impl_SetOk.mono _ _
      | exact impl_TotalOf.mono _ _
      | exact laws_inSet.mono _ _ _
      | exact spec_DrawSetOf.mono _ _
      | exact spec_LedgerOk.mono _ _ _
      | exact LeO.none _
      | refine LeO.ite ?_ ?_
      | refine LeO.bind ?_ (fun _ => ?_)
theorem laws_FnSets.mono : ∀ a0 k, LeO (laws_FnSets.f k a0) (laws_FnSets.f (k + 1) a0) := by
  intro a0 k
  have ih0 := laws_FnSets.mono_l k
  unfold laws_FnSets.f
  repeat' first
      | (with_reducible exact ih0 _ _ _ _ _)
      | (with_reducible exact impl_SetOf.mono _ _ _)
      | (with_reducible exact impl_SetOk.mono _ _)
      | (with_reducible exact impl_TotalOf.mono _ _)
      | (with_reducible exact laws_inSet.mono _ _ _)
      | (with_reducible exact spec_DrawSetOf.mono _ _)
      | (with_reducible exact spec_LedgerOk.mono _ _ _)
      | (with_reducible exact LeO.refl _)
      | (with_reducible exact LeO.none _)
      | (with_reducible refine LeO.ite ?_ ?_)
      | (with_reducible refine LeO.bind ?_ (fun _ => ?_))
      | exact ih0 _ _ _ _ _
      | exact impl_SetOf.mono _ _ _
      | exact impl_SetOk.mono _ _
      | exact impl_TotalOf.mono _ _
      | exact laws_inSet.mono _ _ _
      | exact spec_DrawSetOf.mono _ _
      | exact spec_LedgerOk.mono _ _ _
      | exact LeO.none _
      | refine LeO.ite ?_ ?_
      | refine LeO.bind ?_ (fun _ => ?_)
set_option maxHeartbeats 8000000 in
set_option maxRecDepth 100000 in
theorem laws_FnSets.calls (k : Nat) (A0 : Option Addr) (c0 : Nat) (l0 : List Int) (r : Bool) (w : World) (hr0 : Kd.C (Kd.int .u8) w A0 l0.length l0) (hc0 : l0.length ≤ c0) (h : laws_FnSets.f k l0 = some r) :
    Calls Try.prog 5 #[.slice A0 l0.length c0] w fun e w' => e = .returned (.bool r) ∧ Below w.heap.size w w' := by
  have hu37 := Try.underlying37
  have HR0 := Aside0.mk hr0
  have HC0 := Aside0.mk hc0
  clear hr0 hc0
  have HB := Aside0.mk (Below.refl w.heap.size w)
  have H : ((laws_big.f l0).bind fun t462 => (if t462 = true then (some true) else ((spec_DrawSetOf.f k l0).bind fun bt463 => ((impl_SetOf.f k bt463.1 bt463.2).bind fun t468 => ((spec_LedgerOk.f k bt463.1 bt463.2).bind fun t471 => (if t471 = true then (laws_FnSets.l0 k t468 0 0 bt463.1 bt463.2) else (some ((t468.length : Int) == 0)))))))) = some r := h
  clear h
  replace H := Option.bind_eq_some_iff.mp H
  obtain ⟨t462, A20, H⟩ := H
  replace H : (if t462 = true then (some true) else ((spec_DrawSetOf.f k l0).bind fun bt463 => ((impl_SetOf.f k bt463.1 bt463.2).bind fun t468 => ((spec_LedgerOk.f k bt463.1 bt463.2).bind fun t471 => (if t471 = true then (laws_FnSets.l0 k t468 0 0 bt463.1 bt463.2) else (some ((t468.length : Int) == 0))))))) = some r := H
  have A2 := Aside0.mk A20
  clear A20
  by_cases c3 : t462 = true
  · subst c3
    have H1 : (some true) = some r := by rw [if_pos rfl] at H; exact H
    clear H
    have H := H1
    clear H1
    obtain rfl := Option.some.inj H
    go_enter Try.func5, Try.ntmps5
    go_wp2_with (first | ((with_reducible refine gate_callee (f := 15) rfl ?_); refine goesL_ (some 9) rfl rfl Try.func15 (by kernel_rfl) rfl #[.slice A0 l0.length c0] rfl (by (try simp only [List.map_toArray, List.map_cons, List.map_nil]); first | done | rfl | (simp only [List.length_drop, List.length_take]; rfl)) ?_; (with_reducible refine (laws_big.calls _ _ l0 true _ ?side1 ?side2 A2.out).mono ?_); (case side1 => repeat (first | exact HR0.out | (with_reducible refine Kd.C_alloc ?_ _) | (with_reducible refine Kd.C_drewN ?_ _) | (with_reducible refine Kd.C_drew ?_))); (case side2 => exact HC0.out); rintro e w' ⟨rfl, ⟨nd, rfl⟩⟩; refine ⟨_, rfl, ?_⟩))
    go_ret
    exact ⟨by first | rfl | (simp [errW_none, errW_some] <;> rfl) | (simp [*, errW_none, errW_some] <;> rfl), by repeat (first | (with_reducible first | exact HB.out | apply below_alloc | apply pw_below_drewN | apply below_drew1) | exact HB.out)⟩
  · replace c3 := Bool.eq_false_iff.mpr c3
    subst c3
    have H1 : ((spec_DrawSetOf.f k l0).bind fun bt463 => ((impl_SetOf.f k bt463.1 bt463.2).bind fun t468 => ((spec_LedgerOk.f k bt463.1 bt463.2).bind fun t471 => (if t471 = true then (laws_FnSets.l0 k t468 0 0 bt463.1 bt463.2) else (some ((t468.length : Int) == 0)))))) = some r := by rw [if_neg (show ¬ (false = true) by decide)] at H; exact H
    clear H
    have H := H1
    clear H1
    replace H := Option.bind_eq_some_iff.mp H
    obtain ⟨⟨t463, t464⟩, A40, H⟩ := H
    replace H : ((impl_SetOf.f k t463 t464).bind fun t468 => ((spec_LedgerOk.f k t463 t464).bind fun t471 => (if t471 = true then (laws_FnSets.l0 k t468 0 0 t463 t464) else (some ((t468.length : Int) == 0))))) = some r := H
    have A4 := Aside0.mk A40
    clear A40
    replace H := Option.bind_eq_some_iff.mp H
    obtain ⟨t468, A50, H⟩ := H
    replace H : ((spec_LedgerOk.f k t463 t464).bind fun t471 => (if t471 = true then (laws_FnSets.l0 k t468 0 0 t463 t464) else (some ((t468.length : Int) == 0)))) = some r := H
    have A5 := Aside0.mk A50
    clear A50
    replace H := Option.bind_eq_some_iff.mp H
    obtain ⟨t471, A60, H⟩ := H
    replace H : (if t471 = true then (laws_FnSets.l0 k t468 0 0 t463 t464) else (some ((t468.length : Int) == 0))) = some r := H
    have A6 := Aside0.mk A60
    clear A60
    by_cases c7 : t471 = true
    · subst c7
      have H1 : (laws_FnSets.l0 k t468 0 0 t463 t464) = some r := by rw [if_pos rfl] at H; exact H
      clear H
      have H := H1
      clear H1
      have H' := Aside0.mk H
      clear H
      go_enter Try.func5, Try.ntmps5
      go_wp2_with (first | ((with_reducible refine gate_callee (f := 15) rfl ?_); refine goesL_ (some 9) rfl rfl Try.func15 (by kernel_rfl) rfl #[.slice A0 l0.length c0] rfl (by (try simp only [List.map_toArray, List.map_cons, List.map_nil]); first | done | rfl | (simp only [List.length_drop, List.length_take]; rfl)) ?_; (with_reducible refine (laws_big.calls _ _ l0 false _ ?side1 ?side2 A2.out).mono ?_); (case side1 => repeat (first | exact HR0.out | (with_reducible refine Kd.C_alloc ?_ _) | (with_reducible refine Kd.C_drewN ?_ _) | (with_reducible refine Kd.C_drew ?_))); (case side2 => exact HC0.out); rintro e w' ⟨rfl, ⟨nd, rfl⟩⟩; refine ⟨_, rfl, ?_⟩) | ((with_reducible refine gate_callee (f := 25) rfl ?_); refine goesL_ (some 11) rfl rfl Try.func25 (by kernel_rfl) rfl #[.slice A0 l0.length c0] rfl (by (try simp only [List.map_toArray, List.map_cons, List.map_nil]); first | done | rfl | (simp only [List.length_drop, List.length_take]; rfl)) ?_; (with_reducible refine (spec_DrawSetOf.calls k _ _ l0 t463 t464 _ ?side1 ?side2 A4.out).mono ?_); (case side1 => repeat (first | exact HR0.out | (with_reducible refine Kd.C_alloc ?_ _) | (with_reducible refine Kd.C_drewN ?_ _) | (with_reducible refine Kd.C_drew ?_))); (case side2 => exact HC0.out); rintro e w8 ⟨v465, rfl, ho0, hb⟩; refine ⟨_, rfl, ?_⟩; have n0_ := Aside0.mk (Kd.S_lower ho0 (below_size (by repeat (first | (with_reducible first | exact HB.out | apply below_alloc | apply pw_below_drewN | apply below_drew1) | exact HB.out)))); have n1_ := Aside0.mk (below_step (by repeat (first | (with_reducible first | exact HB.out | apply below_alloc | apply pw_below_drewN | apply below_drew1) | exact HB.out)) hb); clear HB; have HO466 := n0_; have HB := n1_; clear n0_ n1_; (try clear hb); (try clear hb2); (try clear hk); (try clear hi); (try clear ho0)) | ((with_reducible refine gate_dst (N := 3) rfl ?_); (try (refine gate_guard (by rfl) ?_; dsimp only)); refine box_event ?hg (N := 3) ?hd (cs := #[.int .i64 0, .slice none 0 0]) (t := 37) ?hr ?_; (case hd => rfl); (case hg => rfl); (case hr => first | (go_simp; done) | (go_simp; rfl)); intro gb467 hg w9 hbox hb; have n0_ := Aside0.mk (Kd.S_below (by (with_reducible repeat (first | apply Kd.S_alloc | apply Kd.S_drewN | apply Kd.S_drew)); exact HO466.out) hb); have n1_ := Aside0.mk (below_step (by repeat (first | (with_reducible first | exact HB.out | apply below_alloc | apply pw_below_drewN | apply below_drew1) | exact HB.out)) hb); have n2_ := Aside0.mk (hbox); have n3_ := Aside0.mk ((by rw [hg]; exact (below_size (by repeat (first | (with_reducible first | exact HB.out | apply below_alloc | apply pw_below_drewN | apply below_drew1) | exact HB.out))) : w.heap.size ≤ gb467)); have n4_ := Aside0.mk ((by rw [hg]; exact (below_size (by repeat (first | (with_reducible first | exact HB.out | apply below_alloc | apply pw_below_drewN | apply below_drew1) | exact HB.out))) : w.heap.size ≤ gb467)); clear HO466; clear HB; have HO466 := n0_; have HB := n1_; have BK467 := n2_; have GW467 := n3_; have GE467 := n4_; clear n0_ n1_ n2_ n3_ n4_; clear hb hbox hg; obtain ⟨hcz10_0, hcz10_1⟩ := cells2 BK467.out; obtain ⟨hfz10_0, hfz10_1⟩ := frozens2 BK467.out; obtain ⟨Ao11, co11, eo11⟩ := Kd.S_slice HO466.out; subst eo11) | ((with_reducible refine gate_callee (f := 26) rfl ?_); refine goesL_ (some 13) rfl rfl Try.func26 (by kernel_rfl) rfl #[.agg #[.int .i64 t463, .slice Ao11 t464.length co11]] rfl (by (try simp only [List.map_toArray, List.map_cons, List.map_nil]); first | done | rfl | (simp only [List.length_drop, List.length_take]; rfl)) ?_; (with_reducible refine (impl_SetOf.calls k t463 _ _ t464 t468 _ ?side1 ?side2 A5.out).mono ?_); (case side1 => refine (Kd.S_reads' (e := 43) (base := w.heap.size) (ok := fun k_ => True) (n := t464.length) (c := co11) ?_).2.2; exact (by (with_reducible repeat (first | apply Kd.S_alloc | apply Kd.S_drewN | apply Kd.S_drew)); exact (Kd.S_mono (Kd.S_far (p := ⟨gb467, 1, none⟩) (Kd.S_far (p := ⟨gb467, 0, none⟩) (Kd.S_types HO466.out BK467.out (by decide)) (fun _ hk => hk.2) (.int .i64 t463)) (fun _ hk => hk.2) (.slice Ao11 t464.length co11)) (fun _ h_ => h_.1)))); (case side2 => exact (Kd.S_reads' HO466.out).2.1); rintro e w12 ⟨v469, rfl, ho0, hb⟩; refine ⟨_, rfl, ?_⟩; have n0_ := Aside0.mk (Kd.S_below (by (with_reducible repeat (first | apply Kd.S_alloc | apply Kd.S_drewN | apply Kd.S_drew)); exact (Kd.S_mono (Kd.S_far (p := ⟨gb467, 1, none⟩) (Kd.S_far (p := ⟨gb467, 0, none⟩) (Kd.S_types HO466.out BK467.out (by decide)) (fun _ hk => hk.2) (.int .i64 t463)) (fun _ hk => hk.2) (.slice Ao11 t464.length co11)) (fun _ h_ => h_.1))) hb); have n1_ := Aside0.mk (Kd.R_lower ho0 (below_size (by repeat (first | (with_reducible first | exact HB.out | apply below_alloc | apply pw_below_drewN | apply below_drew1 | refine below_set ?_ GE467.out) | exact HB.out)))); have n2_ := Aside0.mk (blk_below (g := gb467) (o := .cells #[.int .i64 t463, .slice Ao11 t464.length co11] 37 (0, 0)) (by (with_reducible repeat (first | refine blk_drewN ?_ _ | refine blk_drew ?_ | refine blk_alloc ?_ _)); refine blk_put (cs := #[.int .i64 t463, .slice none 0 0]) ?_ 1 _ rfl; (with_reducible repeat (first | refine blk_drewN ?_ _ | refine blk_drew ?_ | refine blk_alloc ?_ _)); refine blk_put (cs := #[.int .i64 0, .slice none 0 0]) ?_ 0 _ rfl; (with_reducible repeat (first | refine blk_drewN ?_ _ | refine blk_drew ?_ | refine blk_alloc ?_ _)); exact BK467.out) hb); have n3_ := Aside0.mk (below_step (by repeat (first | (with_reducible first | exact HB.out | apply below_alloc | apply pw_below_drewN | apply below_drew1 | refine below_set ?_ GE467.out) | exact HB.out)) hb); clear HO466; clear BK467; clear HB; have HO466 := n0_; have HO470 := n1_; have BK467 := n2_; have HB := n3_; clear n0_ n1_ n2_ n3_; (try clear hb); (try clear hb2); (try clear hk); (try clear hi); (try clear ho0); obtain ⟨hcz13_0, hcz13_1⟩ := cells2 BK467.out; obtain ⟨hfz13_0, hfz13_1⟩ := frozens2 BK467.out) | ((with_reducible refine gate_callee (f := 27) rfl ?_); refine goesL_ (some 15) rfl rfl Try.func27 (by kernel_rfl) rfl #[.agg #[.int .i64 t463, .slice Ao11 t464.length co11]] rfl (by (try simp only [List.map_toArray, List.map_cons, List.map_nil]); first | done | rfl | (simp only [List.length_drop, List.length_take]; rfl)) ?_; (with_reducible refine (spec_LedgerOk.calls k t463 _ _ t464 true _ ?side1 ?side2 A6.out).mono ?_); (case side1 => repeat (first | exact (Kd.S_reads' HO466.out).2.2 | (with_reducible refine Kd.C_alloc ?_ _) | (with_reducible refine Kd.C_drewN ?_ _) | (with_reducible refine Kd.C_drew ?_))); (case side2 => exact (Kd.S_reads' HO466.out).2.1); rintro e w14 ⟨rfl, hb⟩; refine ⟨_, rfl, ?_⟩; have n0_ := Aside0.mk (Kd.S_below (by (with_reducible repeat (first | apply Kd.S_alloc | apply Kd.S_drewN | apply Kd.S_drew)); exact HO466.out) hb); have n1_ := Aside0.mk (Kd.R_below (by (with_reducible repeat (first | apply Kd.R_alloc | apply Kd.R_drewN | apply Kd.R_drew)); exact HO470.out) hb); have n2_ := Aside0.mk (blk_below (g := gb467) (by (with_reducible repeat (first | refine blk_drewN ?_ _ | refine blk_drew ?_ | refine blk_alloc ?_ _)); exact BK467.out) hb); have n3_ := Aside0.mk (below_step (by repeat (first | (with_reducible first | exact HB.out | apply below_alloc | apply pw_below_drewN | apply below_drew1 | refine below_set ?_ GE467.out) | exact HB.out)) hb); clear HO466; clear HO470; clear BK467; clear HB; have HO466 := n0_; have HO470 := n1_; have BK467 := n2_; have HB := n3_; clear n0_ n1_ n2_ n3_; (try clear hb); (try clear hb2); (try clear hk); (try clear hi)))
      go_loopg [5, 6] k (fun kq v5 v6 w' => ∃ (x5_1 : Int) (x6_1 : Int), v5 = .int .i64 x5_1 ∧ v6 = .int .i64 x6_1 ∧ Aside0 (laws_FnSets.l0 kq t468 x5_1 x6_1 t463 t464 = some r) ∧ Aside0 (kq ≤ k) ∧ Aside0 (Kd.R k138 138 w' w.heap.size (fun _ => True) v469 t468) ∧ Aside0 (Kd.S k43 43 w' w.heap.size (fun _ => True) (.slice Ao11 t464.length co11) t464) ∧ Aside0 (w'.heap[gb467]? = some (.cells #[.int .i64 t463, (.slice Ao11 t464.length co11)] 37 (0, 0))) ∧ Aside0 (Below w.heap.size w w'))
      case atStart => exact ⟨(0), (0), (by first | rfl | (simp; done) | (simp [*]; done)), (by first | rfl | (simp; done) | (simp [*]; done)), H', ⟨Nat.le_refl _⟩, ⟨by (with_reducible repeat (first | apply Kd.R_alloc | apply Kd.R_drewN | apply Kd.R_drew)); exact HO470.out⟩, ⟨by (with_reducible repeat (first | apply Kd.S_alloc | apply Kd.S_drewN | apply Kd.S_drew)); exact HO466.out⟩, ⟨by (with_reducible repeat (first | refine blk_drewN ?_ _ | refine blk_drew ?_ | refine blk_alloc ?_ _)); exact BK467.out⟩, ⟨by repeat (first | (with_reducible first | exact HB.out | apply below_alloc | apply pw_below_drewN | apply below_drew1 | refine below_set ?_ GE467.out) | exact HB.out)⟩⟩
      case round =>
        clear H'
        try clear c1
        try clear c2
        try clear p2
        try clear c3
        try clear c5
        try clear c7
        try clear hcz10_0
        try clear hcz10_1
        try clear hcz13_0
        try clear hcz13_1
        try clear hfz10_0
        try clear hfz10_1
        try clear hfz13_0
        try clear hfz13_1
        obtain ⟨x5_1, x6_1, rfl, rfl, HA, HK1, HO_4, HO_468001, BK467, HB⟩ := hrel
        cases gk with
        | zero => exact absurd HA.out (by simp [laws_FnSets.l0])
        | succ k1 =>
          have H := HA.out
          clear HA
          simp only [laws_FnSets.l0] at H
          by_cases c15 : x6_1 < (t464.length : Int)
          · rw [if_pos c15] at H
            have c15b0 : decide (x6_1 < (t464.length : Int)) = true := decide_eq_true c15
            clear c15
            by_cases c16 : 0 ≤ x6_1
            · rw [if_pos c16] at H
              have c16b0 : decide (0 ≤ x6_1) = true := decide_eq_true c16
              clear c16
              replace H := Option.bind_eq_some_iff.mp H
              obtain ⟨t475, A170, H⟩ := H
              replace H : (if (t475 != (decide (((rd_T43 t464 x6_1).f3) ≥ 5))) = true then (some false) else (if t475 = true then (laws_FnSets.l0 k1 t468 (wrap64 (x5_1 + ((rd_T43 t464 x6_1).f3))) (wrap64 (x6_1 + 1)) t463 t464) else (laws_FnSets.l0 k1 t468 x5_1 (wrap64 (x6_1 + 1)) t463 t464))) = some r := H
              have A17 := Aside0.mk A170
              clear A170
              by_cases c18 : (t475 != (decide (((rd_T43 t464 x6_1).f3) ≥ 5))) = true
              · rw [if_pos c18] at H
                have c18b0 : (t475 != (decide (((rd_T43 t464 x6_1).f3) ≥ 5))) = true := c18
                (try (have c18b1 : decide (t475 = (decide (((rd_T43 t464 x6_1).f3) ≥ 5))) = false := by simpa using c18))
                (try (have c18b2 : (t475 == (decide (((rd_T43 t464 x6_1).f3) ≥ 5))) = false := by simpa using c18))
                (try (have c18b3 : ¬ (t475 = (decide (((rd_T43 t464 x6_1).f3) ≥ 5))) := by simpa using c18))
                clear c18
                obtain rfl := Option.some.inj H
                obtain ⟨hcz19_0, hcz19_1⟩ := cells2 BK467.out
                obtain ⟨hfz19_0, hfz19_1⟩ := frozens2 BK467.out
                have p474 : 0 ≤ (x6_1 : Int) := of_decide_eq_true (by first | (with_reducible assumption) | assumption)
                have q474 : x6_1 < (t464.length : Int) := of_decide_eq_true (by first | (with_reducible assumption) | assumption)
                obtain ⟨ad474, A474_4, c474_4, e474, hx474_0, hx474_1, hx474_2, hx474_3, hx474_4, hl474_4, hi474_4⟩ := at_T43 (Kd.S_reads' HO_468001.out).2.2 x6_1 p474 q474
                cases e474
                obtain ⟨ce474, hce474, hMe474, hcc474⟩ := Kd.S_get HO_468001.out z43 x6_1 p474 (by first | exact q474 | exact of_decide_eq_true (by first | (with_reducible assumption) | assumption) | (have e_ := (Kd.S_reads' HO_468001.out).1; omega))
                obtain ⟨ve474_4, rfl, ge474_4⟩ := k43_openM hMe474
                have hv474_4 := hcc474 4 _ rfl
                rw [add_field _ _ 4 (by omega)] at hv474_4
                replace hv474_4 := Option.some.inj (hv474_4.symm.trans hx474_4)
                rw [hv474_4] at ge474_4
                have HL474_4 := Aside0.mk (show Kd.R k230 230 _ _ _ _ ((rd_T43 t464 x6_1).f4) from ge474_4)
                clear hv474_4 ge474_4
                clear hcc474 hce474
                have HR474_4 := Aside0.mk hi474_4
                have HC474_4 := Aside0.mk hl474_4
                clear hi474_4 hl474_4
                replace p474 := eq_true p474
                replace q474 := eq_true q474
                obtain ⟨Ao20, co20, eo20⟩ := Kd.R_slice HO_4.out
                subst eo20
                go_wp2_with (first | ((with_reducible refine gate_callee (f := 19) rfl ?_); refine goesL_ (some 34) rfl rfl Try.func19 (by kernel_rfl) rfl #[.slice Ao20 t468.length co20, .string ((rd_T43 t464 x6_1).f0)] rfl (by (try simp only [List.map_toArray, List.map_cons, List.map_nil]); first | done | rfl | (simp only [List.length_drop, List.length_take]; rfl)) ?_; (with_reducible refine (laws_inSet.calls k1 _ _ t468 ((rd_T43 t464 x6_1).f0) t475 _ ?side1 ?side2 A17.out).mono ?_); (case side1 => repeat (first | exact (Kd.R_reads' HO_4.out).2.2 | (with_reducible refine Kd.C_alloc ?_ _) | (with_reducible refine Kd.C_drewN ?_ _) | (with_reducible refine Kd.C_drew ?_))); (case side2 => exact (Kd.R_reads' HO_4.out).2.1); rintro e w' ⟨rfl, ⟨nd, rfl⟩⟩; refine ⟨_, rfl, ?_⟩; have p476 : 0 ≤ (x6_1 : Int) := of_decide_eq_true (by first | (with_reducible assumption) | assumption); have q476 : x6_1 < (t464.length : Int) := of_decide_eq_true (by first | (with_reducible assumption) | assumption); obtain ⟨ad476, A476_4, c476_4, e476, hx476_0, hx476_1, hx476_2, hx476_3, hx476_4, hl476_4, hi476_4⟩ := at_T43 (Kd.S_reads' HO_468001.out).2.2 x6_1 p476 q476; obtain rfl : ad474 = ad476 := (by injection e476); obtain ⟨ce476, hce476, hMe476, hcc476⟩ := Kd.S_get HO_468001.out z43 x6_1 p476 (by first | exact q476 | exact of_decide_eq_true (by first | (with_reducible assumption) | assumption) | (have e_ := (Kd.S_reads' HO_468001.out).1; omega)); obtain ⟨ve476_4, rfl, ge476_4⟩ := k43_openM hMe476; have hv476_4 := hcc476 4 _ rfl; rw [add_field _ _ 4 (by omega)] at hv476_4; replace hv476_4 := Option.some.inj (hv476_4.symm.trans hx476_4); rw [hv476_4] at ge476_4; have HL476_4 := Aside0.mk (show Kd.R k230 230 _ _ _ _ ((rd_T43 t464 x6_1).f4) from ge476_4); clear hv476_4 ge476_4; clear hcc476 hce476; have HR476_4 := Aside0.mk hi476_4; have HC476_4 := Aside0.mk hl476_4; clear hi476_4 hl476_4; replace p476 := eq_true p476; replace q476 := eq_true q476; have ea_ := Option.some.inj (hx474_4.symm.trans hx476_4); injection ea_ with ea_ en_ ec_; subst ea_; subst ec_; clear en_))
                go_ret
                exact ⟨by first | rfl | (simp [errW_none, errW_some] <;> rfl) | (simp [*, errW_none, errW_some] <;> rfl), by repeat (first | (with_reducible first | exact HB.out | apply below_alloc | apply pw_below_drewN | apply below_drew1 | refine below_set ?_ GE467.out) | exact HB.out)⟩
              · rw [if_neg c18] at H
                have c18b0 : (t475 != (decide (((rd_T43 t464 x6_1).f3) ≥ 5))) = false := by simpa using c18
                (try (have c18b1 : decide (t475 = (decide (((rd_T43 t464 x6_1).f3) ≥ 5))) = true := by simpa using c18))
                (try (have c18b2 : (t475 == (decide (((rd_T43 t464 x6_1).f3) ≥ 5))) = true := by simpa using c18))
                clear c18
                by_cases c21 : t475 = true
                · subst c21
                  have H1 : (laws_FnSets.l0 k1 t468 (wrap64 (x5_1 + ((rd_T43 t464 x6_1).f3))) (wrap64 (x6_1 + 1)) t463 t464) = some r := by rw [if_pos rfl] at H; exact H
                  clear H
                  have H := H1
                  clear H1
                  have H' := Aside0.mk H
                  clear H
                  obtain ⟨hcz22_0, hcz22_1⟩ := cells2 BK467.out
                  obtain ⟨hfz22_0, hfz22_1⟩ := frozens2 BK467.out
                  have p474 : 0 ≤ (x6_1 : Int) := of_decide_eq_true (by first | (with_reducible assumption) | assumption)
                  have q474 : x6_1 < (t464.length : Int) := of_decide_eq_true (by first | (with_reducible assumption) | assumption)
                  obtain ⟨ad474, A474_4, c474_4, e474, hx474_0, hx474_1, hx474_2, hx474_3, hx474_4, hl474_4, hi474_4⟩ := at_T43 (Kd.S_reads' HO_468001.out).2.2 x6_1 p474 q474
                  cases e474
                  obtain ⟨ce474, hce474, hMe474, hcc474⟩ := Kd.S_get HO_468001.out z43 x6_1 p474 (by first | exact q474 | exact of_decide_eq_true (by first | (with_reducible assumption) | assumption) | (have e_ := (Kd.S_reads' HO_468001.out).1; omega))
                  obtain ⟨ve474_4, rfl, ge474_4⟩ := k43_openM hMe474
                  have hv474_4 := hcc474 4 _ rfl
                  rw [add_field _ _ 4 (by omega)] at hv474_4
                  replace hv474_4 := Option.some.inj (hv474_4.symm.trans hx474_4)
                  rw [hv474_4] at ge474_4
                  have HL474_4 := Aside0.mk (show Kd.R k230 230 _ _ _ _ ((rd_T43 t464 x6_1).f4) from ge474_4)
                  clear hv474_4 ge474_4
                  clear hcc474 hce474
                  have HR474_4 := Aside0.mk hi474_4
                  have HC474_4 := Aside0.mk hl474_4
                  clear hi474_4 hl474_4
                  replace p474 := eq_true p474
                  replace q474 := eq_true q474
                  obtain ⟨Ao23, co23, eo23⟩ := Kd.R_slice HO_4.out
                  subst eo23
                  go_wp2_with (first | ((with_reducible refine gate_callee (f := 19) rfl ?_); refine goesL_ (some 34) rfl rfl Try.func19 (by kernel_rfl) rfl #[.slice Ao23 t468.length co23, .string ((rd_T43 t464 x6_1).f0)] rfl (by (try simp only [List.map_toArray, List.map_cons, List.map_nil]); first | done | rfl | (simp only [List.length_drop, List.length_take]; rfl)) ?_; (with_reducible refine (laws_inSet.calls k1 _ _ t468 ((rd_T43 t464 x6_1).f0) true _ ?side1 ?side2 A17.out).mono ?_); (case side1 => repeat (first | exact (Kd.R_reads' HO_4.out).2.2 | (with_reducible refine Kd.C_alloc ?_ _) | (with_reducible refine Kd.C_drewN ?_ _) | (with_reducible refine Kd.C_drew ?_))); (case side2 => exact (Kd.R_reads' HO_4.out).2.1); rintro e w' ⟨rfl, ⟨nd, rfl⟩⟩; refine ⟨_, rfl, ?_⟩; have p476 : 0 ≤ (x6_1 : Int) := of_decide_eq_true (by first | (with_reducible assumption) | assumption); have q476 : x6_1 < (t464.length : Int) := of_decide_eq_true (by first | (with_reducible assumption) | assumption); obtain ⟨ad476, A476_4, c476_4, e476, hx476_0, hx476_1, hx476_2, hx476_3, hx476_4, hl476_4, hi476_4⟩ := at_T43 (Kd.S_reads' HO_468001.out).2.2 x6_1 p476 q476; obtain rfl : ad474 = ad476 := (by injection e476); obtain ⟨ce476, hce476, hMe476, hcc476⟩ := Kd.S_get HO_468001.out z43 x6_1 p476 (by first | exact q476 | exact of_decide_eq_true (by first | (with_reducible assumption) | assumption) | (have e_ := (Kd.S_reads' HO_468001.out).1; omega)); obtain ⟨ve476_4, rfl, ge476_4⟩ := k43_openM hMe476; have hv476_4 := hcc476 4 _ rfl; rw [add_field _ _ 4 (by omega)] at hv476_4; replace hv476_4 := Option.some.inj (hv476_4.symm.trans hx476_4); rw [hv476_4] at ge476_4; have HL476_4 := Aside0.mk (show Kd.R k230 230 _ _ _ _ ((rd_T43 t464 x6_1).f4) from ge476_4); clear hv476_4 ge476_4; clear hcc476 hce476; have HR476_4 := Aside0.mk hi476_4; have HC476_4 := Aside0.mk hl476_4; clear hi476_4 hl476_4; replace p476 := eq_true p476; replace q476 := eq_true q476; have ea_ := Option.some.inj (hx474_4.symm.trans hx476_4); injection ea_ with ea_ en_ ec_; subst ea_; subst ec_; clear en_; have p477 : 0 ≤ (x6_1 : Int) := of_decide_eq_true (by first | (with_reducible assumption) | assumption); have q477 : x6_1 < (t464.length : Int) := of_decide_eq_true (by first | (with_reducible assumption) | assumption); obtain ⟨ad477, A477_4, c477_4, e477, hx477_0, hx477_1, hx477_2, hx477_3, hx477_4, hl477_4, hi477_4⟩ := at_T43 (Kd.S_reads' HO_468001.out).2.2 x6_1 p477 q477; obtain rfl : ad474 = ad477 := (by injection e477); obtain ⟨ce477, hce477, hMe477, hcc477⟩ := Kd.S_get HO_468001.out z43 x6_1 p477 (by first | exact q477 | exact of_decide_eq_true (by first | (with_reducible assumption) | assumption) | (have e_ := (Kd.S_reads' HO_468001.out).1; omega)); obtain ⟨ve477_4, rfl, ge477_4⟩ := k43_openM hMe477; have hv477_4 := hcc477 4 _ rfl; rw [add_field _ _ 4 (by omega)] at hv477_4; replace hv477_4 := Option.some.inj (hv477_4.symm.trans hx477_4); rw [hv477_4] at ge477_4; have HL477_4 := Aside0.mk (show Kd.R k230 230 _ _ _ _ ((rd_T43 t464 x6_1).f4) from ge477_4); clear hv477_4 ge477_4; clear hcc477 hce477; have HR477_4 := Aside0.mk hi477_4; have HC477_4 := Aside0.mk hl477_4; clear hi477_4 hl477_4; replace p477 := eq_true p477; replace q477 := eq_true q477; have ea_ := Option.some.inj (hx474_4.symm.trans hx477_4); injection ea_ with ea_ en_ ec_; subst ea_; subst ec_; clear en_))
                  go_roundg k1
                  case measure => have := HK1.out; omega
                  case rel => exact ⟨(wrap64 (x5_1 + ((rd_T43 t464 x6_1).f3))), (wrap64 (x6_1 + 1)), (by first | rfl | (simp; done) | (simp [*]; done)), (by first | rfl | (simp; done) | (simp [*]; done)), H', ⟨by have := HK1.out; omega⟩, ⟨by (with_reducible repeat (first | apply Kd.R_alloc | apply Kd.R_drewN | apply Kd.R_drew)); exact HO_4.out⟩, ⟨by (with_reducible repeat (first | apply Kd.S_alloc | apply Kd.S_drewN | apply Kd.S_drew)); exact HO_468001.out⟩, ⟨by (with_reducible repeat (first | refine blk_drewN ?_ _ | refine blk_drew ?_ | refine blk_alloc ?_ _)); exact BK467.out⟩, ⟨by repeat (first | (with_reducible first | exact HB.out | apply below_alloc | apply pw_below_drewN | apply below_drew1 | refine below_set ?_ GE467.out) | exact HB.out)⟩⟩
                · replace c21 := Bool.eq_false_iff.mpr c21
                  subst c21
                  have H1 : (laws_FnSets.l0 k1 t468 x5_1 (wrap64 (x6_1 + 1)) t463 t464) = some r := by rw [if_neg (show ¬ (false = true) by decide)] at H; exact H
                  clear H
                  have H := H1
                  clear H1
                  have H' := Aside0.mk H
                  clear H
                  obtain ⟨hcz24_0, hcz24_1⟩ := cells2 BK467.out
                  obtain ⟨hfz24_0, hfz24_1⟩ := frozens2 BK467.out
                  have p474 : 0 ≤ (x6_1 : Int) := of_decide_eq_true (by first | (with_reducible assumption) | assumption)
                  have q474 : x6_1 < (t464.length : Int) := of_decide_eq_true (by first | (with_reducible assumption) | assumption)
                  obtain ⟨ad474, A474_4, c474_4, e474, hx474_0, hx474_1, hx474_2, hx474_3, hx474_4, hl474_4, hi474_4⟩ := at_T43 (Kd.S_reads' HO_468001.out).2.2 x6_1 p474 q474
                  cases e474
                  obtain ⟨ce474, hce474, hMe474, hcc474⟩ := Kd.S_get HO_468001.out z43 x6_1 p474 (by first | exact q474 | exact of_decide_eq_true (by first | (with_reducible assumption) | assumption) | (have e_ := (Kd.S_reads' HO_468001.out).1; omega))
                  obtain ⟨ve474_4, rfl, ge474_4⟩ := k43_openM hMe474
                  have hv474_4 := hcc474 4 _ rfl
                  rw [add_field _ _ 4 (by omega)] at hv474_4
                  replace hv474_4 := Option.some.inj (hv474_4.symm.trans hx474_4)
                  rw [hv474_4] at ge474_4
                  have HL474_4 := Aside0.mk (show Kd.R k230 230 _ _ _ _ ((rd_T43 t464 x6_1).f4) from ge474_4)
                  clear hv474_4 ge474_4
                  clear hcc474 hce474
                  have HR474_4 := Aside0.mk hi474_4
                  have HC474_4 := Aside0.mk hl474_4
                  clear hi474_4 hl474_4
                  replace p474 := eq_true p474
                  replace q474 := eq_true q474
                  obtain ⟨Ao25, co25, eo25⟩ := Kd.R_slice HO_4.out
                  subst eo25
                  go_wp2_with (first | ((with_reducible refine gate_callee (f := 19) rfl ?_); refine goesL_ (some 34) rfl rfl Try.func19 (by kernel_rfl) rfl #[.slice Ao25 t468.length co25, .string ((rd_T43 t464 x6_1).f0)] rfl (by (try simp only [List.map_toArray, List.map_cons, List.map_nil]); first | done | rfl | (simp only [List.length_drop, List.length_take]; rfl)) ?_; (with_reducible refine (laws_inSet.calls k1 _ _ t468 ((rd_T43 t464 x6_1).f0) false _ ?side1 ?side2 A17.out).mono ?_); (case side1 => repeat (first | exact (Kd.R_reads' HO_4.out).2.2 | (with_reducible refine Kd.C_alloc ?_ _) | (with_reducible refine Kd.C_drewN ?_ _) | (with_reducible refine Kd.C_drew ?_))); (case side2 => exact (Kd.R_reads' HO_4.out).2.1); rintro e w' ⟨rfl, ⟨nd, rfl⟩⟩; refine ⟨_, rfl, ?_⟩; have p476 : 0 ≤ (x6_1 : Int) := of_decide_eq_true (by first | (with_reducible assumption) | assumption); have q476 : x6_1 < (t464.length : Int) := of_decide_eq_true (by first | (with_reducible assumption) | assumption); obtain ⟨ad476, A476_4, c476_4, e476, hx476_0, hx476_1, hx476_2, hx476_3, hx476_4, hl476_4, hi476_4⟩ := at_T43 (Kd.S_reads' HO_468001.out).2.2 x6_1 p476 q476; obtain rfl : ad474 = ad476 := (by injection e476); obtain ⟨ce476, hce476, hMe476, hcc476⟩ := Kd.S_get HO_468001.out z43 x6_1 p476 (by first | exact q476 | exact of_decide_eq_true (by first | (with_reducible assumption) | assumption) | (have e_ := (Kd.S_reads' HO_468001.out).1; omega)); obtain ⟨ve476_4, rfl, ge476_4⟩ := k43_openM hMe476; have hv476_4 := hcc476 4 _ rfl; rw [add_field _ _ 4 (by omega)] at hv476_4; replace hv476_4 := Option.some.inj (hv476_4.symm.trans hx476_4); rw [hv476_4] at ge476_4; have HL476_4 := Aside0.mk (show Kd.R k230 230 _ _ _ _ ((rd_T43 t464 x6_1).f4) from ge476_4); clear hv476_4 ge476_4; clear hcc476 hce476; have HR476_4 := Aside0.mk hi476_4; have HC476_4 := Aside0.mk hl476_4; clear hi476_4 hl476_4; replace p476 := eq_true p476; replace q476 := eq_true q476; have ea_ := Option.some.inj (hx474_4.symm.trans hx476_4); injection ea_ with ea_ en_ ec_; subst ea_; subst ec_; clear en_))
                  go_roundg k1
                  case measure => have := HK1.out; omega
                  case rel => exact ⟨(x5_1), (wrap64 (x6_1 + 1)), (by first | rfl | (simp; done) | (simp [*]; done)), (by first | rfl | (simp; done) | (simp [*]; done)), H', ⟨by have := HK1.out; omega⟩, ⟨by (with_reducible repeat (first | apply Kd.R_alloc | apply Kd.R_drewN | apply Kd.R_drew)); exact HO_4.out⟩, ⟨by (with_reducible repeat (first | apply Kd.S_alloc | apply Kd.S_drewN | apply Kd.S_drew)); exact HO_468001.out⟩, ⟨by (with_reducible repeat (first | refine blk_drewN ?_ _ | refine blk_drew ?_ | refine blk_alloc ?_ _)); exact BK467.out⟩, ⟨by repeat (first | (with_reducible first | exact HB.out | apply below_alloc | apply pw_below_drewN | apply below_drew1 | refine below_set ?_ GE467.out) | exact HB.out)⟩⟩
            · rw [if_neg c16] at H
              exact absurd H (by simp)
          · rw [if_neg c15] at H
            have c15b0 : decide (x6_1 < (t464.length : Int)) = false := decide_eq_false c15
            clear c15
            replace H := Option.bind_eq_some_iff.mp H
            obtain ⟨t472, A260, H⟩ := H
            replace H : (if t472 = x5_1 then (if (t468.length : Int) = 0 then (some true) else ((impl_SetOk.f k1 t468).bind fun t473 => (some t473))) else (some false)) = some r := H
            have A26 := Aside0.mk A260
            clear A260
            by_cases c27 : t472 = x5_1
            · rw [if_pos c27] at H
              have c27b0 : (t472 == x5_1) = true := beq_iff_eq.mpr c27
              have c27b1 : (t472 != x5_1) = false := bne_eq_false_iff_eq.mpr c27
              clear c27
              by_cases c28 : (t468.length : Int) = 0
              · rw [if_pos c28] at H
                have c28b0 : ((t468.length : Int) == 0) = true := beq_iff_eq.mpr c28
                have c28b1 : ((t468.length : Int) != 0) = false := bne_eq_false_iff_eq.mpr c28
                clear c28
                obtain rfl := Option.some.inj H
                obtain ⟨hcz29_0, hcz29_1⟩ := cells2 BK467.out
                obtain ⟨hfz29_0, hfz29_1⟩ := frozens2 BK467.out
                obtain ⟨Ao30, co30, eo30⟩ := Kd.R_slice HO_4.out
                subst eo30
                go_wp2_with (first | ((with_reducible refine gate_callee (f := 23) rfl ?_); refine goesL_ (some 54) rfl rfl Try.func23 (by kernel_rfl) rfl #[.slice Ao30 t468.length co30] rfl (by (try simp only [List.map_toArray, List.map_cons, List.map_nil]); first | done | rfl | (simp only [List.length_drop, List.length_take]; rfl)) ?_; (with_reducible refine (impl_TotalOf.calls k1 _ _ t468 t472 _ ?side1 ?side2 A26.out).mono ?_); (case side1 => repeat (first | exact (Kd.R_reads' HO_4.out).2.2 | (with_reducible refine Kd.C_alloc ?_ _) | (with_reducible refine Kd.C_drewN ?_ _) | (with_reducible refine Kd.C_drew ?_))); (case side2 => exact (Kd.R_reads' HO_4.out).2.1); rintro e w31 ⟨rfl, hb⟩; refine ⟨_, rfl, ?_⟩; have n0_ := Aside0.mk (Kd.R_below (by (with_reducible repeat (first | apply Kd.R_alloc | apply Kd.R_drewN | apply Kd.R_drew)); exact HO_4.out) hb); have n1_ := Aside0.mk (Kd.S_below (by (with_reducible repeat (first | apply Kd.S_alloc | apply Kd.S_drewN | apply Kd.S_drew)); exact HO_468001.out) hb); have n2_ := Aside0.mk (blk_below (g := gb467) (by (with_reducible repeat (first | refine blk_drewN ?_ _ | refine blk_drew ?_ | refine blk_alloc ?_ _)); exact BK467.out) hb); have n3_ := Aside0.mk (below_step (by repeat (first | (with_reducible first | exact HB.out | apply below_alloc | apply pw_below_drewN | apply below_drew1 | refine below_set ?_ GE467.out) | exact HB.out)) hb); clear HO_4; clear HO_468001; clear BK467; clear HB; have HO_4 := n0_; have HO_468001 := n1_; have BK467 := n2_; have HB := n3_; clear n0_ n1_ n2_ n3_; (try clear hb); (try clear hb2); (try clear hk); (try clear hi)))
                go_ret
                exact ⟨by first | rfl | (simp [errW_none, errW_some] <;> rfl) | (simp [*, errW_none, errW_some] <;> rfl), by repeat (first | (with_reducible first | exact HB.out | apply below_alloc | apply pw_below_drewN | apply below_drew1 | refine below_set ?_ GE467.out) | exact HB.out)⟩
              · rw [if_neg c28] at H
                have c28b0 : ((t468.length : Int) == 0) = false := beq_eq_false_iff_ne.mpr c28
                have c28b1 : ((t468.length : Int) != 0) = true := bne_iff_ne.mpr c28
                have c28b2 : ¬ (t468 = []) := fun h_ => c28 (by rw [h_]; rfl)
                replace H := Option.bind_eq_some_iff.mp H
                obtain ⟨t473, A320, H⟩ := H
                replace H : (some t473) = some r := H
                have A32 := Aside0.mk A320
                clear A320
                obtain rfl := Option.some.inj H
                obtain ⟨hcz33_0, hcz33_1⟩ := cells2 BK467.out
                obtain ⟨hfz33_0, hfz33_1⟩ := frozens2 BK467.out
                obtain ⟨Ao34, co34, eo34⟩ := Kd.R_slice HO_4.out
                subst eo34
                go_wp2_with (first | ((with_reducible refine gate_callee (f := 23) rfl ?_); refine goesL_ (some 54) rfl rfl Try.func23 (by kernel_rfl) rfl #[.slice Ao34 t468.length co34] rfl (by (try simp only [List.map_toArray, List.map_cons, List.map_nil]); first | done | rfl | (simp only [List.length_drop, List.length_take]; rfl)) ?_; (with_reducible refine (impl_TotalOf.calls k1 _ _ t468 t472 _ ?side1 ?side2 A26.out).mono ?_); (case side1 => repeat (first | exact (Kd.R_reads' HO_4.out).2.2 | (with_reducible refine Kd.C_alloc ?_ _) | (with_reducible refine Kd.C_drewN ?_ _) | (with_reducible refine Kd.C_drew ?_))); (case side2 => exact (Kd.R_reads' HO_4.out).2.1); rintro e w35 ⟨rfl, hb⟩; refine ⟨_, rfl, ?_⟩; have n0_ := Aside0.mk (Kd.R_below (by (with_reducible repeat (first | apply Kd.R_alloc | apply Kd.R_drewN | apply Kd.R_drew)); exact HO_4.out) hb); have n1_ := Aside0.mk (Kd.S_below (by (with_reducible repeat (first | apply Kd.S_alloc | apply Kd.S_drewN | apply Kd.S_drew)); exact HO_468001.out) hb); have n2_ := Aside0.mk (blk_below (g := gb467) (by (with_reducible repeat (first | refine blk_drewN ?_ _ | refine blk_drew ?_ | refine blk_alloc ?_ _)); exact BK467.out) hb); have n3_ := Aside0.mk (below_step (by repeat (first | (with_reducible first | exact HB.out | apply below_alloc | apply pw_below_drewN | apply below_drew1 | refine below_set ?_ GE467.out) | exact HB.out)) hb); clear HO_4; clear HO_468001; clear BK467; clear HB; have HO_4 := n0_; have HO_468001 := n1_; have BK467 := n2_; have HB := n3_; clear n0_ n1_ n2_ n3_; (try clear hb); (try clear hb2); (try clear hk); (try clear hi)) | (go_at_call 28; (with_reducible refine (impl_SetOk.calls k1 _ _ t468 t473 _ ?side1 ?side2 A32.out).mono ?_); (case side1 => repeat (first | exact (Kd.R_reads' HO_4.out).2.2 | (with_reducible refine Kd.C_alloc ?_ _) | (with_reducible refine Kd.C_drewN ?_ _) | (with_reducible refine Kd.C_drew ?_))); (case side2 => exact (Kd.R_reads' HO_4.out).2.1); rintro e w36 ⟨rfl, hb⟩; have n0_ := Aside0.mk (Kd.R_below (by (with_reducible repeat (first | apply Kd.R_alloc | apply Kd.R_drewN | apply Kd.R_drew)); exact HO_4.out) hb); have n1_ := Aside0.mk (Kd.S_below (by (with_reducible repeat (first | apply Kd.S_alloc | apply Kd.S_drewN | apply Kd.S_drew)); exact HO_468001.out) hb); have n2_ := Aside0.mk (blk_below (g := gb467) (by (with_reducible repeat (first | refine blk_drewN ?_ _ | refine blk_drew ?_ | refine blk_alloc ?_ _)); exact BK467.out) hb); have n3_ := Aside0.mk (below_step (by repeat (first | (with_reducible first | exact HB.out | apply below_alloc | apply pw_below_drewN | apply below_drew1 | refine below_set ?_ GE467.out) | exact HB.out)) hb); clear HO_4; clear HO_468001; clear BK467; clear HB; have HO_4 := n0_; have HO_468001 := n1_; have BK467 := n2_; have HB := n3_; clear n0_ n1_ n2_ n3_; (try clear hb); (try clear hb2); (try clear hk); (try clear hi)))
                go_ret
                exact ⟨by first | rfl | (simp [errW_none, errW_some] <;> rfl) | (simp [*, errW_none, errW_some] <;> rfl), by repeat (first | (with_reducible first | exact HB.out | apply below_alloc | apply pw_below_drewN | apply below_drew1 | refine below_set ?_ GE467.out) | exact HB.out)⟩
            · rw [if_neg c27] at H
              have c27b0 : (t472 == x5_1) = false := beq_eq_false_iff_ne.mpr c27
              have c27b1 : (t472 != x5_1) = true := bne_iff_ne.mpr c27
              obtain rfl := Option.some.inj H
              obtain ⟨hcz37_0, hcz37_1⟩ := cells2 BK467.out
              obtain ⟨hfz37_0, hfz37_1⟩ := frozens2 BK467.out
              obtain ⟨Ao38, co38, eo38⟩ := Kd.R_slice HO_4.out
              subst eo38
              go_wp2_with (first | ((with_reducible refine gate_callee (f := 23) rfl ?_); refine goesL_ (some 54) rfl rfl Try.func23 (by kernel_rfl) rfl #[.slice Ao38 t468.length co38] rfl (by (try simp only [List.map_toArray, List.map_cons, List.map_nil]); first | done | rfl | (simp only [List.length_drop, List.length_take]; rfl)) ?_; (with_reducible refine (impl_TotalOf.calls k1 _ _ t468 t472 _ ?side1 ?side2 A26.out).mono ?_); (case side1 => repeat (first | exact (Kd.R_reads' HO_4.out).2.2 | (with_reducible refine Kd.C_alloc ?_ _) | (with_reducible refine Kd.C_drewN ?_ _) | (with_reducible refine Kd.C_drew ?_))); (case side2 => exact (Kd.R_reads' HO_4.out).2.1); rintro e w39 ⟨rfl, hb⟩; refine ⟨_, rfl, ?_⟩; have n0_ := Aside0.mk (Kd.R_below (by (with_reducible repeat (first | apply Kd.R_alloc | apply Kd.R_drewN | apply Kd.R_drew)); exact HO_4.out) hb); have n1_ := Aside0.mk (Kd.S_below (by (with_reducible repeat (first | apply Kd.S_alloc | apply Kd.S_drewN | apply Kd.S_drew)); exact HO_468001.out) hb); have n2_ := Aside0.mk (blk_below (g := gb467) (by (with_reducible repeat (first | refine blk_drewN ?_ _ | refine blk_drew ?_ | refine blk_alloc ?_ _)); exact BK467.out) hb); have n3_ := Aside0.mk (below_step (by repeat (first | (with_reducible first | exact HB.out | apply below_alloc | apply pw_below_drewN | apply below_drew1 | refine below_set ?_ GE467.out) | exact HB.out)) hb); clear HO_4; clear HO_468001; clear BK467; clear HB; have HO_4 := n0_; have HO_468001 := n1_; have BK467 := n2_; have HB := n3_; clear n0_ n1_ n2_ n3_; (try clear hb); (try clear hb2); (try clear hk); (try clear hi)))
              go_ret
              exact ⟨by first | rfl | (simp [errW_none, errW_some] <;> rfl) | (simp [*, errW_none, errW_some] <;> rfl), by repeat (first | (with_reducible first | exact HB.out | apply below_alloc | apply pw_below_drewN | apply below_drew1 | refine below_set ?_ GE467.out) | exact HB.out)⟩
    · replace c7 := Bool.eq_false_iff.mpr c7
      subst c7
      have H1 : (some ((t468.length : Int) == 0)) = some r := by rw [if_neg (show ¬ (false = true) by decide)] at H; exact H
      clear H
      have H := H1
      clear H1
      obtain rfl := Option.some.inj H
      go_enter Try.func5, Try.ntmps5
      go_wp2_with (first | ((with_reducible refine gate_callee (f := 15) rfl ?_); refine goesL_ (some 9) rfl rfl Try.func15 (by kernel_rfl) rfl #[.slice A0 l0.length c0] rfl (by (try simp only [List.map_toArray, List.map_cons, List.map_nil]); first | done | rfl | (simp only [List.length_drop, List.length_take]; rfl)) ?_; (with_reducible refine (laws_big.calls _ _ l0 false _ ?side1 ?side2 A2.out).mono ?_); (case side1 => repeat (first | exact HR0.out | (with_reducible refine Kd.C_alloc ?_ _) | (with_reducible refine Kd.C_drewN ?_ _) | (with_reducible refine Kd.C_drew ?_))); (case side2 => exact HC0.out); rintro e w' ⟨rfl, ⟨nd, rfl⟩⟩; refine ⟨_, rfl, ?_⟩) | ((with_reducible refine gate_callee (f := 25) rfl ?_); refine goesL_ (some 11) rfl rfl Try.func25 (by kernel_rfl) rfl #[.slice A0 l0.length c0] rfl (by (try simp only [List.map_toArray, List.map_cons, List.map_nil]); first | done | rfl | (simp only [List.length_drop, List.length_take]; rfl)) ?_; (with_reducible refine (spec_DrawSetOf.calls k _ _ l0 t463 t464 _ ?side1 ?side2 A4.out).mono ?_); (case side1 => repeat (first | exact HR0.out | (with_reducible refine Kd.C_alloc ?_ _) | (with_reducible refine Kd.C_drewN ?_ _) | (with_reducible refine Kd.C_drew ?_))); (case side2 => exact HC0.out); rintro e w40 ⟨v465, rfl, ho0, hb⟩; refine ⟨_, rfl, ?_⟩; have n0_ := Aside0.mk (Kd.S_lower ho0 (below_size (by repeat (first | (with_reducible first | exact HB.out | apply below_alloc | apply pw_below_drewN | apply below_drew1) | exact HB.out)))); have n1_ := Aside0.mk (below_step (by repeat (first | (with_reducible first | exact HB.out | apply below_alloc | apply pw_below_drewN | apply below_drew1) | exact HB.out)) hb); clear HB; have HO466 := n0_; have HB := n1_; clear n0_ n1_; (try clear hb); (try clear hb2); (try clear hk); (try clear hi); (try clear ho0)) | ((with_reducible refine gate_dst (N := 3) rfl ?_); (try (refine gate_guard (by rfl) ?_; dsimp only)); refine box_event ?hg (N := 3) ?hd (cs := #[.int .i64 0, .slice none 0 0]) (t := 37) ?hr ?_; (case hd => rfl); (case hg => rfl); (case hr => first | (go_simp; done) | (go_simp; rfl)); intro gb467 hg w41 hbox hb; have n0_ := Aside0.mk (Kd.S_below (by (with_reducible repeat (first | apply Kd.S_alloc | apply Kd.S_drewN | apply Kd.S_drew)); exact HO466.out) hb); have n1_ := Aside0.mk (below_step (by repeat (first | (with_reducible first | exact HB.out | apply below_alloc | apply pw_below_drewN | apply below_drew1) | exact HB.out)) hb); have n2_ := Aside0.mk (hbox); have n3_ := Aside0.mk ((by rw [hg]; exact (below_size (by repeat (first | (with_reducible first | exact HB.out | apply below_alloc | apply pw_below_drewN | apply below_drew1) | exact HB.out))) : w.heap.size ≤ gb467)); have n4_ := Aside0.mk ((by rw [hg]; exact (below_size (by repeat (first | (with_reducible first | exact HB.out | apply below_alloc | apply pw_below_drewN | apply below_drew1) | exact HB.out))) : w.heap.size ≤ gb467)); clear HO466; clear HB; have HO466 := n0_; have HB := n1_; have BK467 := n2_; have GW467 := n3_; have GE467 := n4_; clear n0_ n1_ n2_ n3_ n4_; clear hb hbox hg; obtain ⟨hcz42_0, hcz42_1⟩ := cells2 BK467.out; obtain ⟨hfz42_0, hfz42_1⟩ := frozens2 BK467.out; obtain ⟨Ao43, co43, eo43⟩ := Kd.S_slice HO466.out; subst eo43) | ((with_reducible refine gate_callee (f := 26) rfl ?_); refine goesL_ (some 13) rfl rfl Try.func26 (by kernel_rfl) rfl #[.agg #[.int .i64 t463, .slice Ao43 t464.length co43]] rfl (by (try simp only [List.map_toArray, List.map_cons, List.map_nil]); first | done | rfl | (simp only [List.length_drop, List.length_take]; rfl)) ?_; (with_reducible refine (impl_SetOf.calls k t463 _ _ t464 t468 _ ?side1 ?side2 A5.out).mono ?_); (case side1 => refine (Kd.S_reads' (e := 43) (base := w.heap.size) (ok := fun k_ => True) (n := t464.length) (c := co43) ?_).2.2; exact (by (with_reducible repeat (first | apply Kd.S_alloc | apply Kd.S_drewN | apply Kd.S_drew)); exact (Kd.S_mono (Kd.S_far (p := ⟨gb467, 1, none⟩) (Kd.S_far (p := ⟨gb467, 0, none⟩) (Kd.S_types HO466.out BK467.out (by decide)) (fun _ hk => hk.2) (.int .i64 t463)) (fun _ hk => hk.2) (.slice Ao43 t464.length co43)) (fun _ h_ => h_.1)))); (case side2 => exact (Kd.S_reads' HO466.out).2.1); rintro e w44 ⟨v469, rfl, ho0, hb⟩; refine ⟨_, rfl, ?_⟩; have n0_ := Aside0.mk (Kd.S_below (by (with_reducible repeat (first | apply Kd.S_alloc | apply Kd.S_drewN | apply Kd.S_drew)); exact (Kd.S_mono (Kd.S_far (p := ⟨gb467, 1, none⟩) (Kd.S_far (p := ⟨gb467, 0, none⟩) (Kd.S_types HO466.out BK467.out (by decide)) (fun _ hk => hk.2) (.int .i64 t463)) (fun _ hk => hk.2) (.slice Ao43 t464.length co43)) (fun _ h_ => h_.1))) hb); have n1_ := Aside0.mk (Kd.R_lower ho0 (below_size (by repeat (first | (with_reducible first | exact HB.out | apply below_alloc | apply pw_below_drewN | apply below_drew1 | refine below_set ?_ GE467.out) | exact HB.out)))); have n2_ := Aside0.mk (blk_below (g := gb467) (o := .cells #[.int .i64 t463, .slice Ao43 t464.length co43] 37 (0, 0)) (by (with_reducible repeat (first | refine blk_drewN ?_ _ | refine blk_drew ?_ | refine blk_alloc ?_ _)); refine blk_put (cs := #[.int .i64 t463, .slice none 0 0]) ?_ 1 _ rfl; (with_reducible repeat (first | refine blk_drewN ?_ _ | refine blk_drew ?_ | refine blk_alloc ?_ _)); refine blk_put (cs := #[.int .i64 0, .slice none 0 0]) ?_ 0 _ rfl; (with_reducible repeat (first | refine blk_drewN ?_ _ | refine blk_drew ?_ | refine blk_alloc ?_ _)); exact BK467.out) hb); have n3_ := Aside0.mk (below_step (by repeat (first | (with_reducible first | exact HB.out | apply below_alloc | apply pw_below_drewN | apply below_drew1 | refine below_set ?_ GE467.out) | exact HB.out)) hb); clear HO466; clear BK467; clear HB; have HO466 := n0_; have HO470 := n1_; have BK467 := n2_; have HB := n3_; clear n0_ n1_ n2_ n3_; (try clear hb); (try clear hb2); (try clear hk); (try clear hi); (try clear ho0); obtain ⟨hcz45_0, hcz45_1⟩ := cells2 BK467.out; obtain ⟨hfz45_0, hfz45_1⟩ := frozens2 BK467.out) | ((with_reducible refine gate_callee (f := 27) rfl ?_); refine goesL_ (some 15) rfl rfl Try.func27 (by kernel_rfl) rfl #[.agg #[.int .i64 t463, .slice Ao43 t464.length co43]] rfl (by (try simp only [List.map_toArray, List.map_cons, List.map_nil]); first | done | rfl | (simp only [List.length_drop, List.length_take]; rfl)) ?_; (with_reducible refine (spec_LedgerOk.calls k t463 _ _ t464 false _ ?side1 ?side2 A6.out).mono ?_); (case side1 => repeat (first | exact (Kd.S_reads' HO466.out).2.2 | (with_reducible refine Kd.C_alloc ?_ _) | (with_reducible refine Kd.C_drewN ?_ _) | (with_reducible refine Kd.C_drew ?_))); (case side2 => exact (Kd.S_reads' HO466.out).2.1); rintro e w46 ⟨rfl, hb⟩; refine ⟨_, rfl, ?_⟩; have n0_ := Aside0.mk (Kd.S_below (by (with_reducible repeat (first | apply Kd.S_alloc | apply Kd.S_drewN | apply Kd.S_drew)); exact HO466.out) hb); have n1_ := Aside0.mk (Kd.R_below (by (with_reducible repeat (first | apply Kd.R_alloc | apply Kd.R_drewN | apply Kd.R_drew)); exact HO470.out) hb); have n2_ := Aside0.mk (blk_below (g := gb467) (by (with_reducible repeat (first | refine blk_drewN ?_ _ | refine blk_drew ?_ | refine blk_alloc ?_ _)); exact BK467.out) hb); have n3_ := Aside0.mk (below_step (by repeat (first | (with_reducible first | exact HB.out | apply below_alloc | apply pw_below_drewN | apply below_drew1 | refine below_set ?_ GE467.out) | exact HB.out)) hb); clear HO466; clear HO470; clear BK467; clear HB; have HO466 := n0_; have HO470 := n1_; have BK467 := n2_; have HB := n3_; clear n0_ n1_ n2_ n3_; (try clear hb); (try clear hb2); (try clear hk); (try clear hi); obtain ⟨Ao47, co47, eo47⟩ := Kd.R_slice HO470.out; subst eo47))
      go_ret
      exact ⟨by first | rfl | (simp [errW_none, errW_some] <;> rfl) | (simp [*, errW_none, errW_some] <;> rfl), by repeat (first | (with_reducible first | exact HB.out | apply below_alloc | apply pw_below_drewN | apply below_drew1 | refine below_set ?_ GE467.out) | exact HB.out)⟩

/-- THE ONE PURE STATEMENT of laws_FnSets: yours. -/
def laws_FnSets.Pure : Prop := ∀ (l0 : List Int), l0.length ≤ maxLen → l0.length * 1 ≤ 140737488351232 → (∀ x ∈ l0, (Lit.int .u8 x).wf = true) → ∃ k, laws_FnSets.f k l0 = some true
theorem laws_FnSets.walk (P : laws_FnSets.Pure) (a0 : Option Addr) (len0 cap0 : Nat) (z0 : List Int) (w : World) (w0 : (a0 = none ∧ len0 = 0 ∧ cap0 = 0 ∧ z0 = []) ∨ ∃ x, a0 = some x ∧ len0 ≤ cap0 ∧ cap0 ≤ maxLen ∧ z0.length = cap0 ∧ (∀ i, i < z0.length → w.cell? (x.add i) = some (.int .u8 (z0.getD i 0))) ∧ ∀ n ∈ z0, (Lit.int .u8 n).wf = true) (y0 : len0 * 1 ≤ 140737488351232) :
    Calls Try.prog 5 #[.slice a0 len0 cap0] w fun e w' => e = .returned (.bool true) ∧ Below w.heap.size w w' := by
  obtain ⟨l0, rfl, hr0, hm0, hw0, hc0⟩ := ReadsInt.ofRowC w0
  obtain ⟨k, h⟩ := P l0 hm0 y0 hw0
  refine (laws_FnSets.calls k _ _ l0 true w (Kd.C_of_reads (d := (0 : Int)) (h1 := fun _ => rfl) hr0) hc0 h).mono ?_
  rintro e w' ⟨rfl, hd⟩
  exact ⟨rfl, hd⟩

theorem laws_FnSets.pure : laws_FnSets.Pure := by
  intro b hm0 _ hw
  have hm : maxLen = 9223372036854775807 := rfl
  refine Ev.rounds ?_
  unfold laws_FnSets.f laws_big.f
  refine Ev.bind0 rfl (Ev.cond (fun _ => Ev.now _) (fun hc => ?_))
  have hb : b.length ≤ 1048576 := by
    have : ¬ ((b.length : Int) > 1048576) := fun h => hc (decide_eq_true h)
    omega
  obtain ⟨ep, l, e, hl⟩ := spec_DrawSetOf.is (b := b) (by omega)
  have h6 := hl.1
  refine Ev.bind e ?_
  dsimp only
  refine Ev.bind (impl_SetOf.is (by omega) hl.fit) (Ev.bind (spec_LedgerOk.is (by omega) hl.fit) (Ev.cond (fun ho => ?_) (fun ho => Ev.is ?_)))
  · obtain ⟨_, ha, hp⟩ := ledgerOk_facts ho
    have hs : setOf ep l = pick l := by unfold setOf; rw [if_pos ho]
    rw [hs]
    have hle := pick_le l
    have key : ∀ (ys pre : List S43), l = pre ++ ys → Ev (fun k => laws_FnSets.l0 k (pick l) (total (pick pre) 0) (pre.length : Int) ep l) true := by
      intro ys
      induction ys with
      | nil =>
        intro pre hx
        obtain rfl : l = pre := by rw [hx, List.append_nil]
        refine Ev.up ?_
        simp only [laws_FnSets.l0]
        refine Ev.no (by omega) (Ev.bind (impl_TotalOf.is (by omega)) (Ev.yes rfl (Ev.cond (fun _ => Ev.now _) (fun h0 => ?_))))
        refine Ev.bind (impl_SetOk.is (by omega) (fun v hv => ?_)) (Ev.is (setOk_pick ho (by omega)))
        simp only [pick, List.mem_map, List.mem_filter] at hv
        obtain ⟨a, ⟨hm', _⟩, rfl⟩ := hv
        exact (hl.fit a hm').1
      | cons y ys ih =>
        intro pre hx
        have hpl := len_app hx
        have hrd : rd_T43 l pre.length = y := by rw [hx]; exact at_app pre y ys _
        have hn := ih (pre ++ [y]) (by rw [hx]; simp)
        have hh : has y.f0 ((pick l).map (·.f0)) = decide (y.f3 ≥ 5) := by rw [hx]; exact has_pick (hx ▸ hp)
        refine Ev.up ?_
        simp only [laws_FnSets.l0, hrd]
        refine Ev.yes (by omega) (Ev.yes (by omega) (Ev.bind (laws_inSet.is (by omega)) ?_))
        rw [hh, unw (x := (pre.length : Int) + 1) (by omega) (by omega)]
        refine Ev.no (by simp) ?_
        rw [pick_append, pick_one, List.length_append, List.length_singleton] at hn
        by_cases hc : y.f3 ≥ 5
        · rw [if_pos hc, total_append] at hn
          exact Ev.yes (decide_eq_true hc) hn
        · rw [if_neg hc, List.append_nil] at hn
          exact Ev.no (by simpa using hc) hn
    exact key l [] rfl
  · unfold setOf
    rw [if_neg ho]
    rfl

end Go.Proofs.Ytadkhkpchankjaa.F
