/-
Functions of the program, what they come to, and that Go comes to just that: laws_FnExactGatherQc.
Conditions: those that each theorem names.
-/
import Derived.Test.YtadkhkpchankjaaFAbs
import Derived.Test.YtadkhkpchankjaaF27
import Derived.Test.YtadkhkpchankjaaF28
import Derived.Test.YtadkhkpchankjaaF39
import Derived.Test.YtadkhkpchankjaaF41
import Derived.Test.YtadkhkpchankjaaF42
import Derived.Test.YtadkhkpchankjaaF44
import Derived.Test.YtadkhkpchankjaaF45
import Derived.Test.YtadkhkpchankjaaF46
import Derived.Test.YtadkhkpchankjaaF47
import Derived.Test.YtadkhkpchankjaaF48
import Derived.Test.YtadkhkpchankjaaF49
import Derived.Test.YtadkhkpchankjaaF50
import Derived.Test.YtadkhkpchankjaaWApart
import Derived.Test.YtadkhkpchankjaaWKept
import Derived.Test.YtadkhkpchankjaaWMore
set_option linter.unusedVariables false
set_option linter.unusedSimpArgs false
namespace Go.Proofs.Ytadkhkpchankjaa.F
open Go.RowKit Go.Proofs.YtadkhkpchankjaaW.PrintWords Go.Proofs.YtadkhkpchankjaaW.PrintLast Go.Proofs.Ytadkhkpchankjaa.Base Go.Proofs.Ytadkhkpchankjaa.BW
open Go.Proofs.YtadkhkpchankjaaW.PrintMore
attribute [local go_sem] max2_int min2_int max_two min_two max_three min_three max_four min_four   -- for this text's walks alone

/-! ### laws_FnExactGatherQc: function 9 -/
mutual
def laws_FnExactGatherQc.j0 : Nat → List (S159) → List (S161) → Int → Int → Bool → List (S138) → List (S53) → Bool → Bool → Int → Int → List ByteArray → Int → Int → List ByteArray → Option (Bool)
  | 0, _, _, _, _, _, _, _, _, _, _, _, _, _, _, _ => none
  | k + 1, x0, x1, x2, x3, x11, x12, x13, x15, x61, x964000, x964001, x964002, x977000, x977001, x977002 => if x61 = true then (some false) else ((laws_toValS.f k x0).bind fun t978 => ((laws_eqValS.f k x12 t978).bind fun t981 => (if t981 = true then ((laws_toVoteS.f k x1).bind fun t982 => ((laws_eqVoteS.f k x13 t982).bind fun t985 => (if t985 = true then ((laws_markValS.f k x12 1).bind fun bt986 => ((laws_markVoteS.f k x13 bt986.1).bind fun bt988 => (if bt988.1 < 0 then (laws_FnExactGatherQc.j1 k x0 x1 x2 x3 x11 true x964000 x964001 x964002 x977000 x977001 x977002) else ((laws_eqQc.f k x977000 x977001 x977002 x964000 x964001 x964002).bind fun t990 => (if t990 = true then (laws_FnExactGatherQc.j1 k x0 x1 x2 x3 x11 (x15 != x11) x964000 x964001 x964002 x977000 x977001 x977002) else (laws_FnExactGatherQc.j1 k x0 x1 x2 x3 x11 true x964000 x964001 x964002 x977000 x977001 x977002)))))) else (some false)))) else (some false))))
def laws_FnExactGatherQc.j1 : Nat → List (S159) → List (S161) → Int → Int → Bool → Bool → Int → Int → List ByteArray → Int → Int → List ByteArray → Option (Bool)
  | 0, _, _, _, _, _, _, _, _, _, _, _, _ => none
  | k + 1, x0, x1, x2, x3, x11, x90, x964000, x964001, x964002, x977000, x977001, x977002 => if x90 = true then (some false) else ((laws_markQc.f k x977000 x977001 x977002 1).bind fun bt991 => ((laws_heldQc.f k x977000 x977001 bt991.2 1).bind fun t993 => (if t993 < 0 then (some false) else (if t993 = bt991.1 then ((laws_toValS.f k x0).bind fun t994 => ((laws_toVoteS.f k x1).bind fun t997 => ((impl_GatherQc.f k t994 t997 x2 x3).bind fun bt1000 => ((laws_eqQc.f k bt1000.1 bt1000.2.1 bt1000.2.2.1 x964000 x964001 x964002).bind fun t1007 => (if t1007 = true then (laws_FnExactGatherQc.j2 k bt991.1 (bt1000.2.2.2 != x11) x977000 x977001 bt991.2) else (laws_FnExactGatherQc.j2 k bt991.1 true x977000 x977001 bt991.2)))))) else (some false)))))
def laws_FnExactGatherQc.j2 : Nat → Int → Bool → Int → Int → List ByteArray → Option (Bool)
  | 0, _, _, _, _, _ => none
  | k + 1, x17, x120, x977000, x977001, x977002 => if x120 = true then (some false) else ((laws_heldQc.f k x977000 x977001 x977002 1).bind fun t1008 => (if t1008 < 0 then (some false) else (if t1008 = x17 then (some true) else (some false))))
end
def laws_FnExactGatherQc.f (k : Nat) (l0 : List (S159)) (l1 : List (S161)) (a2 : Int) (a3 : Int) : Option (Bool) := (laws_szValS.f k l0 1048576).bind fun t949 => (if t949 < 0 then (some true) else ((laws_szVoteS.f k l1 t949).bind fun t950 => (if t950 < 0 then (some true) else ((laws_toValS.f k l0).bind fun t951 => ((laws_toVoteS.f k l1).bind fun t954 => ((spec_GatherQc.f k t951 t954 a2 a3).bind fun bt957 => ((laws_toValS.f k l0).bind fun t964 => ((laws_toVoteS.f k l1).bind fun t967 => ((impl_GatherQc.f k t964 t967 a2 a3).bind fun bt970 => ((laws_eqQc.f k bt970.1 bt970.2.1 bt970.2.2.1 bt957.1 bt957.2.1 bt957.2.2.1).bind fun t977 => (if t977 = true then (laws_FnExactGatherQc.j0 k l0 l1 a2 a3 bt957.2.2.2 t964 t967 bt970.2.2.2 (bt970.2.2.2 != bt957.2.2.2) bt957.1 bt957.2.1 bt957.2.2.1 bt970.1 bt970.2.1 bt970.2.2.1) else (laws_FnExactGatherQc.j0 k l0 l1 a2 a3 bt957.2.2.2 t964 t967 bt970.2.2.2 true bt957.1 bt957.2.1 bt957.2.2.1 bt970.1 bt970.2.1 bt970.2.2.1))))))))))))
theorem laws_FnExactGatherQc.mono_l : ∀ k, (∀ y0 y1 y2 y3 y4 y5 y6 y7 y8 y9 y10 y11 y12 y13 y14, LeO (laws_FnExactGatherQc.j0 k y0 y1 y2 y3 y4 y5 y6 y7 y8 y9 y10 y11 y12 y13 y14) (laws_FnExactGatherQc.j0 (k + 1) y0 y1 y2 y3 y4 y5 y6 y7 y8 y9 y10 y11 y12 y13 y14)) ∧ (∀ y0 y1 y2 y3 y4 y5 y6 y7 y8 y9 y10 y11, LeO (laws_FnExactGatherQc.j1 k y0 y1 y2 y3 y4 y5 y6 y7 y8 y9 y10 y11) (laws_FnExactGatherQc.j1 (k + 1) y0 y1 y2 y3 y4 y5 y6 y7 y8 y9 y10 y11)) ∧ (∀ y0 y1 y2 y3 y4, LeO (laws_FnExactGatherQc.j2 k y0 y1 y2 y3 y4) (laws_FnExactGatherQc.j2 (k + 1) y0 y1 y2 y3 y4))
  | 0 => ⟨fun _ _ _ _ _ _ _ _ _ _ _ _ _ _ _ r h => by simp [laws_FnExactGatherQc.j0] at h, fun _ _ _ _ _ _ _ _ _ _ _ _ r h => by simp [laws_FnExactGatherQc.j1] at h, fun _ _ _ _ _ r h => by simp [laws_FnExactGatherQc.j2] at h⟩
  | k + 1 => by
    obtain ⟨ih0, ih1, ih2⟩ := laws_FnExactGatherQc.mono_l k
    refine ⟨?_, ?_, ?_⟩
    · intro y0 y1 y2 y3 y4 y5 y6 y7 y8 y9 y10 y11 y12 y13 y14
      unfold laws_FnExactGatherQc.j0
      repeat' first
      | (with_reducible exact ih0 _ _ _ _ _ _ _ _ _ _ _ _ _ _ _)
      | (with_reducible exact ih1 _ _ _ _ _ _ _ _ _ _ _ _)
      | (with_reducible exact ih2 _ _ _ _ _)
      | (with_reducible exact impl_GatherQc.mono _ _ _ _ _)
      | (with_reducible exact laws_eqQc.mono _ _ _ _ _ _ _)
      | (with_reducible exact laws_eqValS.mono _ _ _)
      | (with_reducible exact laws_eqVoteS.mono _ _ _)
      | (with_reducible exact laws_heldQc.mono _ _ _ _ _)
      | (with_reducible exact laws_markQc.mono _ _ _ _ _)
      | (with_reducible exact laws_markValS.mono _ _ _)
      | (with_reducible exact laws_markVoteS.mono _ _ _)
      | (with_reducible exact laws_szValS.mono _ _ _)
      | (with_reducible exact laws_szVoteS.mono _ _ _)
      | (with_reducible exact laws_toValS.mono _ _)
      | (with_reducible exact laws_toVoteS.mono _ _)
      | (with_reducible exact spec_GatherQc.mono _ _ _ _ _)
      | (with_reducible exact LeO.refl _)
      | (with_reducible exact LeO.none _)
      | (with_reducible refine LeO.ite ?_ ?_)
      | (with_reducible refine LeO.bind ?_ (fun _ => ?_))
      | exact ih0 _ _ _ _ _ _ _ _ _ _ _ _ _ _ _
      | exact ih1 _ _ _ _ _ _ _ _ _ _ _ _
      | exact ih2 _ _ _ _ _
      | exact impl_GatherQc.mono _ _ _ _ _
      | exact laws_eqQc.mono _ _ _ _ _ _ _
      | exact laws_eqValS.mono _ _ _
      | exact laws_eqVoteS.mono _ _ _
      | exact laws_heldQc.mono _ _ _ _ _
      | exact laws_markQc.mono _ _ _ _ _
      | exact laws_markValS.mono _ _ _
      | exact laws_markVoteS.mono _ _ _
      | exact laws_szValS.mono _ _ _
      | exact laws_szVoteS.mono _ _ _
      | exact laws_toValS.mono _ _
      | exact laws_toVoteS.mono _ _
      | exact spec_GatherQc.mono _ _ _ _ _
      | exact LeO.none _
      | refine LeO.ite ?_ ?_
      | refine LeO.bind ?_ (fun _ => ?_)
    · intro y0 y1 y2 y3 y4 y5 y6 y7 y8 y9 y10 y11
      unfold laws_FnExactGatherQc.j1
      repeat' first
      | (with_reducible exact ih0 _ _ _ _ _ _ _ _ _ _ _ _ _ _ _)
      | (with_reducible exact ih1 _ _ _ _ _ _ _ _ _ _ _ _)
      | (with_reducible exact ih2 _ _ _ _ _)
      | (with_reducible exact impl_GatherQc.mono _ _ _ _ _)
      | (with_reducible exact laws_eqQc.mono _ _ _ _ _ _ _)
      | (with_reducible exact laws_eqValS.mono _ _ _)
      | (with_reducible exact laws_eqVoteS.mono _ _ _)
      | (with_reducible exact laws_heldQc.mono _ _ _ _ _)
      | (with_reducible exact laws_markQc.mono _ _ _ _ _)
      | (with_reducible exact laws_markValS.mono _ _ _)
      | (with_reducible exact laws_markVoteS.mono _ _ _)
      | (with_reducible exact laws_szValS.mono _ _ _)
      | (with_reducible exact laws_szVoteS.mono _ _ _)
      | (with_reducible exact laws_toValS.mono _ _)
      | (with_reducible exact laws_toVoteS.mono _ _)
      | (with_reducible exact spec_GatherQc.mono _ _ _ _ _)
      | (with_reducible exact LeO.refl _)
      | (with_reducible exact LeO.none _)
      | (with_reducible refine LeO.ite ?_ ?_)
      | (with_reducible refine LeO.bind ?_ (fun _ => ?_))
      | exact ih0 _ _ _ _ _ _ _ _ _ _ _ _ _ _ _
      | exact ih1 _ _ _ _ _ _ _ _ _ _ _ _
      | exact ih2 _ _ _ _ _
      | exact impl_GatherQc.mono _ _ _ _ _
      | exact laws_eqQc.mono _ _ _ _ _ _ _
      | exact laws_eqValS.mono _ _ _
      | exact laws_eqVoteS.mono _ _ _
      | exact laws_heldQc.mono _ _ _ _ _
      | exact laws_markQc.mono _ _ _ _ _
      | exact laws_markValS.mono _ _ _
      | exact laws_markVoteS.mono _ _ _
      | exact laws_szValS.mono _ _ _
      | exact laws_szVoteS.mono _ _ _
      | exact laws_toValS.mono _ _
      | exact laws_toVoteS.mono _ _
      | exact spec_GatherQc.mono _ _ _ _ _
      | exact LeO.none _
      | refine LeO.ite ?_ ?_
      | refine LeO.bind ?_ (fun _ => ?_)
    · intro y0 y1 y2 y3 y4
      unfold laws_FnExactGatherQc.j2
      repeat' first
      | (with_reducible exact ih0 _ _ _ _ _ _ _ _ _ _ _ _ _ _ _)
      | (with_reducible exact ih1 _ _ _ _ _ _ _ _ _ _ _ _)
      | (with_reducible exact ih2 _ _ _ _ _)
      | (with_reducible exact impl_GatherQc.mono _ _ _ _ _)
      | (with_reducible exact laws_eqQc.mono _ _ _ _ _ _ _)
      | (with_reducible exact laws_eqValS.mono _ _ _)
      | (with_reducible exact laws_eqVoteS.mono _ _ _)
      | (with_reducible exact laws_heldQc.mono _ _ _ _ _)
      | (with_reducible exact laws_markQc.mono _ _ _ _ _)
      | (with_reducible exact laws_markValS.mono _ _ _)
      | (with_reducible exact laws_markVoteS.mono _ _ _)
      | (with_reducible exact laws_szValS.mono _ _ _)
      | (with_reducible exact laws_szVoteS.mono _ _ _)
      | (with_reducible exact laws_toValS.mono _ _)
      | (with_reducible exact laws_toVoteS.mono _ _)
      | (with_reducible exact spec_GatherQc.mono _ _ _ _ _)
      | (with_reducible exact LeO.refl _)
      | (with_reducible exact LeO.none _)
      | (with_reducible refine LeO.ite ?_ ?_)
      | (with_reducible refine LeO.bind ?_ (fun _ => ?_))
      | exact ih0 _ _ _ _ _ _ _ _ _ _ _ _ _ _ _
      | exact ih1 _ _ _ _ _ _ _ _ _ _ _ _
      | exact ih2 _ _ _ _ _
      | exact impl_GatherQc.mono _ _ _ _ _
      | exact laws_eqQc.mono _ _ _ _ _ _ _
      | exact laws_eqValS.mono _ _ _
      | exact laws_eqVoteS.mono _ _ _
      | exact laws_heldQc.mono _ _ _ _ _
      | exact laws_markQc.mono _ _ _ _ _
      | exact laws_markValS.mono _ _ _
      | exact laws_markVoteS.mono _ _ _
      | exact laws_szValS.mono _ _ _
      | exact laws_szVoteS.mono _ _ _
      | exact laws_toValS.mono _ _
      | exact laws_toVoteS.mono _ _
      | exact spec_GatherQc.mono _ _ _ _ _
      | exact LeO.none _
      | refine LeO.ite ?_ ?_
      | refine LeO.bind ?_ (fun _ => ?_)
theorem laws_FnExactGatherQc.mono : ∀ a0 a1 a2 a3 k, LeO (laws_FnExactGatherQc.f k a0 a1 a2 a3) (laws_FnExactGatherQc.f (k + 1) a0 a1 a2 a3) := by
  intro a0 a1 a2 a3 k
  obtain ⟨ih0, ih1, ih2⟩ := laws_FnExactGatherQc.mono_l k
  unfold laws_FnExactGatherQc.f
  repeat' first
      | (with_reducible exact ih0 _ _ _ _ _ _ _ _ _ _ _ _ _ _ _)
      | (with_reducible exact ih1 _ _ _ _ _ _ _ _ _ _ _ _)
      | (with_reducible exact ih2 _ _ _ _ _)
      | (with_reducible exact impl_GatherQc.mono _ _ _ _ _)
      | (with_reducible exact laws_eqQc.mono _ _ _ _ _ _ _)
      | (with_reducible exact laws_eqValS.mono _ _ _)
      | (with_reducible exact laws_eqVoteS.mono _ _ _)
      | (with_reducible exact laws_heldQc.mono _ _ _ _ _)
      | (with_reducible exact laws_markQc.mono _ _ _ _ _)
      | (with_reducible exact laws_markValS.mono _ _ _)
      | (with_reducible exact laws_markVoteS.mono _ _ _)
      | (with_reducible exact laws_szValS.mono _ _ _)
      | (with_reducible exact laws_szVoteS.mono _ _ _)
      | (with_reducible exact laws_toValS.mono _ _)
      | (with_reducible exact laws_toVoteS.mono _ _)
      | (with_reducible exact spec_GatherQc.mono _ _ _ _ _)
      | (with_reducible exact LeO.refl _)
      | (with_reducible exact LeO.none _)
      | (with_reducible refine LeO.ite ?_ ?_)
      | (with_reducible refine LeO.bind ?_ (fun _ => ?_))
      | exact ih0 _ _ _ _ _ _ _ _ _ _ _ _ _ _ _
      | exact ih1 _ _ _ _ _ _ _ _ _ _ _ _
      | exact ih2 _ _ _ _ _
      | exact impl_GatherQc.mono _ _ _ _ _
      | exact laws_eqQc.mono _ _ _ _ _ _ _
      | exact laws_eqValS.mono _ _ _
      | exact laws_eqVoteS.mono _ _ _
      | exact laws_heldQc.mono _ _ _ _ _
      | exact laws_markQc.mono _ _ _ _ _
      | exact laws_markValS.mono _ _ _
      | exact laws_markVoteS.mono _ _ _
      | exact laws_szValS.mono _ _ _
      | exact laws_szVoteS.mono _ _ _
      | exact laws_toValS.mono _ _
      | exact laws_toVoteS.mono _ _
      | exact spec_GatherQc.mono _ _ _ _ _
      | exact LeO.none _
      | refine LeO.ite ?_ ?_
      | refine LeO.bind ?_ (fun _ => ?_)
set_option maxHeartbeats 8000000 in
set_option maxRecDepth 100000 in
theorem laws_FnExactGatherQc.calls (k : Nat) (A0 : Option Addr) (c0 : Nat) (l0 : List (S159)) (A1 : Option Addr) (c1 : Nat) (l1 : List (S161)) (a2 : Int) (a3 : Int) (r : Bool) (w : World) (hr0 : Kd.C k159 w A0 l0.length l0) (hc0 : l0.length ≤ c0) (hr1 : Kd.C k161 w A1 l1.length l1) (hc1 : l1.length ≤ c1) (h : laws_FnExactGatherQc.f k l0 l1 a2 a3 = some r) :
    Calls Try.prog 9 #[.slice A0 l0.length c0, .slice A1 l1.length c1, .int .i64 a2, .int .i64 a3] w fun e w' => e = .returned (.bool r) ∧ Below w.heap.size w w' := by
  have hu49 := Try.underlying49
  have HR0 := Aside0.mk hr0
  have HC0 := Aside0.mk hc0
  clear hr0 hc0
  have HR1 := Aside0.mk hr1
  have HC1 := Aside0.mk hc1
  clear hr1 hc1
  have HB := Aside0.mk (Below.refl w.heap.size w)
  have H : ((laws_szValS.f k l0 1048576).bind fun t949 => (if t949 < 0 then (some true) else ((laws_szVoteS.f k l1 t949).bind fun t950 => (if t950 < 0 then (some true) else ((laws_toValS.f k l0).bind fun t951 => ((laws_toVoteS.f k l1).bind fun t954 => ((spec_GatherQc.f k t951 t954 a2 a3).bind fun bt957 => ((laws_toValS.f k l0).bind fun t964 => ((laws_toVoteS.f k l1).bind fun t967 => ((impl_GatherQc.f k t964 t967 a2 a3).bind fun bt970 => ((laws_eqQc.f k bt970.1 bt970.2.1 bt970.2.2.1 bt957.1 bt957.2.1 bt957.2.2.1).bind fun t977 => (if t977 = true then (laws_FnExactGatherQc.j0 k l0 l1 a2 a3 bt957.2.2.2 t964 t967 bt970.2.2.2 (bt970.2.2.2 != bt957.2.2.2) bt957.1 bt957.2.1 bt957.2.2.1 bt970.1 bt970.2.1 bt970.2.2.1) else (laws_FnExactGatherQc.j0 k l0 l1 a2 a3 bt957.2.2.2 t964 t967 bt970.2.2.2 true bt957.1 bt957.2.1 bt957.2.2.1 bt970.1 bt970.2.1 bt970.2.2.1))))))))))))) = some r := h
  clear h
  replace H := Option.bind_eq_some_iff.mp H
  obtain ⟨t949, A50, H⟩ := H
  replace H : (if t949 < 0 then (some true) else ((laws_szVoteS.f k l1 t949).bind fun t950 => (if t950 < 0 then (some true) else ((laws_toValS.f k l0).bind fun t951 => ((laws_toVoteS.f k l1).bind fun t954 => ((spec_GatherQc.f k t951 t954 a2 a3).bind fun bt957 => ((laws_toValS.f k l0).bind fun t964 => ((laws_toVoteS.f k l1).bind fun t967 => ((impl_GatherQc.f k t964 t967 a2 a3).bind fun bt970 => ((laws_eqQc.f k bt970.1 bt970.2.1 bt970.2.2.1 bt957.1 bt957.2.1 bt957.2.2.1).bind fun t977 => (if t977 = true then (laws_FnExactGatherQc.j0 k l0 l1 a2 a3 bt957.2.2.2 t964 t967 bt970.2.2.2 (bt970.2.2.2 != bt957.2.2.2) bt957.1 bt957.2.1 bt957.2.2.1 bt970.1 bt970.2.1 bt970.2.2.1) else (laws_FnExactGatherQc.j0 k l0 l1 a2 a3 bt957.2.2.2 t964 t967 bt970.2.2.2 true bt957.1 bt957.2.1 bt957.2.2.1 bt970.1 bt970.2.1 bt970.2.2.1)))))))))))) = some r := H
  have A5 := Aside0.mk A50
  clear A50
  by_cases c6 : t949 < 0
  · rw [if_pos c6] at H
    have c6b0 : decide (t949 < 0) = true := decide_eq_true c6
    clear c6
    obtain rfl := Option.some.inj H
    go_enter Try.func9, Try.ntmps9
    go_wp2_with (first | ((with_reducible refine gate_callee (f := 46) rfl ?_); refine goesL_ (some 23) rfl rfl Try.func46 (by kernel_rfl) rfl #[.slice A0 l0.length c0, .int .i64 1048576] rfl (by (try simp only [List.map_toArray, List.map_cons, List.map_nil]); first | done | rfl | (simp only [List.length_drop, List.length_take]; rfl)) ?_; (with_reducible refine (laws_szValS.calls k _ _ l0 1048576 t949 _ ?side1 ?side2 A5.out).mono ?_); (case side1 => repeat (first | exact HR0.out | (with_reducible refine Kd.C_alloc ?_ _) | (with_reducible refine Kd.C_drewN ?_ _) | (with_reducible refine Kd.C_drew ?_))); (case side2 => exact HC0.out); rintro e w7 ⟨rfl, hb⟩; refine ⟨_, rfl, ?_⟩; have n0_ := Aside0.mk (below_step (by repeat (first | (with_reducible first | exact HB.out | apply below_alloc | apply pw_below_drewN | apply below_drew1) | exact HB.out)) hb); clear HB; have HB := n0_; clear n0_; (try clear hb); (try clear hb2); (try clear hk); (try clear hi)))
    go_ret
    exact ⟨by first | rfl | (simp [errW_none, errW_some] <;> rfl) | (simp [*, errW_none, errW_some] <;> rfl), by repeat (first | (with_reducible first | exact HB.out | apply below_alloc | apply pw_below_drewN | apply below_drew1) | exact HB.out)⟩
  · rw [if_neg c6] at H
    have c6b0 : decide (t949 < 0) = false := decide_eq_false c6
    clear c6
    replace H := Option.bind_eq_some_iff.mp H
    obtain ⟨t950, A80, H⟩ := H
    replace H : (if t950 < 0 then (some true) else ((laws_toValS.f k l0).bind fun t951 => ((laws_toVoteS.f k l1).bind fun t954 => ((spec_GatherQc.f k t951 t954 a2 a3).bind fun bt957 => ((laws_toValS.f k l0).bind fun t964 => ((laws_toVoteS.f k l1).bind fun t967 => ((impl_GatherQc.f k t964 t967 a2 a3).bind fun bt970 => ((laws_eqQc.f k bt970.1 bt970.2.1 bt970.2.2.1 bt957.1 bt957.2.1 bt957.2.2.1).bind fun t977 => (if t977 = true then (laws_FnExactGatherQc.j0 k l0 l1 a2 a3 bt957.2.2.2 t964 t967 bt970.2.2.2 (bt970.2.2.2 != bt957.2.2.2) bt957.1 bt957.2.1 bt957.2.2.1 bt970.1 bt970.2.1 bt970.2.2.1) else (laws_FnExactGatherQc.j0 k l0 l1 a2 a3 bt957.2.2.2 t964 t967 bt970.2.2.2 true bt957.1 bt957.2.1 bt957.2.2.1 bt970.1 bt970.2.1 bt970.2.2.1)))))))))) = some r := H
    have A8 := Aside0.mk A80
    clear A80
    by_cases c9 : t950 < 0
    · rw [if_pos c9] at H
      have c9b0 : decide (t950 < 0) = true := decide_eq_true c9
      clear c9
      obtain rfl := Option.some.inj H
      go_enter Try.func9, Try.ntmps9
      go_wp2_with (first | ((with_reducible refine gate_callee (f := 46) rfl ?_); refine goesL_ (some 23) rfl rfl Try.func46 (by kernel_rfl) rfl #[.slice A0 l0.length c0, .int .i64 1048576] rfl (by (try simp only [List.map_toArray, List.map_cons, List.map_nil]); first | done | rfl | (simp only [List.length_drop, List.length_take]; rfl)) ?_; (with_reducible refine (laws_szValS.calls k _ _ l0 1048576 t949 _ ?side1 ?side2 A5.out).mono ?_); (case side1 => repeat (first | exact HR0.out | (with_reducible refine Kd.C_alloc ?_ _) | (with_reducible refine Kd.C_drewN ?_ _) | (with_reducible refine Kd.C_drew ?_))); (case side2 => exact HC0.out); rintro e w10 ⟨rfl, hb⟩; refine ⟨_, rfl, ?_⟩; have n0_ := Aside0.mk (below_step (by repeat (first | (with_reducible first | exact HB.out | apply below_alloc | apply pw_below_drewN | apply below_drew1) | exact HB.out)) hb); clear HB; have HB := n0_; clear n0_; (try clear hb); (try clear hb2); (try clear hk); (try clear hi)) | ((with_reducible refine gate_callee (f := 47) rfl ?_); refine goesL_ (some 28) rfl rfl Try.func47 (by kernel_rfl) rfl #[.slice A1 l1.length c1, .int .i64 t949] rfl (by (try simp only [List.map_toArray, List.map_cons, List.map_nil]); first | done | rfl | (simp only [List.length_drop, List.length_take]; rfl)) ?_; (with_reducible refine (laws_szVoteS.calls k _ _ l1 t949 t950 _ ?side1 ?side2 A8.out).mono ?_); (case side1 => repeat (first | exact (Kd.C_below HR1.out HB.out) | (with_reducible refine Kd.C_alloc ?_ _) | (with_reducible refine Kd.C_drewN ?_ _) | (with_reducible refine Kd.C_drew ?_))); (case side2 => exact HC1.out); rintro e w11 ⟨rfl, hb⟩; refine ⟨_, rfl, ?_⟩; have n0_ := Aside0.mk (below_step (by repeat (first | (with_reducible first | exact HB.out | apply below_alloc | apply pw_below_drewN | apply below_drew1) | exact HB.out)) hb); clear HB; have HB := n0_; clear n0_; (try clear hb); (try clear hb2); (try clear hk); (try clear hi)))
      go_ret
      exact ⟨by first | rfl | (simp [errW_none, errW_some] <;> rfl) | (simp [*, errW_none, errW_some] <;> rfl), by repeat (first | (with_reducible first | exact HB.out | apply below_alloc | apply pw_below_drewN | apply below_drew1) | exact HB.out)⟩
    · rw [if_neg c9] at H
      have c9b0 : decide (t950 < 0) = false := decide_eq_false c9
      clear c9
      replace H := Option.bind_eq_some_iff.mp H
      obtain ⟨t951, A120, H⟩ := H
      replace H : ((laws_toVoteS.f k l1).bind fun t954 => ((spec_GatherQc.f k t951 t954 a2 a3).bind fun bt957 => ((laws_toValS.f k l0).bind fun t964 => ((laws_toVoteS.f k l1).bind fun t967 => ((impl_GatherQc.f k t964 t967 a2 a3).bind fun bt970 => ((laws_eqQc.f k bt970.1 bt970.2.1 bt970.2.2.1 bt957.1 bt957.2.1 bt957.2.2.1).bind fun t977 => (if t977 = true then (laws_FnExactGatherQc.j0 k l0 l1 a2 a3 bt957.2.2.2 t964 t967 bt970.2.2.2 (bt970.2.2.2 != bt957.2.2.2) bt957.1 bt957.2.1 bt957.2.2.1 bt970.1 bt970.2.1 bt970.2.2.1) else (laws_FnExactGatherQc.j0 k l0 l1 a2 a3 bt957.2.2.2 t964 t967 bt970.2.2.2 true bt957.1 bt957.2.1 bt957.2.2.1 bt970.1 bt970.2.1 bt970.2.2.1)))))))) = some r := H
      have A12 := Aside0.mk A120
      clear A120
      replace H := Option.bind_eq_some_iff.mp H
      obtain ⟨t954, A130, H⟩ := H
      replace H : ((spec_GatherQc.f k t951 t954 a2 a3).bind fun bt957 => ((laws_toValS.f k l0).bind fun t964 => ((laws_toVoteS.f k l1).bind fun t967 => ((impl_GatherQc.f k t964 t967 a2 a3).bind fun bt970 => ((laws_eqQc.f k bt970.1 bt970.2.1 bt970.2.2.1 bt957.1 bt957.2.1 bt957.2.2.1).bind fun t977 => (if t977 = true then (laws_FnExactGatherQc.j0 k l0 l1 a2 a3 bt957.2.2.2 t964 t967 bt970.2.2.2 (bt970.2.2.2 != bt957.2.2.2) bt957.1 bt957.2.1 bt957.2.2.1 bt970.1 bt970.2.1 bt970.2.2.1) else (laws_FnExactGatherQc.j0 k l0 l1 a2 a3 bt957.2.2.2 t964 t967 bt970.2.2.2 true bt957.1 bt957.2.1 bt957.2.2.1 bt970.1 bt970.2.1 bt970.2.2.1))))))) = some r := H
      have A13 := Aside0.mk A130
      clear A130
      replace H := Option.bind_eq_some_iff.mp H
      obtain ⟨⟨t957, t958, t959, t962⟩, A140, H⟩ := H
      replace H : ((laws_toValS.f k l0).bind fun t964 => ((laws_toVoteS.f k l1).bind fun t967 => ((impl_GatherQc.f k t964 t967 a2 a3).bind fun bt970 => ((laws_eqQc.f k bt970.1 bt970.2.1 bt970.2.2.1 t957 t958 t959).bind fun t977 => (if t977 = true then (laws_FnExactGatherQc.j0 k l0 l1 a2 a3 t962 t964 t967 bt970.2.2.2 (bt970.2.2.2 != t962) t957 t958 t959 bt970.1 bt970.2.1 bt970.2.2.1) else (laws_FnExactGatherQc.j0 k l0 l1 a2 a3 t962 t964 t967 bt970.2.2.2 true t957 t958 t959 bt970.1 bt970.2.1 bt970.2.2.1)))))) = some r := H
      have A14 := Aside0.mk A140
      clear A140
      replace H := Option.bind_eq_some_iff.mp H
      obtain ⟨t964, A150, H⟩ := H
      replace H : ((laws_toVoteS.f k l1).bind fun t967 => ((impl_GatherQc.f k t964 t967 a2 a3).bind fun bt970 => ((laws_eqQc.f k bt970.1 bt970.2.1 bt970.2.2.1 t957 t958 t959).bind fun t977 => (if t977 = true then (laws_FnExactGatherQc.j0 k l0 l1 a2 a3 t962 t964 t967 bt970.2.2.2 (bt970.2.2.2 != t962) t957 t958 t959 bt970.1 bt970.2.1 bt970.2.2.1) else (laws_FnExactGatherQc.j0 k l0 l1 a2 a3 t962 t964 t967 bt970.2.2.2 true t957 t958 t959 bt970.1 bt970.2.1 bt970.2.2.1))))) = some r := H
      have A15 := Aside0.mk A150
      clear A150
      replace H := Option.bind_eq_some_iff.mp H
      obtain ⟨t967, A160, H⟩ := H
      replace H : ((impl_GatherQc.f k t964 t967 a2 a3).bind fun bt970 => ((laws_eqQc.f k bt970.1 bt970.2.1 bt970.2.2.1 t957 t958 t959).bind fun t977 => (if t977 = true then (laws_FnExactGatherQc.j0 k l0 l1 a2 a3 t962 t964 t967 bt970.2.2.2 (bt970.2.2.2 != t962) t957 t958 t959 bt970.1 bt970.2.1 bt970.2.2.1) else (laws_FnExactGatherQc.j0 k l0 l1 a2 a3 t962 t964 t967 bt970.2.2.2 true t957 t958 t959 bt970.1 bt970.2.1 bt970.2.2.1)))) = some r := H
      have A16 := Aside0.mk A160
      clear A160
      replace H := Option.bind_eq_some_iff.mp H
      obtain ⟨⟨t970, t971, t972, t975⟩, A170, H⟩ := H
      replace H : ((laws_eqQc.f k t970 t971 t972 t957 t958 t959).bind fun t977 => (if t977 = true then (laws_FnExactGatherQc.j0 k l0 l1 a2 a3 t962 t964 t967 t975 (t975 != t962) t957 t958 t959 t970 t971 t972) else (laws_FnExactGatherQc.j0 k l0 l1 a2 a3 t962 t964 t967 t975 true t957 t958 t959 t970 t971 t972))) = some r := H
      have A17 := Aside0.mk A170
      clear A170
      have HC18 := Aside0.mk H
      clear H
      go_enter Try.func9, Try.ntmps9
      go_upto_region 12 with (first | ((with_reducible refine gate_callee (f := 46) rfl ?_); refine goesL_ (some 23) rfl rfl Try.func46 (by kernel_rfl) rfl #[.slice A0 l0.length c0, .int .i64 1048576] rfl (by (try simp only [List.map_toArray, List.map_cons, List.map_nil]); first | done | rfl | (simp only [List.length_drop, List.length_take]; rfl)) ?_; (with_reducible refine (laws_szValS.calls k _ _ l0 1048576 t949 _ ?side1 ?side2 A5.out).mono ?_); (case side1 => repeat (first | exact HR0.out | (with_reducible refine Kd.C_alloc ?_ _) | (with_reducible refine Kd.C_drewN ?_ _) | (with_reducible refine Kd.C_drew ?_))); (case side2 => exact HC0.out); rintro e w19 ⟨rfl, hb⟩; refine ⟨_, rfl, ?_⟩; have n0_ := Aside0.mk (below_step (by repeat (first | (with_reducible first | exact HB.out | apply below_alloc | apply pw_below_drewN | apply below_drew1) | exact HB.out)) hb); clear HB; have HB := n0_; clear n0_; (try clear hb); (try clear hb2); (try clear hk); (try clear hi)) | ((with_reducible refine gate_callee (f := 47) rfl ?_); refine goesL_ (some 28) rfl rfl Try.func47 (by kernel_rfl) rfl #[.slice A1 l1.length c1, .int .i64 t949] rfl (by (try simp only [List.map_toArray, List.map_cons, List.map_nil]); first | done | rfl | (simp only [List.length_drop, List.length_take]; rfl)) ?_; (with_reducible refine (laws_szVoteS.calls k _ _ l1 t949 t950 _ ?side1 ?side2 A8.out).mono ?_); (case side1 => repeat (first | exact (Kd.C_below HR1.out HB.out) | (with_reducible refine Kd.C_alloc ?_ _) | (with_reducible refine Kd.C_drewN ?_ _) | (with_reducible refine Kd.C_drew ?_))); (case side2 => exact HC1.out); rintro e w20 ⟨rfl, hb⟩; refine ⟨_, rfl, ?_⟩; have n0_ := Aside0.mk (below_step (by repeat (first | (with_reducible first | exact HB.out | apply below_alloc | apply pw_below_drewN | apply below_drew1) | exact HB.out)) hb); clear HB; have HB := n0_; clear n0_; (try clear hb); (try clear hb2); (try clear hk); (try clear hi)) | ((with_reducible refine gate_callee (f := 48) rfl ?_); refine goesL_ (some 33) rfl rfl Try.func48 (by kernel_rfl) rfl #[.slice A0 l0.length c0] rfl (by (try simp only [List.map_toArray, List.map_cons, List.map_nil]); first | done | rfl | (simp only [List.length_drop, List.length_take]; rfl)) ?_; (with_reducible refine (laws_toValS.calls k _ _ l0 t951 _ ?side1 ?side2 A12.out).mono ?_); (case side1 => repeat (first | exact (Kd.C_below HR0.out HB.out) | (with_reducible refine Kd.C_alloc ?_ _) | (with_reducible refine Kd.C_drewN ?_ _) | (with_reducible refine Kd.C_drew ?_))); (case side2 => exact HC0.out); rintro e w21 ⟨v952, rfl, ho0, hb⟩; refine ⟨_, rfl, ?_⟩; have n0_ := Aside0.mk (Kd.R_lower ho0 (below_size (by repeat (first | (with_reducible first | exact HB.out | apply below_alloc | apply pw_below_drewN | apply below_drew1) | exact HB.out)))); have n1_ := Aside0.mk (below_step (by repeat (first | (with_reducible first | exact HB.out | apply below_alloc | apply pw_below_drewN | apply below_drew1) | exact HB.out)) hb); clear HB; have HO953 := n0_; have HB := n1_; clear n0_ n1_; (try clear hb); (try clear hb2); (try clear hk); (try clear hi); (try clear ho0)) | ((with_reducible refine gate_callee (f := 49) rfl ?_); refine goesL_ (some 35) rfl rfl Try.func49 (by kernel_rfl) rfl #[.slice A1 l1.length c1] rfl (by (try simp only [List.map_toArray, List.map_cons, List.map_nil]); first | done | rfl | (simp only [List.length_drop, List.length_take]; rfl)) ?_; (with_reducible refine (laws_toVoteS.calls k _ _ l1 t954 _ ?side1 ?side2 A13.out).mono ?_); (case side1 => repeat (first | exact (Kd.C_below HR1.out HB.out) | (with_reducible refine Kd.C_alloc ?_ _) | (with_reducible refine Kd.C_drewN ?_ _) | (with_reducible refine Kd.C_drew ?_))); (case side2 => exact HC1.out); rintro e w22 ⟨v955, rfl, ho0, hb⟩; refine ⟨_, rfl, ?_⟩; have n0_ := Aside0.mk (Kd.R_below (by (with_reducible repeat (first | apply Kd.R_alloc | apply Kd.R_drewN | apply Kd.R_drew)); exact HO953.out) hb); have n1_ := Aside0.mk (Kd.R_lower ho0 (below_size (by repeat (first | (with_reducible first | exact HB.out | apply below_alloc | apply pw_below_drewN | apply below_drew1) | exact HB.out)))); have n2_ := Aside0.mk (below_step (by repeat (first | (with_reducible first | exact HB.out | apply below_alloc | apply pw_below_drewN | apply below_drew1) | exact HB.out)) hb); clear HO953; clear HB; have HO953 := n0_; have HO956 := n1_; have HB := n2_; clear n0_ n1_ n2_; (try clear hb); (try clear hb2); (try clear hk); (try clear hi); (try clear ho0); obtain ⟨Ao23, co23, eo23⟩ := Kd.R_slice HO953.out; subst eo23; obtain ⟨Ao24, co24, eo24⟩ := Kd.R_slice HO956.out; subst eo24) | ((with_reducible refine gate_callee (f := 31) rfl ?_); refine goesL_ (some 38) rfl rfl Try.func31 (by kernel_rfl) rfl #[.slice Ao23 t951.length co23, .slice Ao24 t954.length co24, .int .i64 a2, .int .i64 a3] rfl (by (try simp only [List.map_toArray, List.map_cons, List.map_nil]); first | done | rfl | (simp only [List.length_drop, List.length_take]; rfl)) ?_; (with_reducible refine (spec_GatherQc.calls k _ _ t951 _ _ t954 a2 a3 t957 t958 t959 t962 _ ?side1 ?side2 ?side3 ?side4 A14.out).mono ?_); (case side1 => repeat (first | exact (Kd.R_reads' HO953.out).2.2 | (with_reducible refine Kd.C_alloc ?_ _) | (with_reducible refine Kd.C_drewN ?_ _) | (with_reducible refine Kd.C_drew ?_))); (case side2 => exact (Kd.R_reads' HO953.out).2.1); (case side3 => repeat (first | exact (Kd.R_reads' HO956.out).2.2 | (with_reducible refine Kd.C_alloc ?_ _) | (with_reducible refine Kd.C_drewN ?_ _) | (with_reducible refine Kd.C_drew ?_))); (case side4 => exact (Kd.R_reads' HO956.out).2.1); rintro e w25 ⟨v960, rfl, ho0, hb⟩; refine ⟨_, rfl, ?_⟩; have n0_ := Aside0.mk (Kd.R_below (by (with_reducible repeat (first | apply Kd.R_alloc | apply Kd.R_drewN | apply Kd.R_drew)); exact HO953.out) hb); have n1_ := Aside0.mk (Kd.R_below (by (with_reducible repeat (first | apply Kd.R_alloc | apply Kd.R_drewN | apply Kd.R_drew)); exact HO956.out) hb); have n2_ := Aside0.mk (Kd.R_lower ho0 (below_size (by repeat (first | (with_reducible first | exact HB.out | apply below_alloc | apply pw_below_drewN | apply below_drew1) | exact HB.out)))); have n3_ := Aside0.mk (below_step (by repeat (first | (with_reducible first | exact HB.out | apply below_alloc | apply pw_below_drewN | apply below_drew1) | exact HB.out)) hb); clear HO953; clear HO956; clear HB; have HO953 := n0_; have HO956 := n1_; have HO961 := n2_; have HB := n3_; clear n0_ n1_ n2_ n3_; (try clear hb); (try clear hb2); (try clear hk); (try clear hi); (try clear ho0)) | ((with_reducible refine gate_dst (N := 10) rfl ?_); refine box_event ?hg (N := 10) ?hd (cs := #[.int .i64 0, .int .i64 0, .slice none 0 0]) (t := 49) ?hr ?_; (case hd => rfl); (case hg => rfl); (case hr => first | (go_simp; done) | (go_simp; rfl)); intro gb963 hg w26 hbox hb; have n0_ := Aside0.mk (Kd.R_below (by (with_reducible repeat (first | apply Kd.R_alloc | apply Kd.R_drewN | apply Kd.R_drew)); exact HO953.out) hb); have n1_ := Aside0.mk (Kd.R_below (by (with_reducible repeat (first | apply Kd.R_alloc | apply Kd.R_drewN | apply Kd.R_drew)); exact HO956.out) hb); have n2_ := Aside0.mk (Kd.R_below (by (with_reducible repeat (first | apply Kd.R_alloc | apply Kd.R_drewN | apply Kd.R_drew)); exact HO961.out) hb); have n3_ := Aside0.mk (below_step (by repeat (first | (with_reducible first | exact HB.out | apply below_alloc | apply pw_below_drewN | apply below_drew1) | exact HB.out)) hb); have n4_ := Aside0.mk (hbox); have n5_ := Aside0.mk ((by rw [hg]; exact (below_size (by repeat (first | (with_reducible first | exact HB.out | apply below_alloc | apply pw_below_drewN | apply below_drew1) | exact HB.out))) : w.heap.size ≤ gb963)); have n6_ := Aside0.mk ((by rw [hg]; exact (below_size (by repeat (first | (with_reducible first | exact HB.out | apply below_alloc | apply pw_below_drewN | apply below_drew1) | exact HB.out))) : w.heap.size ≤ gb963)); clear HO953; clear HO956; clear HO961; clear HB; have HO953 := n0_; have HO956 := n1_; have HO961 := n2_; have HB := n3_; have BK963 := n4_; have GW963 := n5_; have GE963 := n6_; clear n0_ n1_ n2_ n3_ n4_ n5_ n6_; clear hb hbox hg; obtain ⟨hcz27_0, hcz27_1, hcz27_2⟩ := cells3 BK963.out; obtain ⟨hfz27_0, hfz27_1, hfz27_2⟩ := frozens3 BK963.out; obtain ⟨Ao28, co28, eo28⟩ := Kd.R_slice HO961.out; subst eo28) | ((with_reducible refine gate_callee (f := 48) rfl ?_); refine goesL_ (some 42) rfl rfl Try.func48 (by kernel_rfl) rfl #[.slice A0 l0.length c0] rfl (by (try simp only [List.map_toArray, List.map_cons, List.map_nil]); first | done | rfl | (simp only [List.length_drop, List.length_take]; rfl)) ?_; (with_reducible refine (laws_toValS.calls k _ _ l0 t964 _ ?side1 ?side2 A15.out).mono ?_); (case side1 => exact Kd.C_below HR0.out (by repeat (first | (with_reducible first | exact HB.out | apply below_alloc | apply pw_below_drewN | apply below_drew1 | refine below_set ?_ GE963.out) | exact HB.out))); (case side2 => exact HC0.out); rintro e w29 ⟨v965, rfl, ho0, hb⟩; refine ⟨_, rfl, ?_⟩; have n0_ := Aside0.mk (Kd.R_elder' (by (with_reducible repeat (first | apply Kd.R_alloc | apply Kd.R_drewN | apply Kd.R_drew)); exact (Kd.R_mono (Kd.R_far (p := ⟨gb963, 2, none⟩) (Kd.R_far (p := ⟨gb963, 1, none⟩) (Kd.R_far (p := ⟨gb963, 0, none⟩) (Kd.R_types HO953.out BK963.out (by decide)) (fun _ hk => hk.2) (.int .i64 t957)) (fun _ hk => hk.2) (.int .i64 t958)) (fun _ hk => hk.2) (.slice Ao28 t959.length co28)) (fun _ h_ => h_.1))) (Kd.R_base ho0) hb); have n1_ := Aside0.mk (Kd.R_below (by (with_reducible repeat (first | apply Kd.R_alloc | apply Kd.R_drewN | apply Kd.R_drew)); exact (Kd.R_mono (Kd.R_far (p := ⟨gb963, 2, none⟩) (Kd.R_far (p := ⟨gb963, 1, none⟩) (Kd.R_far (p := ⟨gb963, 0, none⟩) (Kd.R_types HO956.out BK963.out (by decide)) (fun _ hk => hk.2) (.int .i64 t957)) (fun _ hk => hk.2) (.int .i64 t958)) (fun _ hk => hk.2) (.slice Ao28 t959.length co28)) (fun _ h_ => h_.1))) hb); have n2_ := Aside0.mk (Kd.R_below (by (with_reducible repeat (first | apply Kd.R_alloc | apply Kd.R_drewN | apply Kd.R_drew)); exact (Kd.R_mono (Kd.R_far (p := ⟨gb963, 2, none⟩) (Kd.R_far (p := ⟨gb963, 1, none⟩) (Kd.R_far (p := ⟨gb963, 0, none⟩) (Kd.R_types HO961.out BK963.out (by decide)) (fun _ hk => hk.2) (.int .i64 t957)) (fun _ hk => hk.2) (.int .i64 t958)) (fun _ hk => hk.2) (.slice Ao28 t959.length co28)) (fun _ h_ => h_.1))) hb); have n3_ := Aside0.mk (Kd.R_lower (Kd.R_new' ho0 (Kd.R_lt (by (with_reducible repeat (first | apply Kd.R_alloc | apply Kd.R_drewN | apply Kd.R_drew)); exact (Kd.R_mono (Kd.R_far (p := ⟨gb963, 2, none⟩) (Kd.R_far (p := ⟨gb963, 1, none⟩) (Kd.R_far (p := ⟨gb963, 0, none⟩) (Kd.R_types HO953.out BK963.out (by decide)) (fun _ hk => hk.2) (.int .i64 t957)) (fun _ hk => hk.2) (.int .i64 t958)) (fun _ hk => hk.2) (.slice Ao28 t959.length co28)) (fun _ h_ => h_.1))))) (below_size (by repeat (first | (with_reducible first | exact HB.out | apply below_alloc | apply pw_below_drewN | apply below_drew1 | refine below_set ?_ GE963.out) | exact HB.out)))); have n4_ := Aside0.mk (blk_below (g := gb963) (o := .cells #[.int .i64 t957, .int .i64 t958, .slice Ao28 t959.length co28] 49 (0, 0)) (by (with_reducible repeat (first | refine blk_drewN ?_ _ | refine blk_drew ?_ | refine blk_alloc ?_ _)); refine blk_put (cs := #[.int .i64 t957, .int .i64 t958, .slice none 0 0]) ?_ 2 _ rfl; (with_reducible repeat (first | refine blk_drewN ?_ _ | refine blk_drew ?_ | refine blk_alloc ?_ _)); refine blk_put (cs := #[.int .i64 t957, .int .i64 0, .slice none 0 0]) ?_ 1 _ rfl; (with_reducible repeat (first | refine blk_drewN ?_ _ | refine blk_drew ?_ | refine blk_alloc ?_ _)); refine blk_put (cs := #[.int .i64 0, .int .i64 0, .slice none 0 0]) ?_ 0 _ rfl; (with_reducible repeat (first | refine blk_drewN ?_ _ | refine blk_drew ?_ | refine blk_alloc ?_ _)); exact BK963.out) hb); have n5_ := Aside0.mk (below_step (by repeat (first | (with_reducible first | exact HB.out | apply below_alloc | apply pw_below_drewN | apply below_drew1 | refine below_set ?_ GE963.out) | exact HB.out)) hb); clear HO953; clear HO956; clear HO961; clear BK963; clear HB; have HO953 := n0_; have HO956 := n1_; have HO961 := n2_; have HO966 := n3_; have BK963 := n4_; have HB := n5_; clear n0_ n1_ n2_ n3_ n4_ n5_; (try clear hb); (try clear hb2); (try clear hk); (try clear hi); (try clear ho0)) | ((with_reducible refine gate_callee (f := 49) rfl ?_); refine goesL_ (some 44) rfl rfl Try.func49 (by kernel_rfl) rfl #[.slice A1 l1.length c1] rfl (by (try simp only [List.map_toArray, List.map_cons, List.map_nil]); first | done | rfl | (simp only [List.length_drop, List.length_take]; rfl)) ?_; (with_reducible refine (laws_toVoteS.calls k _ _ l1 t967 _ ?side1 ?side2 A16.out).mono ?_); (case side1 => repeat (first | exact (Kd.C_below HR1.out HB.out) | (with_reducible refine Kd.C_alloc ?_ _) | (with_reducible refine Kd.C_drewN ?_ _) | (with_reducible refine Kd.C_drew ?_))); (case side2 => exact HC1.out); rintro e w30 ⟨v968, rfl, ho0, hb⟩; refine ⟨_, rfl, ?_⟩; have n0_ := Aside0.mk (Kd.R_below (by (with_reducible repeat (first | apply Kd.R_alloc | apply Kd.R_drewN | apply Kd.R_drew)); exact HO953.out) hb); have n1_ := Aside0.mk (Kd.R_elder' (by (with_reducible repeat (first | apply Kd.R_alloc | apply Kd.R_drewN | apply Kd.R_drew)); exact HO956.out) (Kd.R_base ho0) hb); have n2_ := Aside0.mk (Kd.R_below (by (with_reducible repeat (first | apply Kd.R_alloc | apply Kd.R_drewN | apply Kd.R_drew)); exact HO961.out) hb); have n3_ := Aside0.mk (Kd.R_below (by (with_reducible repeat (first | apply Kd.R_alloc | apply Kd.R_drewN | apply Kd.R_drew)); exact HO966.out) hb); have n4_ := Aside0.mk (Kd.R_lower (Kd.R_new' ho0 (Kd.R_lt (by (with_reducible repeat (first | apply Kd.R_alloc | apply Kd.R_drewN | apply Kd.R_drew)); exact HO956.out))) (below_size (by repeat (first | (with_reducible first | exact HB.out | apply below_alloc | apply pw_below_drewN | apply below_drew1 | refine below_set ?_ GE963.out) | exact HB.out)))); have n5_ := Aside0.mk (blk_below (g := gb963) (by (with_reducible repeat (first | refine blk_drewN ?_ _ | refine blk_drew ?_ | refine blk_alloc ?_ _)); exact BK963.out) hb); have n6_ := Aside0.mk (below_step (by repeat (first | (with_reducible first | exact HB.out | apply below_alloc | apply pw_below_drewN | apply below_drew1 | refine below_set ?_ GE963.out) | exact HB.out)) hb); clear HO953; clear HO956; clear HO961; clear HO966; clear BK963; clear HB; have HO953 := n0_; have HO956 := n1_; have HO961 := n2_; have HO966 := n3_; have HO969 := n4_; have BK963 := n5_; have HB := n6_; clear n0_ n1_ n2_ n3_ n4_ n5_ n6_; (try clear hb); (try clear hb2); (try clear hk); (try clear hi); (try clear ho0); obtain ⟨Ao31, co31, eo31⟩ := Kd.R_slice HO966.out; subst eo31; obtain ⟨Ao32, co32, eo32⟩ := Kd.R_slice HO969.out; subst eo32) | ((with_reducible refine gate_callee (f := 30) rfl ?_); refine goesL_ (some 50) rfl rfl Try.func30 (by kernel_rfl) rfl #[.slice Ao31 t964.length co31, .slice Ao32 t967.length co32, .int .i64 a2, .int .i64 a3] rfl (by (try simp only [List.map_toArray, List.map_cons, List.map_nil]); first | done | rfl | (simp only [List.length_drop, List.length_take]; rfl)) ?_; (with_reducible refine (impl_GatherQc.calls k _ _ t964 _ _ t967 a2 a3 t970 t971 t972 t975 _ ?side1 ?side2 ?side3 ?side4 A17.out).mono ?_); (case side1 => repeat (first | exact (Kd.R_reads' HO966.out).2.2 | (with_reducible refine Kd.C_alloc ?_ _) | (with_reducible refine Kd.C_drewN ?_ _) | (with_reducible refine Kd.C_drew ?_))); (case side2 => exact (Kd.R_reads' HO966.out).2.1); (case side3 => repeat (first | exact (Kd.R_reads' HO969.out).2.2 | (with_reducible refine Kd.C_alloc ?_ _) | (with_reducible refine Kd.C_drewN ?_ _) | (with_reducible refine Kd.C_drew ?_))); (case side4 => exact (Kd.R_reads' HO969.out).2.1); rintro e w33 ⟨v973, rfl, ho0, hb⟩; refine ⟨_, rfl, ?_⟩; have n0_ := Aside0.mk (Kd.R_below (by (with_reducible repeat (first | apply Kd.R_alloc | apply Kd.R_drewN | apply Kd.R_drew)); exact HO953.out) hb); have n1_ := Aside0.mk (Kd.R_below (by (with_reducible repeat (first | apply Kd.R_alloc | apply Kd.R_drewN | apply Kd.R_drew)); exact HO956.out) hb); have n2_ := Aside0.mk (Kd.R_elder' (by (with_reducible repeat (first | apply Kd.R_alloc | apply Kd.R_drewN | apply Kd.R_drew)); exact HO961.out) (Kd.R_base ho0) hb); have n3_ := Aside0.mk (Kd.R_below (by (with_reducible repeat (first | apply Kd.R_alloc | apply Kd.R_drewN | apply Kd.R_drew)); exact HO966.out) hb); have n4_ := Aside0.mk (Kd.R_below (by (with_reducible repeat (first | apply Kd.R_alloc | apply Kd.R_drewN | apply Kd.R_drew)); exact HO969.out) hb); have n5_ := Aside0.mk (Kd.R_lower (Kd.R_new' ho0 (Kd.R_lt (by (with_reducible repeat (first | apply Kd.R_alloc | apply Kd.R_drewN | apply Kd.R_drew)); exact HO961.out))) (below_size (by repeat (first | (with_reducible first | exact HB.out | apply below_alloc | apply pw_below_drewN | apply below_drew1 | refine below_set ?_ GE963.out) | exact HB.out)))); have n6_ := Aside0.mk (blk_below (g := gb963) (by (with_reducible repeat (first | refine blk_drewN ?_ _ | refine blk_drew ?_ | refine blk_alloc ?_ _)); exact BK963.out) hb); have n7_ := Aside0.mk (below_step (by repeat (first | (with_reducible first | exact HB.out | apply below_alloc | apply pw_below_drewN | apply below_drew1 | refine below_set ?_ GE963.out) | exact HB.out)) hb); clear HO953; clear HO956; clear HO961; clear HO966; clear HO969; clear BK963; clear HB; have HO953 := n0_; have HO956 := n1_; have HO961 := n2_; have HO966 := n3_; have HO969 := n4_; have HO974 := n5_; have BK963 := n6_; have HB := n7_; clear n0_ n1_ n2_ n3_ n4_ n5_ n6_ n7_; (try clear hb); (try clear hb2); (try clear hk); (try clear hi); (try clear ho0)) | ((with_reducible refine gate_dst (N := 14) rfl ?_); refine box_event ?hg (N := 14) ?hd (cs := #[.int .i64 0, .int .i64 0, .slice none 0 0]) (t := 49) ?hr ?_; (case hd => rfl); (case hg => rfl); (case hr => first | (go_simp; done) | (go_simp; rfl)); intro gb976 hg w34 hbox hb; have n0_ := Aside0.mk (Kd.R_below (by (with_reducible repeat (first | apply Kd.R_alloc | apply Kd.R_drewN | apply Kd.R_drew)); exact HO953.out) hb); have n1_ := Aside0.mk (Kd.R_below (by (with_reducible repeat (first | apply Kd.R_alloc | apply Kd.R_drewN | apply Kd.R_drew)); exact HO956.out) hb); have n2_ := Aside0.mk (Kd.R_below (by (with_reducible repeat (first | apply Kd.R_alloc | apply Kd.R_drewN | apply Kd.R_drew)); exact HO961.out) hb); have n3_ := Aside0.mk (Kd.R_below (by (with_reducible repeat (first | apply Kd.R_alloc | apply Kd.R_drewN | apply Kd.R_drew)); exact HO966.out) hb); have n4_ := Aside0.mk (Kd.R_below (by (with_reducible repeat (first | apply Kd.R_alloc | apply Kd.R_drewN | apply Kd.R_drew)); exact HO969.out) hb); have n5_ := Aside0.mk (Kd.R_below (by (with_reducible repeat (first | apply Kd.R_alloc | apply Kd.R_drewN | apply Kd.R_drew)); exact HO974.out) hb); have n6_ := Aside0.mk (blk_below (g := gb963) (by (with_reducible repeat (first | refine blk_drewN ?_ _ | refine blk_drew ?_ | refine blk_alloc ?_ _)); exact BK963.out) hb); have n7_ := Aside0.mk (below_step (by repeat (first | (with_reducible first | exact HB.out | apply below_alloc | apply pw_below_drewN | apply below_drew1 | refine below_set ?_ GE963.out) | exact HB.out)) hb); have n8_ := Aside0.mk (hbox); have n9_ := Aside0.mk ((by rw [hg]; exact (below_size (by repeat (first | (with_reducible first | exact HB.out | apply below_alloc | apply pw_below_drewN | apply below_drew1 | refine below_set ?_ GE963.out) | exact HB.out))) : w.heap.size ≤ gb976)); have n10_ := Aside0.mk ((by rw [hg]; exact (below_size (by repeat (first | (with_reducible first | exact HB.out | apply below_alloc | apply pw_below_drewN | apply below_drew1 | refine below_set ?_ GE963.out) | exact HB.out))) : w.heap.size ≤ gb976)); have n11_ := Aside0.mk ((by rw [hg]; exact Nat.ne_of_lt (blk_lt (g := gb963) (o := .cells #[.int .i64 t957, .int .i64 t958, .slice Ao28 t959.length co28] 49 (0, 0)) (by (with_reducible repeat (first | refine blk_drewN ?_ _ | refine blk_drew ?_ | refine blk_alloc ?_ _)); exact BK963.out)) : gb963 ≠ gb976)); have n12_ := Aside0.mk ((by rw [hg]; exact Nat.ne_of_gt (blk_lt (g := gb963) (o := .cells #[.int .i64 t957, .int .i64 t958, .slice Ao28 t959.length co28] 49 (0, 0)) (by (with_reducible repeat (first | refine blk_drewN ?_ _ | refine blk_drew ?_ | refine blk_alloc ?_ _)); exact BK963.out)) : gb976 ≠ gb963)); clear HO953; clear HO956; clear HO961; clear HO966; clear HO969; clear HO974; clear BK963; clear HB; have HO953 := n0_; have HO956 := n1_; have HO961 := n2_; have HO966 := n3_; have HO969 := n4_; have HO974 := n5_; have BK963 := n6_; have HB := n7_; have BK976 := n8_; have GW976 := n9_; have GE976 := n10_; have NB963_976 := n11_; have NB976_963 := n12_; clear n0_ n1_ n2_ n3_ n4_ n5_ n6_ n7_ n8_ n9_ n10_ n11_ n12_; clear hb hbox hg; have hnb35 := NB976_963.out; have hnc35 := NB963_976.out; obtain ⟨hcz36_0, hcz36_1, hcz36_2⟩ := cells3 BK976.out; obtain ⟨hfz36_0, hfz36_1, hfz36_2⟩ := frozens3 BK976.out; obtain ⟨Ao37, co37, eo37⟩ := Kd.R_slice HO974.out; subst eo37))
      (try simp only [Act.put, List.setIfInBounds_toArray, List.set_cons_zero, List.set_cons_succ])
      go_cut [61] (fun v61 wc => ∃ (kq : Nat) (x61_17 : Bool), v61 = .bool x61_17 ∧ Aside0 (laws_FnExactGatherQc.j0 kq l0 l1 a2 a3 t962 t964 t967 t975 x61_17 t957 t958 t959 t970 t971 t972 = some r) ∧ Aside0 (kq ≤ k) ∧ Aside0 (Kd.R k138 138 wc w.heap.size (fun _ => True) (.slice Ao31 t964.length co31) t964) ∧ Aside0 (Kd.R k53 53 wc w.heap.size (fun _ => True) (.slice Ao32 t967.length co32) t967) ∧ Aside0 (Kd.R Kd.string 9 wc w.heap.size (fun k_ => some k_ ≠ ((.slice Ao37 t972.length co37) : Value).ownBlock) (.slice Ao28 t959.length co28) t959) ∧ Aside0 (Kd.R Kd.string 9 wc w.heap.size (fun k_ => some k_ ≠ ((.slice Ao28 t959.length co28) : Value).ownBlock) (.slice Ao37 t972.length co37) t972) ∧ Aside0 (wc.heap[gb963]? = some (.cells #[.int .i64 t957, .int .i64 t958, (.slice Ao28 t959.length co28)] 49 (0, 0))) ∧ Aside0 (wc.heap[gb976]? = some (.cells #[.int .i64 t970, .int .i64 t971, (.slice Ao37 t972.length co37)] 49 (0, 0))) ∧ Aside0 (Below w.heap.size w wc))
      case first =>
        have H := HC18.out
        clear HC18
        replace H := Option.bind_eq_some_iff.mp H
        obtain ⟨t977, A380, H⟩ := H
        replace H : (if t977 = true then (laws_FnExactGatherQc.j0 k l0 l1 a2 a3 t962 t964 t967 t975 (t975 != t962) t957 t958 t959 t970 t971 t972) else (laws_FnExactGatherQc.j0 k l0 l1 a2 a3 t962 t964 t967 t975 true t957 t958 t959 t970 t971 t972)) = some r := H
        have A38 := Aside0.mk A380
        clear A380
        by_cases c39 : t977 = true
        · subst c39
          have H1 : (laws_FnExactGatherQc.j0 k l0 l1 a2 a3 t962 t964 t967 t975 (t975 != t962) t957 t958 t959 t970 t971 t972) = some r := by rw [if_pos rfl] at H; exact H
          clear H
          have H := H1
          clear H1
          have H' := Aside0.mk H
          clear H
          have hnb40 := NB976_963.out
          have hnc40 := NB963_976.out
          obtain ⟨hcz41_0, hcz41_1, hcz41_2⟩ := cells3 BK976.out
          obtain ⟨hfz41_0, hfz41_1, hfz41_2⟩ := frozens3 BK976.out
          obtain ⟨hcz42_0, hcz42_1, hcz42_2⟩ := cells3 BK963.out
          obtain ⟨hfz42_0, hfz42_1, hfz42_2⟩ := frozens3 BK963.out
          go_wp2_with (first | ((with_reducible refine gate_callee (f := 50) rfl ?_); refine goesL_ (some 55) rfl rfl Try.func50 (by kernel_rfl) rfl #[.agg #[.int .i64 t970, .int .i64 t971, .slice Ao37 t972.length co37], .agg #[.int .i64 t957, .int .i64 t958, .slice Ao28 t959.length co28]] rfl (by (try simp only [List.map_toArray, List.map_cons, List.map_nil]); first | done | rfl | (simp only [List.length_drop, List.length_take]; rfl)) ?_; (with_reducible refine (laws_eqQc.calls k t970 t971 _ _ t972 t957 t958 _ _ t959 true _ ?side1 ?side2 ?side3 ?side4 A38.out).mono ?_); (case side1 => refine (Kd.R_reads' (e := 9) (base := w.heap.size) (ok := fun k_ => (True ∧ some k_ ≠ (.slice Ao28 t959.length co28 : Value).ownBlock)) (n := t972.length) (c := co37) ?_).2.2; exact (by (with_reducible repeat (first | apply Kd.R_alloc | apply Kd.R_drewN | apply Kd.R_drew)); exact (Kd.R_mono (Kd.R_far (p := ⟨gb976, 2, none⟩) (Kd.R_far (p := ⟨gb976, 1, none⟩) (Kd.R_far (p := ⟨gb976, 0, none⟩) (Kd.R_types HO974.out BK976.out (by decide)) (fun _ hk => hk.2) (.int .i64 t970)) (fun _ hk => hk.2) (.int .i64 t971)) (fun _ hk => hk.2) (.slice Ao37 t972.length co37)) (fun _ h_ => h_.1)))); (case side2 => exact (Kd.R_reads' HO974.out).2.1); (case side3 => refine (Kd.R_reads' (e := 9) (base := w.heap.size) (ok := fun k_ => (True ∧ some k_ ≠ (.slice Ao37 t972.length co37 : Value).ownBlock)) (n := t959.length) (c := co28) ?_).2.2; exact (by (with_reducible repeat (first | apply Kd.R_alloc | apply Kd.R_drewN | apply Kd.R_drew)); exact (Kd.R_mono (Kd.R_far (p := ⟨gb976, 2, none⟩) (Kd.R_far (p := ⟨gb976, 1, none⟩) (Kd.R_far (p := ⟨gb976, 0, none⟩) (Kd.R_types HO961.out BK976.out (by decide)) (fun _ hk => hk.2) (.int .i64 t970)) (fun _ hk => hk.2) (.int .i64 t971)) (fun _ hk => hk.2) (.slice Ao37 t972.length co37)) (fun _ h_ => h_.1)))); (case side4 => exact (Kd.R_reads' HO961.out).2.1); rintro e w43 ⟨rfl, hb⟩; refine ⟨_, rfl, ?_⟩; have n0_ := Aside0.mk (Kd.R_below (by (with_reducible repeat (first | apply Kd.R_alloc | apply Kd.R_drewN | apply Kd.R_drew)); exact (Kd.R_mono (Kd.R_far (p := ⟨gb976, 2, none⟩) (Kd.R_far (p := ⟨gb976, 1, none⟩) (Kd.R_far (p := ⟨gb976, 0, none⟩) (Kd.R_types HO953.out BK976.out (by decide)) (fun _ hk => hk.2) (.int .i64 t970)) (fun _ hk => hk.2) (.int .i64 t971)) (fun _ hk => hk.2) (.slice Ao37 t972.length co37)) (fun _ h_ => h_.1))) hb); have n1_ := Aside0.mk (Kd.R_below (by (with_reducible repeat (first | apply Kd.R_alloc | apply Kd.R_drewN | apply Kd.R_drew)); exact (Kd.R_mono (Kd.R_far (p := ⟨gb976, 2, none⟩) (Kd.R_far (p := ⟨gb976, 1, none⟩) (Kd.R_far (p := ⟨gb976, 0, none⟩) (Kd.R_types HO956.out BK976.out (by decide)) (fun _ hk => hk.2) (.int .i64 t970)) (fun _ hk => hk.2) (.int .i64 t971)) (fun _ hk => hk.2) (.slice Ao37 t972.length co37)) (fun _ h_ => h_.1))) hb); have n2_ := Aside0.mk (Kd.R_below (by (with_reducible repeat (first | apply Kd.R_alloc | apply Kd.R_drewN | apply Kd.R_drew)); exact (Kd.R_mono (Kd.R_far (p := ⟨gb976, 2, none⟩) (Kd.R_far (p := ⟨gb976, 1, none⟩) (Kd.R_far (p := ⟨gb976, 0, none⟩) (Kd.R_types HO961.out BK976.out (by decide)) (fun _ hk => hk.2) (.int .i64 t970)) (fun _ hk => hk.2) (.int .i64 t971)) (fun _ hk => hk.2) (.slice Ao37 t972.length co37)) (fun _ h_ => h_.1))) hb); have n3_ := Aside0.mk (Kd.R_below (by (with_reducible repeat (first | apply Kd.R_alloc | apply Kd.R_drewN | apply Kd.R_drew)); exact (Kd.R_mono (Kd.R_far (p := ⟨gb976, 2, none⟩) (Kd.R_far (p := ⟨gb976, 1, none⟩) (Kd.R_far (p := ⟨gb976, 0, none⟩) (Kd.R_types HO966.out BK976.out (by decide)) (fun _ hk => hk.2) (.int .i64 t970)) (fun _ hk => hk.2) (.int .i64 t971)) (fun _ hk => hk.2) (.slice Ao37 t972.length co37)) (fun _ h_ => h_.1))) hb); have n4_ := Aside0.mk (Kd.R_below (by (with_reducible repeat (first | apply Kd.R_alloc | apply Kd.R_drewN | apply Kd.R_drew)); exact (Kd.R_mono (Kd.R_far (p := ⟨gb976, 2, none⟩) (Kd.R_far (p := ⟨gb976, 1, none⟩) (Kd.R_far (p := ⟨gb976, 0, none⟩) (Kd.R_types HO969.out BK976.out (by decide)) (fun _ hk => hk.2) (.int .i64 t970)) (fun _ hk => hk.2) (.int .i64 t971)) (fun _ hk => hk.2) (.slice Ao37 t972.length co37)) (fun _ h_ => h_.1))) hb); have n5_ := Aside0.mk (Kd.R_below (by (with_reducible repeat (first | apply Kd.R_alloc | apply Kd.R_drewN | apply Kd.R_drew)); exact (Kd.R_mono (Kd.R_far (p := ⟨gb976, 2, none⟩) (Kd.R_far (p := ⟨gb976, 1, none⟩) (Kd.R_far (p := ⟨gb976, 0, none⟩) (Kd.R_types HO974.out BK976.out (by decide)) (fun _ hk => hk.2) (.int .i64 t970)) (fun _ hk => hk.2) (.int .i64 t971)) (fun _ hk => hk.2) (.slice Ao37 t972.length co37)) (fun _ h_ => h_.1))) hb); have n6_ := Aside0.mk (blk_below (g := gb963) (o := .cells #[.int .i64 t957, .int .i64 t958, .slice Ao28 t959.length co28] 49 (0, 0)) (by (with_reducible repeat (first | refine blk_drewN ?_ _ | refine blk_drew ?_ | refine blk_alloc ?_ _)); refine blk_far ?_ NB963_976.out _; (with_reducible repeat (first | refine blk_drewN ?_ _ | refine blk_drew ?_ | refine blk_alloc ?_ _)); refine blk_far ?_ NB963_976.out _; (with_reducible repeat (first | refine blk_drewN ?_ _ | refine blk_drew ?_ | refine blk_alloc ?_ _)); refine blk_far ?_ NB963_976.out _; (with_reducible repeat (first | refine blk_drewN ?_ _ | refine blk_drew ?_ | refine blk_alloc ?_ _)); exact BK963.out) hb); have n7_ := Aside0.mk (blk_below (g := gb976) (o := .cells #[.int .i64 t970, .int .i64 t971, .slice Ao37 t972.length co37] 49 (0, 0)) (by (with_reducible repeat (first | refine blk_drewN ?_ _ | refine blk_drew ?_ | refine blk_alloc ?_ _)); refine blk_put (cs := #[.int .i64 t970, .int .i64 t971, .slice none 0 0]) ?_ 2 _ rfl; (with_reducible repeat (first | refine blk_drewN ?_ _ | refine blk_drew ?_ | refine blk_alloc ?_ _)); refine blk_put (cs := #[.int .i64 t970, .int .i64 0, .slice none 0 0]) ?_ 1 _ rfl; (with_reducible repeat (first | refine blk_drewN ?_ _ | refine blk_drew ?_ | refine blk_alloc ?_ _)); refine blk_put (cs := #[.int .i64 0, .int .i64 0, .slice none 0 0]) ?_ 0 _ rfl; (with_reducible repeat (first | refine blk_drewN ?_ _ | refine blk_drew ?_ | refine blk_alloc ?_ _)); exact BK976.out) hb); have n8_ := Aside0.mk (below_step (by repeat (first | (with_reducible first | exact HB.out | apply below_alloc | apply pw_below_drewN | apply below_drew1 | refine below_set ?_ GE963.out | refine below_set ?_ GE976.out) | exact HB.out)) hb); clear HO953; clear HO956; clear HO961; clear HO966; clear HO969; clear HO974; clear BK963; clear BK976; clear HB; have HO953 := n0_; have HO956 := n1_; have HO961 := n2_; have HO966 := n3_; have HO969 := n4_; have HO974 := n5_; have BK963 := n6_; have BK976 := n7_; have HB := n8_; clear n0_ n1_ n2_ n3_ n4_ n5_ n6_ n7_ n8_; (try clear hb); (try clear hb2); (try clear hk); (try clear hi)))
          go_meet
          case rel => exact ⟨_, ((t975 != t962)), (by first | rfl | (simp; done) | (simp [*]; done)), H', ⟨by first | omega | exact Nat.le_refl _⟩, ⟨by (with_reducible repeat (first | apply Kd.R_alloc | apply Kd.R_drewN | apply Kd.R_drew)); exact Kd.R_mono HO966.out (fun _ hk => trivial)⟩, ⟨by (with_reducible repeat (first | apply Kd.R_alloc | apply Kd.R_drewN | apply Kd.R_drew)); exact Kd.R_mono HO969.out (fun _ hk => trivial)⟩, ⟨by (with_reducible repeat (first | apply Kd.R_alloc | apply Kd.R_drewN | apply Kd.R_drew)); exact Kd.R_mono HO961.out (fun _ hk => hk.2)⟩, ⟨by (with_reducible repeat (first | apply Kd.R_alloc | apply Kd.R_drewN | apply Kd.R_drew)); exact Kd.R_mono HO974.out (fun _ hk => hk.2)⟩, ⟨by (with_reducible repeat (first | refine blk_drewN ?_ _ | refine blk_drew ?_ | refine blk_alloc ?_ _)); exact BK963.out⟩, ⟨by (with_reducible repeat (first | refine blk_drewN ?_ _ | refine blk_drew ?_ | refine blk_alloc ?_ _)); exact BK976.out⟩, ⟨by repeat (first | (with_reducible first | exact HB.out | apply below_alloc | apply pw_below_drewN | apply below_drew1 | refine below_set ?_ GE963.out | refine below_set ?_ GE976.out) | exact HB.out)⟩⟩
        · replace c39 := Bool.eq_false_iff.mpr c39
          subst c39
          have H1 : (laws_FnExactGatherQc.j0 k l0 l1 a2 a3 t962 t964 t967 t975 true t957 t958 t959 t970 t971 t972) = some r := by rw [if_neg (show ¬ (false = true) by decide)] at H; exact H
          clear H
          have H := H1
          clear H1
          have H' := Aside0.mk H
          clear H
          have hnb44 := NB976_963.out
          have hnc44 := NB963_976.out
          obtain ⟨hcz45_0, hcz45_1, hcz45_2⟩ := cells3 BK976.out
          obtain ⟨hfz45_0, hfz45_1, hfz45_2⟩ := frozens3 BK976.out
          obtain ⟨hcz46_0, hcz46_1, hcz46_2⟩ := cells3 BK963.out
          obtain ⟨hfz46_0, hfz46_1, hfz46_2⟩ := frozens3 BK963.out
          go_wp2_with (first | ((with_reducible refine gate_callee (f := 50) rfl ?_); refine goesL_ (some 55) rfl rfl Try.func50 (by kernel_rfl) rfl #[.agg #[.int .i64 t970, .int .i64 t971, .slice Ao37 t972.length co37], .agg #[.int .i64 t957, .int .i64 t958, .slice Ao28 t959.length co28]] rfl (by (try simp only [List.map_toArray, List.map_cons, List.map_nil]); first | done | rfl | (simp only [List.length_drop, List.length_take]; rfl)) ?_; (with_reducible refine (laws_eqQc.calls k t970 t971 _ _ t972 t957 t958 _ _ t959 false _ ?side1 ?side2 ?side3 ?side4 A38.out).mono ?_); (case side1 => refine (Kd.R_reads' (e := 9) (base := w.heap.size) (ok := fun k_ => (True ∧ some k_ ≠ (.slice Ao28 t959.length co28 : Value).ownBlock)) (n := t972.length) (c := co37) ?_).2.2; exact (by (with_reducible repeat (first | apply Kd.R_alloc | apply Kd.R_drewN | apply Kd.R_drew)); exact (Kd.R_mono (Kd.R_far (p := ⟨gb976, 2, none⟩) (Kd.R_far (p := ⟨gb976, 1, none⟩) (Kd.R_far (p := ⟨gb976, 0, none⟩) (Kd.R_types HO974.out BK976.out (by decide)) (fun _ hk => hk.2) (.int .i64 t970)) (fun _ hk => hk.2) (.int .i64 t971)) (fun _ hk => hk.2) (.slice Ao37 t972.length co37)) (fun _ h_ => h_.1)))); (case side2 => exact (Kd.R_reads' HO974.out).2.1); (case side3 => refine (Kd.R_reads' (e := 9) (base := w.heap.size) (ok := fun k_ => (True ∧ some k_ ≠ (.slice Ao37 t972.length co37 : Value).ownBlock)) (n := t959.length) (c := co28) ?_).2.2; exact (by (with_reducible repeat (first | apply Kd.R_alloc | apply Kd.R_drewN | apply Kd.R_drew)); exact (Kd.R_mono (Kd.R_far (p := ⟨gb976, 2, none⟩) (Kd.R_far (p := ⟨gb976, 1, none⟩) (Kd.R_far (p := ⟨gb976, 0, none⟩) (Kd.R_types HO961.out BK976.out (by decide)) (fun _ hk => hk.2) (.int .i64 t970)) (fun _ hk => hk.2) (.int .i64 t971)) (fun _ hk => hk.2) (.slice Ao37 t972.length co37)) (fun _ h_ => h_.1)))); (case side4 => exact (Kd.R_reads' HO961.out).2.1); rintro e w47 ⟨rfl, hb⟩; refine ⟨_, rfl, ?_⟩; have n0_ := Aside0.mk (Kd.R_below (by (with_reducible repeat (first | apply Kd.R_alloc | apply Kd.R_drewN | apply Kd.R_drew)); exact (Kd.R_mono (Kd.R_far (p := ⟨gb976, 2, none⟩) (Kd.R_far (p := ⟨gb976, 1, none⟩) (Kd.R_far (p := ⟨gb976, 0, none⟩) (Kd.R_types HO953.out BK976.out (by decide)) (fun _ hk => hk.2) (.int .i64 t970)) (fun _ hk => hk.2) (.int .i64 t971)) (fun _ hk => hk.2) (.slice Ao37 t972.length co37)) (fun _ h_ => h_.1))) hb); have n1_ := Aside0.mk (Kd.R_below (by (with_reducible repeat (first | apply Kd.R_alloc | apply Kd.R_drewN | apply Kd.R_drew)); exact (Kd.R_mono (Kd.R_far (p := ⟨gb976, 2, none⟩) (Kd.R_far (p := ⟨gb976, 1, none⟩) (Kd.R_far (p := ⟨gb976, 0, none⟩) (Kd.R_types HO956.out BK976.out (by decide)) (fun _ hk => hk.2) (.int .i64 t970)) (fun _ hk => hk.2) (.int .i64 t971)) (fun _ hk => hk.2) (.slice Ao37 t972.length co37)) (fun _ h_ => h_.1))) hb); have n2_ := Aside0.mk (Kd.R_below (by (with_reducible repeat (first | apply Kd.R_alloc | apply Kd.R_drewN | apply Kd.R_drew)); exact (Kd.R_mono (Kd.R_far (p := ⟨gb976, 2, none⟩) (Kd.R_far (p := ⟨gb976, 1, none⟩) (Kd.R_far (p := ⟨gb976, 0, none⟩) (Kd.R_types HO961.out BK976.out (by decide)) (fun _ hk => hk.2) (.int .i64 t970)) (fun _ hk => hk.2) (.int .i64 t971)) (fun _ hk => hk.2) (.slice Ao37 t972.length co37)) (fun _ h_ => h_.1))) hb); have n3_ := Aside0.mk (Kd.R_below (by (with_reducible repeat (first | apply Kd.R_alloc | apply Kd.R_drewN | apply Kd.R_drew)); exact (Kd.R_mono (Kd.R_far (p := ⟨gb976, 2, none⟩) (Kd.R_far (p := ⟨gb976, 1, none⟩) (Kd.R_far (p := ⟨gb976, 0, none⟩) (Kd.R_types HO966.out BK976.out (by decide)) (fun _ hk => hk.2) (.int .i64 t970)) (fun _ hk => hk.2) (.int .i64 t971)) (fun _ hk => hk.2) (.slice Ao37 t972.length co37)) (fun _ h_ => h_.1))) hb); have n4_ := Aside0.mk (Kd.R_below (by (with_reducible repeat (first | apply Kd.R_alloc | apply Kd.R_drewN | apply Kd.R_drew)); exact (Kd.R_mono (Kd.R_far (p := ⟨gb976, 2, none⟩) (Kd.R_far (p := ⟨gb976, 1, none⟩) (Kd.R_far (p := ⟨gb976, 0, none⟩) (Kd.R_types HO969.out BK976.out (by decide)) (fun _ hk => hk.2) (.int .i64 t970)) (fun _ hk => hk.2) (.int .i64 t971)) (fun _ hk => hk.2) (.slice Ao37 t972.length co37)) (fun _ h_ => h_.1))) hb); have n5_ := Aside0.mk (Kd.R_below (by (with_reducible repeat (first | apply Kd.R_alloc | apply Kd.R_drewN | apply Kd.R_drew)); exact (Kd.R_mono (Kd.R_far (p := ⟨gb976, 2, none⟩) (Kd.R_far (p := ⟨gb976, 1, none⟩) (Kd.R_far (p := ⟨gb976, 0, none⟩) (Kd.R_types HO974.out BK976.out (by decide)) (fun _ hk => hk.2) (.int .i64 t970)) (fun _ hk => hk.2) (.int .i64 t971)) (fun _ hk => hk.2) (.slice Ao37 t972.length co37)) (fun _ h_ => h_.1))) hb); have n6_ := Aside0.mk (blk_below (g := gb963) (o := .cells #[.int .i64 t957, .int .i64 t958, .slice Ao28 t959.length co28] 49 (0, 0)) (by (with_reducible repeat (first | refine blk_drewN ?_ _ | refine blk_drew ?_ | refine blk_alloc ?_ _)); refine blk_far ?_ NB963_976.out _; (with_reducible repeat (first | refine blk_drewN ?_ _ | refine blk_drew ?_ | refine blk_alloc ?_ _)); refine blk_far ?_ NB963_976.out _; (with_reducible repeat (first | refine blk_drewN ?_ _ | refine blk_drew ?_ | refine blk_alloc ?_ _)); refine blk_far ?_ NB963_976.out _; (with_reducible repeat (first | refine blk_drewN ?_ _ | refine blk_drew ?_ | refine blk_alloc ?_ _)); exact BK963.out) hb); have n7_ := Aside0.mk (blk_below (g := gb976) (o := .cells #[.int .i64 t970, .int .i64 t971, .slice Ao37 t972.length co37] 49 (0, 0)) (by (with_reducible repeat (first | refine blk_drewN ?_ _ | refine blk_drew ?_ | refine blk_alloc ?_ _)); refine blk_put (cs := #[.int .i64 t970, .int .i64 t971, .slice none 0 0]) ?_ 2 _ rfl; (with_reducible repeat (first | refine blk_drewN ?_ _ | refine blk_drew ?_ | refine blk_alloc ?_ _)); refine blk_put (cs := #[.int .i64 t970, .int .i64 0, .slice none 0 0]) ?_ 1 _ rfl; (with_reducible repeat (first | refine blk_drewN ?_ _ | refine blk_drew ?_ | refine blk_alloc ?_ _)); refine blk_put (cs := #[.int .i64 0, .int .i64 0, .slice none 0 0]) ?_ 0 _ rfl; (with_reducible repeat (first | refine blk_drewN ?_ _ | refine blk_drew ?_ | refine blk_alloc ?_ _)); exact BK976.out) hb); have n8_ := Aside0.mk (below_step (by repeat (first | (with_reducible first | exact HB.out | apply below_alloc | apply pw_below_drewN | apply below_drew1 | refine below_set ?_ GE963.out | refine below_set ?_ GE976.out) | exact HB.out)) hb); clear HO953; clear HO956; clear HO961; clear HO966; clear HO969; clear HO974; clear BK963; clear BK976; clear HB; have HO953 := n0_; have HO956 := n1_; have HO961 := n2_; have HO966 := n3_; have HO969 := n4_; have HO974 := n5_; have BK963 := n6_; have BK976 := n7_; have HB := n8_; clear n0_ n1_ n2_ n3_ n4_ n5_ n6_ n7_ n8_; (try clear hb); (try clear hb2); (try clear hk); (try clear hi)))
          go_meet
          case rel => exact ⟨_, (true), (by first | rfl | (simp; done) | (simp [*]; done)), H', ⟨by first | omega | exact Nat.le_refl _⟩, ⟨by (with_reducible repeat (first | apply Kd.R_alloc | apply Kd.R_drewN | apply Kd.R_drew)); exact Kd.R_mono HO966.out (fun _ hk => trivial)⟩, ⟨by (with_reducible repeat (first | apply Kd.R_alloc | apply Kd.R_drewN | apply Kd.R_drew)); exact Kd.R_mono HO969.out (fun _ hk => trivial)⟩, ⟨by (with_reducible repeat (first | apply Kd.R_alloc | apply Kd.R_drewN | apply Kd.R_drew)); exact Kd.R_mono HO961.out (fun _ hk => hk.2)⟩, ⟨by (with_reducible repeat (first | apply Kd.R_alloc | apply Kd.R_drewN | apply Kd.R_drew)); exact Kd.R_mono HO974.out (fun _ hk => hk.2)⟩, ⟨by (with_reducible repeat (first | refine blk_drewN ?_ _ | refine blk_drew ?_ | refine blk_alloc ?_ _)); exact BK963.out⟩, ⟨by (with_reducible repeat (first | refine blk_drewN ?_ _ | refine blk_drew ?_ | refine blk_alloc ?_ _)); exact BK976.out⟩, ⟨by repeat (first | (with_reducible first | exact HB.out | apply below_alloc | apply pw_below_drewN | apply below_drew1 | refine below_set ?_ GE963.out | refine below_set ?_ GE976.out) | exact HB.out)⟩⟩
      case rest =>
        clear HC18
        try clear c1
        try clear p2
        try clear c3
        try clear c4
        try clear c5
        try clear c6
        try clear c6b0
        try clear c9
        try clear c9b0
        try clear c30
        try clear c31
        try clear c35
        try clear c39
        try clear c40
        try clear c44
        try clear c46
        try clear c47
        try clear hcz27_0
        try clear hcz27_1
        try clear hcz27_2
        try clear hcz36_0
        try clear hcz36_1
        try clear hcz36_2
        try clear hcz41_0
        try clear hcz41_1
        try clear hcz41_2
        try clear hcz42_0
        try clear hcz42_1
        try clear hcz42_2
        try clear hcz45_0
        try clear hcz45_1
        try clear hcz45_2
        try clear hcz46_0
        try clear hcz46_1
        try clear hcz46_2
        try clear hfz27_0
        try clear hfz27_1
        try clear hfz27_2
        try clear hfz36_0
        try clear hfz36_1
        try clear hfz36_2
        try clear hfz41_0
        try clear hfz41_1
        try clear hfz41_2
        try clear hfz42_0
        try clear hfz42_1
        try clear hfz42_2
        try clear hfz45_0
        try clear hfz45_1
        try clear hfz45_2
        try clear hfz46_0
        try clear hfz46_1
        try clear hfz46_2
        obtain ⟨kq, x61_17, rfl, HA, HJ17, HO_12, HO_13, HO_964002, HO_977002, BK963, BK976, HB⟩ := hcut
        cases kq with
        | zero => exact absurd HA.out (by simp [laws_FnExactGatherQc.j0])
        | succ kj17 =>
          have H := HA.out
          clear HA
          simp only [laws_FnExactGatherQc.j0] at H
          by_cases c48 : x61_17 = true
          · subst c48
            have H1 : (some false) = some r := by rw [if_pos rfl] at H; exact H
            clear H
            have H := H1
            clear H1
            obtain rfl := Option.some.inj H
            go_wp2
            go_ret
            exact ⟨by first | rfl | (simp [errW_none, errW_some] <;> rfl) | (simp [*, errW_none, errW_some] <;> rfl), by repeat (first | (with_reducible first | exact HB.out | apply below_alloc | apply pw_below_drewN | apply below_drew1 | refine below_set ?_ GE963.out | refine below_set ?_ GE976.out) | exact HB.out)⟩
          · replace c48 := Bool.eq_false_iff.mpr c48
            subst c48
            have H1 : ((laws_toValS.f kj17 l0).bind fun t978 => ((laws_eqValS.f kj17 t964 t978).bind fun t981 => (if t981 = true then ((laws_toVoteS.f kj17 l1).bind fun t982 => ((laws_eqVoteS.f kj17 t967 t982).bind fun t985 => (if t985 = true then ((laws_markValS.f kj17 t964 1).bind fun bt986 => ((laws_markVoteS.f kj17 t967 bt986.1).bind fun bt988 => (if bt988.1 < 0 then (laws_FnExactGatherQc.j1 kj17 l0 l1 a2 a3 t962 true t957 t958 t959 t970 t971 t972) else ((laws_eqQc.f kj17 t970 t971 t972 t957 t958 t959).bind fun t990 => (if t990 = true then (laws_FnExactGatherQc.j1 kj17 l0 l1 a2 a3 t962 (t975 != t962) t957 t958 t959 t970 t971 t972) else (laws_FnExactGatherQc.j1 kj17 l0 l1 a2 a3 t962 true t957 t958 t959 t970 t971 t972)))))) else (some false)))) else (some false)))) = some r := by rw [if_neg (show ¬ (false = true) by decide)] at H; exact H
            clear H
            have H := H1
            clear H1
            replace H := Option.bind_eq_some_iff.mp H
            obtain ⟨t978, A490, H⟩ := H
            replace H : ((laws_eqValS.f kj17 t964 t978).bind fun t981 => (if t981 = true then ((laws_toVoteS.f kj17 l1).bind fun t982 => ((laws_eqVoteS.f kj17 t967 t982).bind fun t985 => (if t985 = true then ((laws_markValS.f kj17 t964 1).bind fun bt986 => ((laws_markVoteS.f kj17 t967 bt986.1).bind fun bt988 => (if bt988.1 < 0 then (laws_FnExactGatherQc.j1 kj17 l0 l1 a2 a3 t962 true t957 t958 t959 t970 t971 t972) else ((laws_eqQc.f kj17 t970 t971 t972 t957 t958 t959).bind fun t990 => (if t990 = true then (laws_FnExactGatherQc.j1 kj17 l0 l1 a2 a3 t962 (t975 != t962) t957 t958 t959 t970 t971 t972) else (laws_FnExactGatherQc.j1 kj17 l0 l1 a2 a3 t962 true t957 t958 t959 t970 t971 t972)))))) else (some false)))) else (some false))) = some r := H
            have A49 := Aside0.mk A490
            clear A490
            replace H := Option.bind_eq_some_iff.mp H
            obtain ⟨t981, A500, H⟩ := H
            replace H : (if t981 = true then ((laws_toVoteS.f kj17 l1).bind fun t982 => ((laws_eqVoteS.f kj17 t967 t982).bind fun t985 => (if t985 = true then ((laws_markValS.f kj17 t964 1).bind fun bt986 => ((laws_markVoteS.f kj17 t967 bt986.1).bind fun bt988 => (if bt988.1 < 0 then (laws_FnExactGatherQc.j1 kj17 l0 l1 a2 a3 t962 true t957 t958 t959 t970 t971 t972) else ((laws_eqQc.f kj17 t970 t971 t972 t957 t958 t959).bind fun t990 => (if t990 = true then (laws_FnExactGatherQc.j1 kj17 l0 l1 a2 a3 t962 (t975 != t962) t957 t958 t959 t970 t971 t972) else (laws_FnExactGatherQc.j1 kj17 l0 l1 a2 a3 t962 true t957 t958 t959 t970 t971 t972)))))) else (some false)))) else (some false)) = some r := H
            have A50 := Aside0.mk A500
            clear A500
            by_cases c51 : t981 = true
            · subst c51
              have H1 : ((laws_toVoteS.f kj17 l1).bind fun t982 => ((laws_eqVoteS.f kj17 t967 t982).bind fun t985 => (if t985 = true then ((laws_markValS.f kj17 t964 1).bind fun bt986 => ((laws_markVoteS.f kj17 t967 bt986.1).bind fun bt988 => (if bt988.1 < 0 then (laws_FnExactGatherQc.j1 kj17 l0 l1 a2 a3 t962 true t957 t958 t959 t970 t971 t972) else ((laws_eqQc.f kj17 t970 t971 t972 t957 t958 t959).bind fun t990 => (if t990 = true then (laws_FnExactGatherQc.j1 kj17 l0 l1 a2 a3 t962 (t975 != t962) t957 t958 t959 t970 t971 t972) else (laws_FnExactGatherQc.j1 kj17 l0 l1 a2 a3 t962 true t957 t958 t959 t970 t971 t972)))))) else (some false)))) = some r := by rw [if_pos rfl] at H; exact H
              clear H
              have H := H1
              clear H1
              replace H := Option.bind_eq_some_iff.mp H
              obtain ⟨t982, A520, H⟩ := H
              replace H : ((laws_eqVoteS.f kj17 t967 t982).bind fun t985 => (if t985 = true then ((laws_markValS.f kj17 t964 1).bind fun bt986 => ((laws_markVoteS.f kj17 t967 bt986.1).bind fun bt988 => (if bt988.1 < 0 then (laws_FnExactGatherQc.j1 kj17 l0 l1 a2 a3 t962 true t957 t958 t959 t970 t971 t972) else ((laws_eqQc.f kj17 t970 t971 t972 t957 t958 t959).bind fun t990 => (if t990 = true then (laws_FnExactGatherQc.j1 kj17 l0 l1 a2 a3 t962 (t975 != t962) t957 t958 t959 t970 t971 t972) else (laws_FnExactGatherQc.j1 kj17 l0 l1 a2 a3 t962 true t957 t958 t959 t970 t971 t972)))))) else (some false))) = some r := H
              have A52 := Aside0.mk A520
              clear A520
              replace H := Option.bind_eq_some_iff.mp H
              obtain ⟨t985, A530, H⟩ := H
              replace H : (if t985 = true then ((laws_markValS.f kj17 t964 1).bind fun bt986 => ((laws_markVoteS.f kj17 t967 bt986.1).bind fun bt988 => (if bt988.1 < 0 then (laws_FnExactGatherQc.j1 kj17 l0 l1 a2 a3 t962 true t957 t958 t959 t970 t971 t972) else ((laws_eqQc.f kj17 t970 t971 t972 t957 t958 t959).bind fun t990 => (if t990 = true then (laws_FnExactGatherQc.j1 kj17 l0 l1 a2 a3 t962 (t975 != t962) t957 t958 t959 t970 t971 t972) else (laws_FnExactGatherQc.j1 kj17 l0 l1 a2 a3 t962 true t957 t958 t959 t970 t971 t972)))))) else (some false)) = some r := H
              have A53 := Aside0.mk A530
              clear A530
              by_cases c54 : t985 = true
              · subst c54
                have H1 : ((laws_markValS.f kj17 t964 1).bind fun bt986 => ((laws_markVoteS.f kj17 t967 bt986.1).bind fun bt988 => (if bt988.1 < 0 then (laws_FnExactGatherQc.j1 kj17 l0 l1 a2 a3 t962 true t957 t958 t959 t970 t971 t972) else ((laws_eqQc.f kj17 t970 t971 t972 t957 t958 t959).bind fun t990 => (if t990 = true then (laws_FnExactGatherQc.j1 kj17 l0 l1 a2 a3 t962 (t975 != t962) t957 t958 t959 t970 t971 t972) else (laws_FnExactGatherQc.j1 kj17 l0 l1 a2 a3 t962 true t957 t958 t959 t970 t971 t972)))))) = some r := by rw [if_pos rfl] at H; exact H
                clear H
                have H := H1
                clear H1
                replace H := Option.bind_eq_some_iff.mp H
                obtain ⟨⟨t986, t987⟩, A550, H⟩ := H
                replace H : ((laws_markVoteS.f kj17 t967 t986).bind fun bt988 => (if bt988.1 < 0 then (laws_FnExactGatherQc.j1 kj17 l0 l1 a2 a3 t962 true t957 t958 t959 t970 t971 t972) else ((laws_eqQc.f kj17 t970 t971 t972 t957 t958 t959).bind fun t990 => (if t990 = true then (laws_FnExactGatherQc.j1 kj17 l0 l1 a2 a3 t962 (t975 != t962) t957 t958 t959 t970 t971 t972) else (laws_FnExactGatherQc.j1 kj17 l0 l1 a2 a3 t962 true t957 t958 t959 t970 t971 t972))))) = some r := H
                have A55 := Aside0.mk A550
                clear A550
                replace H := Option.bind_eq_some_iff.mp H
                obtain ⟨⟨t988, t989⟩, A560, H⟩ := H
                replace H : (if t988 < 0 then (laws_FnExactGatherQc.j1 kj17 l0 l1 a2 a3 t962 true t957 t958 t959 t970 t971 t972) else ((laws_eqQc.f kj17 t970 t971 t972 t957 t958 t959).bind fun t990 => (if t990 = true then (laws_FnExactGatherQc.j1 kj17 l0 l1 a2 a3 t962 (t975 != t962) t957 t958 t959 t970 t971 t972) else (laws_FnExactGatherQc.j1 kj17 l0 l1 a2 a3 t962 true t957 t958 t959 t970 t971 t972)))) = some r := H
                have A56 := Aside0.mk A560
                clear A560
                have HC57 := Aside0.mk H
                clear H
                go_upto_region 21 with (first | ((with_reducible refine gate_callee (f := 48) rfl ?_); refine goesL_ (some 64) rfl rfl Try.func48 (by kernel_rfl) rfl #[.slice A0 l0.length c0] rfl (by (try simp only [List.map_toArray, List.map_cons, List.map_nil]); first | done | rfl | (simp only [List.length_drop, List.length_take]; rfl)) ?_; (with_reducible refine (laws_toValS.calls kj17 _ _ l0 t978 _ ?side1 ?side2 A49.out).mono ?_); (case side1 => repeat (first | exact (Kd.C_below HR0.out HB.out) | (with_reducible refine Kd.C_alloc ?_ _) | (with_reducible refine Kd.C_drewN ?_ _) | (with_reducible refine Kd.C_drew ?_))); (case side2 => exact HC0.out); rintro e w58 ⟨v979, rfl, ho0, hb⟩; refine ⟨_, rfl, ?_⟩; have n0_ := Aside0.mk (Kd.R_elder' (by (with_reducible repeat (first | apply Kd.R_alloc | apply Kd.R_drewN | apply Kd.R_drew)); exact HO_12.out) (Kd.R_base ho0) hb); have n1_ := Aside0.mk (Kd.R_below (by (with_reducible repeat (first | apply Kd.R_alloc | apply Kd.R_drewN | apply Kd.R_drew)); exact HO_13.out) hb); have n2_ := Aside0.mk (Kd.R_below (by (with_reducible repeat (first | apply Kd.R_alloc | apply Kd.R_drewN | apply Kd.R_drew)); exact HO_964002.out) hb); have n3_ := Aside0.mk (Kd.R_below (by (with_reducible repeat (first | apply Kd.R_alloc | apply Kd.R_drewN | apply Kd.R_drew)); exact HO_977002.out) hb); have n4_ := Aside0.mk (Kd.R_lower (Kd.R_new' ho0 (Kd.R_lt (by (with_reducible repeat (first | apply Kd.R_alloc | apply Kd.R_drewN | apply Kd.R_drew)); exact HO_12.out))) (below_size (by repeat (first | (with_reducible first | exact HB.out | apply below_alloc | apply pw_below_drewN | apply below_drew1 | refine below_set ?_ GE963.out | refine below_set ?_ GE976.out) | exact HB.out)))); have n5_ := Aside0.mk (blk_below (g := gb963) (by (with_reducible repeat (first | refine blk_drewN ?_ _ | refine blk_drew ?_ | refine blk_alloc ?_ _)); exact BK963.out) hb); have n6_ := Aside0.mk (blk_below (g := gb976) (by (with_reducible repeat (first | refine blk_drewN ?_ _ | refine blk_drew ?_ | refine blk_alloc ?_ _)); exact BK976.out) hb); have n7_ := Aside0.mk (below_step (by repeat (first | (with_reducible first | exact HB.out | apply below_alloc | apply pw_below_drewN | apply below_drew1 | refine below_set ?_ GE963.out | refine below_set ?_ GE976.out) | exact HB.out)) hb); clear HO_12; clear HO_13; clear HO_964002; clear HO_977002; clear BK963; clear BK976; clear HB; have HO_12 := n0_; have HO_13 := n1_; have HO_964002 := n2_; have HO_977002 := n3_; have HO980 := n4_; have BK963 := n5_; have BK976 := n6_; have HB := n7_; clear n0_ n1_ n2_ n3_ n4_ n5_ n6_ n7_; (try clear hb); (try clear hb2); (try clear hk); (try clear hi); (try clear ho0); obtain ⟨Ao59, co59, eo59⟩ := Kd.R_slice HO980.out; subst eo59) | ((with_reducible refine gate_callee (f := 41) rfl ?_); refine goesL_ (some 65) rfl rfl Try.func41 (by kernel_rfl) rfl #[.slice Ao31 t964.length co31, .slice Ao59 t978.length co59] rfl (by (try simp only [List.map_toArray, List.map_cons, List.map_nil]); first | done | rfl | (simp only [List.length_drop, List.length_take]; rfl)) ?_; (with_reducible refine (laws_eqValS.calls kj17 _ _ t964 _ _ t978 true _ ?side1 ?side2 ?side3 ?side4 A50.out).mono ?_); (case side1 => repeat (first | exact (Kd.R_reads' HO_12.out).2.2 | (with_reducible refine Kd.C_alloc ?_ _) | (with_reducible refine Kd.C_drewN ?_ _) | (with_reducible refine Kd.C_drew ?_))); (case side2 => exact (Kd.R_reads' HO_12.out).2.1); (case side3 => repeat (first | exact (Kd.R_reads' HO980.out).2.2 | (with_reducible refine Kd.C_alloc ?_ _) | (with_reducible refine Kd.C_drewN ?_ _) | (with_reducible refine Kd.C_drew ?_))); (case side4 => exact (Kd.R_reads' HO980.out).2.1); rintro e w60 ⟨rfl, hb⟩; refine ⟨_, rfl, ?_⟩; have n0_ := Aside0.mk (Kd.R_below (by (with_reducible repeat (first | apply Kd.R_alloc | apply Kd.R_drewN | apply Kd.R_drew)); exact HO_12.out) hb); have n1_ := Aside0.mk (Kd.R_below (by (with_reducible repeat (first | apply Kd.R_alloc | apply Kd.R_drewN | apply Kd.R_drew)); exact HO_13.out) hb); have n2_ := Aside0.mk (Kd.R_below (by (with_reducible repeat (first | apply Kd.R_alloc | apply Kd.R_drewN | apply Kd.R_drew)); exact HO_964002.out) hb); have n3_ := Aside0.mk (Kd.R_below (by (with_reducible repeat (first | apply Kd.R_alloc | apply Kd.R_drewN | apply Kd.R_drew)); exact HO_977002.out) hb); have n4_ := Aside0.mk (Kd.R_below (by (with_reducible repeat (first | apply Kd.R_alloc | apply Kd.R_drewN | apply Kd.R_drew)); exact HO980.out) hb); have n5_ := Aside0.mk (blk_below (g := gb963) (by (with_reducible repeat (first | refine blk_drewN ?_ _ | refine blk_drew ?_ | refine blk_alloc ?_ _)); exact BK963.out) hb); have n6_ := Aside0.mk (blk_below (g := gb976) (by (with_reducible repeat (first | refine blk_drewN ?_ _ | refine blk_drew ?_ | refine blk_alloc ?_ _)); exact BK976.out) hb); have n7_ := Aside0.mk (below_step (by repeat (first | (with_reducible first | exact HB.out | apply below_alloc | apply pw_below_drewN | apply below_drew1 | refine below_set ?_ GE963.out | refine below_set ?_ GE976.out) | exact HB.out)) hb); clear HO_12; clear HO_13; clear HO_964002; clear HO_977002; clear HO980; clear BK963; clear BK976; clear HB; have HO_12 := n0_; have HO_13 := n1_; have HO_964002 := n2_; have HO_977002 := n3_; have HO980 := n4_; have BK963 := n5_; have BK976 := n6_; have HB := n7_; clear n0_ n1_ n2_ n3_ n4_ n5_ n6_ n7_; (try clear hb); (try clear hb2); (try clear hk); (try clear hi)) | ((with_reducible refine gate_callee (f := 49) rfl ?_); refine goesL_ (some 69) rfl rfl Try.func49 (by kernel_rfl) rfl #[.slice A1 l1.length c1] rfl (by (try simp only [List.map_toArray, List.map_cons, List.map_nil]); first | done | rfl | (simp only [List.length_drop, List.length_take]; rfl)) ?_; (with_reducible refine (laws_toVoteS.calls kj17 _ _ l1 t982 _ ?side1 ?side2 A52.out).mono ?_); (case side1 => repeat (first | exact (Kd.C_below HR1.out HB.out) | (with_reducible refine Kd.C_alloc ?_ _) | (with_reducible refine Kd.C_drewN ?_ _) | (with_reducible refine Kd.C_drew ?_))); (case side2 => exact HC1.out); rintro e w61 ⟨v983, rfl, ho0, hb⟩; refine ⟨_, rfl, ?_⟩; have n0_ := Aside0.mk (Kd.R_below (by (with_reducible repeat (first | apply Kd.R_alloc | apply Kd.R_drewN | apply Kd.R_drew)); exact HO_12.out) hb); have n1_ := Aside0.mk (Kd.R_elder' (by (with_reducible repeat (first | apply Kd.R_alloc | apply Kd.R_drewN | apply Kd.R_drew)); exact HO_13.out) (Kd.R_base ho0) hb); have n2_ := Aside0.mk (Kd.R_below (by (with_reducible repeat (first | apply Kd.R_alloc | apply Kd.R_drewN | apply Kd.R_drew)); exact HO_964002.out) hb); have n3_ := Aside0.mk (Kd.R_below (by (with_reducible repeat (first | apply Kd.R_alloc | apply Kd.R_drewN | apply Kd.R_drew)); exact HO_977002.out) hb); have n4_ := Aside0.mk (Kd.R_below (by (with_reducible repeat (first | apply Kd.R_alloc | apply Kd.R_drewN | apply Kd.R_drew)); exact HO980.out) hb); have n5_ := Aside0.mk (Kd.R_lower (Kd.R_new' ho0 (Kd.R_lt (by (with_reducible repeat (first | apply Kd.R_alloc | apply Kd.R_drewN | apply Kd.R_drew)); exact HO_13.out))) (below_size (by repeat (first | (with_reducible first | exact HB.out | apply below_alloc | apply pw_below_drewN | apply below_drew1 | refine below_set ?_ GE963.out | refine below_set ?_ GE976.out) | exact HB.out)))); have n6_ := Aside0.mk (blk_below (g := gb963) (by (with_reducible repeat (first | refine blk_drewN ?_ _ | refine blk_drew ?_ | refine blk_alloc ?_ _)); exact BK963.out) hb); have n7_ := Aside0.mk (blk_below (g := gb976) (by (with_reducible repeat (first | refine blk_drewN ?_ _ | refine blk_drew ?_ | refine blk_alloc ?_ _)); exact BK976.out) hb); have n8_ := Aside0.mk (below_step (by repeat (first | (with_reducible first | exact HB.out | apply below_alloc | apply pw_below_drewN | apply below_drew1 | refine below_set ?_ GE963.out | refine below_set ?_ GE976.out) | exact HB.out)) hb); clear HO_12; clear HO_13; clear HO_964002; clear HO_977002; clear HO980; clear BK963; clear BK976; clear HB; have HO_12 := n0_; have HO_13 := n1_; have HO_964002 := n2_; have HO_977002 := n3_; have HO980 := n4_; have HO984 := n5_; have BK963 := n6_; have BK976 := n7_; have HB := n8_; clear n0_ n1_ n2_ n3_ n4_ n5_ n6_ n7_ n8_; (try clear hb); (try clear hb2); (try clear hk); (try clear hi); (try clear ho0); obtain ⟨Ao62, co62, eo62⟩ := Kd.R_slice HO984.out; subst eo62) | ((with_reducible refine gate_callee (f := 51) rfl ?_); refine goesL_ (some 70) rfl rfl Try.func51 (by kernel_rfl) rfl #[.slice Ao32 t967.length co32, .slice Ao62 t982.length co62] rfl (by (try simp only [List.map_toArray, List.map_cons, List.map_nil]); first | done | rfl | (simp only [List.length_drop, List.length_take]; rfl)) ?_; (with_reducible refine (laws_eqVoteS.calls kj17 _ _ t967 _ _ t982 true _ ?side1 ?side2 ?side3 ?side4 A53.out).mono ?_); (case side1 => repeat (first | exact (Kd.R_reads' HO_13.out).2.2 | (with_reducible refine Kd.C_alloc ?_ _) | (with_reducible refine Kd.C_drewN ?_ _) | (with_reducible refine Kd.C_drew ?_))); (case side2 => exact (Kd.R_reads' HO_13.out).2.1); (case side3 => repeat (first | exact (Kd.R_reads' HO984.out).2.2 | (with_reducible refine Kd.C_alloc ?_ _) | (with_reducible refine Kd.C_drewN ?_ _) | (with_reducible refine Kd.C_drew ?_))); (case side4 => exact (Kd.R_reads' HO984.out).2.1); rintro e w63 ⟨rfl, hb⟩; refine ⟨_, rfl, ?_⟩; have n0_ := Aside0.mk (Kd.R_below (by (with_reducible repeat (first | apply Kd.R_alloc | apply Kd.R_drewN | apply Kd.R_drew)); exact HO_12.out) hb); have n1_ := Aside0.mk (Kd.R_below (by (with_reducible repeat (first | apply Kd.R_alloc | apply Kd.R_drewN | apply Kd.R_drew)); exact HO_13.out) hb); have n2_ := Aside0.mk (Kd.R_below (by (with_reducible repeat (first | apply Kd.R_alloc | apply Kd.R_drewN | apply Kd.R_drew)); exact HO_964002.out) hb); have n3_ := Aside0.mk (Kd.R_below (by (with_reducible repeat (first | apply Kd.R_alloc | apply Kd.R_drewN | apply Kd.R_drew)); exact HO_977002.out) hb); have n4_ := Aside0.mk (Kd.R_below (by (with_reducible repeat (first | apply Kd.R_alloc | apply Kd.R_drewN | apply Kd.R_drew)); exact HO980.out) hb); have n5_ := Aside0.mk (Kd.R_below (by (with_reducible repeat (first | apply Kd.R_alloc | apply Kd.R_drewN | apply Kd.R_drew)); exact HO984.out) hb); have n6_ := Aside0.mk (blk_below (g := gb963) (by (with_reducible repeat (first | refine blk_drewN ?_ _ | refine blk_drew ?_ | refine blk_alloc ?_ _)); exact BK963.out) hb); have n7_ := Aside0.mk (blk_below (g := gb976) (by (with_reducible repeat (first | refine blk_drewN ?_ _ | refine blk_drew ?_ | refine blk_alloc ?_ _)); exact BK976.out) hb); have n8_ := Aside0.mk (below_step (by repeat (first | (with_reducible first | exact HB.out | apply below_alloc | apply pw_below_drewN | apply below_drew1 | refine below_set ?_ GE963.out | refine below_set ?_ GE976.out) | exact HB.out)) hb); clear HO_12; clear HO_13; clear HO_964002; clear HO_977002; clear HO980; clear HO984; clear BK963; clear BK976; clear HB; have HO_12 := n0_; have HO_13 := n1_; have HO_964002 := n2_; have HO_977002 := n3_; have HO980 := n4_; have HO984 := n5_; have BK963 := n6_; have BK976 := n7_; have HB := n8_; clear n0_ n1_ n2_ n3_ n4_ n5_ n6_ n7_ n8_; (try clear hb); (try clear hb2); (try clear hk); (try clear hi)) | ((with_reducible refine gate_callee (f := 44) rfl ?_); refine goesL_ (some 74) rfl rfl Try.func44 (by kernel_rfl) rfl #[.slice Ao31 t964.length co31, .int .i64 1] rfl (by (try simp only [List.map_toArray, List.map_cons, List.map_nil]); first | done | rfl | (simp only [List.length_drop, List.length_take]; rfl)) ?_; (with_reducible refine (laws_markValS.calls kj17 (fun k_ => some k_ = (.slice Ao31 t964.length co31 : Value).ownBlock) (.slice Ao31 t964.length co31) t964 1 t986 t987 w _ ?side1 ?side2 A55.out).mono ?_); (case side1 => repeat (first | (with_reducible first | exact HB.out | apply below_alloc | apply pw_below_drewN | apply below_drew1 | refine below_set ?_ GE963.out | refine below_set ?_ GE976.out) | exact HB.out)); (case side2 => exact Kd.R_tight rfl HO_12.out); rintro e w64 ⟨rfl, hy0, hb, hkp⟩; refine ⟨_, rfl, ?_⟩; have n0_ := Aside0.mk (Kd.R_reok rfl hy0 (fun k_ e_ => HO_12.out.1 k_ e_)); have n1_ := Aside0.mk (Kd.R_mono (ok' := fun k_ => some k_ ≠ (.slice Ao62 t982.length co62 : Value).ownBlock) (Kd.R_keptB ((Kd.R_apart' HO_13.out (Kd.R_typed HO_12.out) (by decide))) hkp (fun k_ hk_ hs_ => (hk_.2) hs_)) (fun k_ hk_ => hk_.1.1.2)); have n2_ := Aside0.mk (Kd.R_mono (ok' := fun k_ => some k_ ≠ (.slice Ao37 t972.length co37 : Value).ownBlock) (Kd.R_keptB ((Kd.R_apart' HO_964002.out (Kd.R_typed HO_12.out) (by decide))) hkp (fun k_ hk_ hs_ => (hk_.2) hs_)) (fun k_ hk_ => hk_.1.1)); have n3_ := Aside0.mk (Kd.R_mono (ok' := fun k_ => some k_ ≠ (.slice Ao28 t959.length co28 : Value).ownBlock) (Kd.R_keptB ((Kd.R_apart' HO_977002.out (Kd.R_typed HO_12.out) (by decide))) hkp (fun k_ hk_ hs_ => (hk_.2) hs_)) (fun k_ hk_ => hk_.1.1)); have n4_ := Aside0.mk (blk_kept (by (with_reducible repeat (first | refine blk_drewN ?_ _ | refine blk_drew ?_ | refine blk_alloc ?_ _)); exact BK963.out) hkp (fun hs_ => (fun e_ => (Kd.R_ne HO_12.out BK963.out (by decide)) e_) hs_)); have n5_ := Aside0.mk (blk_kept (by (with_reducible repeat (first | refine blk_drewN ?_ _ | refine blk_drew ?_ | refine blk_alloc ?_ _)); exact BK976.out) hkp (fun hs_ => (fun e_ => (Kd.R_ne HO_12.out BK976.out (by decide)) e_) hs_)); have n6_ := Aside0.mk (Kd.R_mono (ok' := fun k_ => some k_ ≠ (.slice Ao31 t964.length co31 : Value).ownBlock) (Kd.R_keptB (HO980.out) hkp (fun k_ hk_ hs_ => (hk_.2) hs_)) (fun k_ hk_ => hk_.1.2)); have n7_ := Aside0.mk (Kd.R_mono (ok' := fun k_ => some k_ ≠ (.slice Ao32 t967.length co32 : Value).ownBlock) (Kd.R_keptB ((Kd.R_apart' HO984.out (Kd.R_typed HO_12.out) (by decide))) hkp (fun k_ hk_ hs_ => (hk_.2) hs_)) (fun k_ hk_ => hk_.1.1.2)); have n8_ := Aside0.mk (hb); clear HO_12; clear HO_13; clear HO_964002; clear HO_977002; clear BK963; clear BK976; clear HO980; clear HO984; clear HB; have HO_12 := n0_; have HO_13 := n1_; have HO_964002 := n2_; have HO_977002 := n3_; have BK963 := n4_; have BK976 := n5_; have HO980 := n6_; have HO984 := n7_; have HB := n8_; clear n0_ n1_ n2_ n3_ n4_ n5_ n6_ n7_ n8_; (try clear hb); (try clear hkp); (try clear hy0)) | ((with_reducible refine gate_callee (f := 52) rfl ?_); refine goesL_ (some 77) rfl rfl Try.func52 (by kernel_rfl) rfl #[.slice Ao32 t967.length co32, .int .i64 t986] rfl (by (try simp only [List.map_toArray, List.map_cons, List.map_nil]); first | done | rfl | (simp only [List.length_drop, List.length_take]; rfl)) ?_; (with_reducible refine (laws_markVoteS.calls kj17 (fun k_ => some k_ = (.slice Ao32 t967.length co32 : Value).ownBlock) (.slice Ao32 t967.length co32) t967 t986 t988 t989 w _ ?side1 ?side2 A56.out).mono ?_); (case side1 => repeat (first | (with_reducible first | exact HB.out | apply below_alloc | apply pw_below_drewN | apply below_drew1 | refine below_set ?_ GE963.out | refine below_set ?_ GE976.out) | exact HB.out)); (case side2 => exact Kd.R_tight rfl HO_13.out); rintro e w65 ⟨rfl, hy0, hb, hkp⟩; refine ⟨_, rfl, ?_⟩; have n0_ := Aside0.mk (Kd.R_mono (ok' := fun k_ => some k_ ≠ (.slice Ao59 t978.length co59 : Value).ownBlock) (Kd.R_keptB ((Kd.R_apart' HO_12.out (Kd.R_typed HO_13.out) (by decide))) hkp (fun k_ hk_ hs_ => (hk_.2) hs_)) (fun k_ hk_ => hk_.1.1.2)); have n1_ := Aside0.mk (Kd.R_reok rfl hy0 (fun k_ e_ => HO_13.out.1 k_ e_)); have n2_ := Aside0.mk (Kd.R_mono (ok' := fun k_ => some k_ ≠ (.slice Ao37 t972.length co37 : Value).ownBlock) (Kd.R_keptB ((Kd.R_apart' HO_964002.out (Kd.R_typed HO_13.out) (by decide))) hkp (fun k_ hk_ hs_ => (hk_.2) hs_)) (fun k_ hk_ => hk_.1.1)); have n3_ := Aside0.mk (Kd.R_mono (ok' := fun k_ => some k_ ≠ (.slice Ao28 t959.length co28 : Value).ownBlock) (Kd.R_keptB ((Kd.R_apart' HO_977002.out (Kd.R_typed HO_13.out) (by decide))) hkp (fun k_ hk_ hs_ => (hk_.2) hs_)) (fun k_ hk_ => hk_.1.1)); have n4_ := Aside0.mk (blk_kept (by (with_reducible repeat (first | refine blk_drewN ?_ _ | refine blk_drew ?_ | refine blk_alloc ?_ _)); exact BK963.out) hkp (fun hs_ => (fun e_ => (Kd.R_ne HO_13.out BK963.out (by decide)) e_) hs_)); have n5_ := Aside0.mk (blk_kept (by (with_reducible repeat (first | refine blk_drewN ?_ _ | refine blk_drew ?_ | refine blk_alloc ?_ _)); exact BK976.out) hkp (fun hs_ => (fun e_ => (Kd.R_ne HO_13.out BK976.out (by decide)) e_) hs_)); have n6_ := Aside0.mk (Kd.R_mono (ok' := fun k_ => some k_ ≠ (.slice Ao31 t964.length co31 : Value).ownBlock) (Kd.R_keptB ((Kd.R_apart' HO980.out (Kd.R_typed HO_13.out) (by decide))) hkp (fun k_ hk_ hs_ => (hk_.2) hs_)) (fun k_ hk_ => hk_.1.1)); have n7_ := Aside0.mk (Kd.R_mono (ok' := fun k_ => some k_ ≠ (.slice Ao32 t967.length co32 : Value).ownBlock) (Kd.R_keptB (HO984.out) hkp (fun k_ hk_ hs_ => (hk_) hs_)) (fun k_ hk_ => hk_.1)); have n8_ := Aside0.mk (hb); clear HO_12; clear HO_13; clear HO_964002; clear HO_977002; clear BK963; clear BK976; clear HO980; clear HO984; clear HB; have HO_12 := n0_; have HO_13 := n1_; have HO_964002 := n2_; have HO_977002 := n3_; have BK963 := n4_; have BK976 := n5_; have HO980 := n6_; have HO984 := n7_; have HB := n8_; clear n0_ n1_ n2_ n3_ n4_ n5_ n6_ n7_ n8_; (try clear hb); (try clear hkp); (try clear hy0)))
                (try simp only [Act.put, List.setIfInBounds_toArray, List.set_cons_zero, List.set_cons_succ])
                go_cut [90] (fun v90 wc => ∃ (kq : Nat) (x90_56 : Bool), v90 = .bool x90_56 ∧ Aside0 (laws_FnExactGatherQc.j1 kq l0 l1 a2 a3 t962 x90_56 t957 t958 t959 t970 t971 t972 = some r) ∧ Aside0 (kq ≤ kj17) ∧ Aside0 (Kd.R Kd.string 9 wc w.heap.size (fun k_ => some k_ ≠ ((.slice Ao37 t972.length co37) : Value).ownBlock) (.slice Ao28 t959.length co28) t959) ∧ Aside0 (Kd.R Kd.string 9 wc w.heap.size (fun k_ => some k_ ≠ ((.slice Ao28 t959.length co28) : Value).ownBlock) (.slice Ao37 t972.length co37) t972) ∧ Aside0 (wc.heap[gb963]? = some (.cells #[.int .i64 t957, .int .i64 t958, (.slice Ao28 t959.length co28)] 49 (0, 0))) ∧ Aside0 (wc.heap[gb976]? = some (.cells #[.int .i64 t970, .int .i64 t971, (.slice Ao37 t972.length co37)] 49 (0, 0))) ∧ Aside0 (Below w.heap.size w wc))
                case first =>
                  have H := HC57.out
                  clear HC57
                  by_cases c66 : t988 < 0
                  · rw [if_pos c66] at H
                    have c66b0 : decide (t988 < 0) = true := decide_eq_true c66
                    clear c66
                    (first | rw [c66b0] | (simp only [i64_w, i32_w]; rw [c66b0]) | skip)
                    have H' := Aside0.mk H
                    clear H
                    go_wp2
                    go_meet
                    case rel => exact ⟨_, (true), (by first | rfl | (simp; done) | (simp [*]; done)), H', ⟨by have := HJ17.out; first | omega | exact Nat.le_refl _⟩, ⟨by (with_reducible repeat (first | apply Kd.R_alloc | apply Kd.R_drewN | apply Kd.R_drew)); exact HO_964002.out⟩, ⟨by (with_reducible repeat (first | apply Kd.R_alloc | apply Kd.R_drewN | apply Kd.R_drew)); exact HO_977002.out⟩, ⟨by (with_reducible repeat (first | refine blk_drewN ?_ _ | refine blk_drew ?_ | refine blk_alloc ?_ _)); exact BK963.out⟩, ⟨by (with_reducible repeat (first | refine blk_drewN ?_ _ | refine blk_drew ?_ | refine blk_alloc ?_ _)); exact BK976.out⟩, ⟨by repeat (first | (with_reducible first | exact HB.out | apply below_alloc | apply pw_below_drewN | apply below_drew1 | refine below_set ?_ GE963.out | refine below_set ?_ GE976.out) | exact HB.out)⟩⟩
                  · rw [if_neg c66] at H
                    have c66b0 : decide (t988 < 0) = false := decide_eq_false c66
                    clear c66
                    (first | rw [c66b0] | (simp only [i64_w, i32_w]; rw [c66b0]) | skip)
                    replace H := Option.bind_eq_some_iff.mp H
                    obtain ⟨t990, A670, H⟩ := H
                    replace H : (if t990 = true then (laws_FnExactGatherQc.j1 kj17 l0 l1 a2 a3 t962 (t975 != t962) t957 t958 t959 t970 t971 t972) else (laws_FnExactGatherQc.j1 kj17 l0 l1 a2 a3 t962 true t957 t958 t959 t970 t971 t972)) = some r := H
                    have A67 := Aside0.mk A670
                    clear A670
                    by_cases c68 : t990 = true
                    · subst c68
                      have H1 : (laws_FnExactGatherQc.j1 kj17 l0 l1 a2 a3 t962 (t975 != t962) t957 t958 t959 t970 t971 t972) = some r := by rw [if_pos rfl] at H; exact H
                      clear H
                      have H := H1
                      clear H1
                      have H' := Aside0.mk H
                      clear H
                      have hnb69 := NB976_963.out
                      have hnc69 := NB963_976.out
                      obtain ⟨hcz70_0, hcz70_1, hcz70_2⟩ := cells3 BK976.out
                      obtain ⟨hfz70_0, hfz70_1, hfz70_2⟩ := frozens3 BK976.out
                      obtain ⟨hcz71_0, hcz71_1, hcz71_2⟩ := cells3 BK963.out
                      obtain ⟨hfz71_0, hfz71_1, hfz71_2⟩ := frozens3 BK963.out
                      go_wp2_with (first | (go_at_call 50; (with_reducible refine (laws_eqQc.calls kj17 t970 t971 _ _ t972 t957 t958 _ _ t959 true _ ?side1 ?side2 ?side3 ?side4 A67.out).mono ?_); (case side1 => repeat (first | exact (Kd.R_reads' HO_977002.out).2.2 | (with_reducible refine Kd.C_alloc ?_ _) | (with_reducible refine Kd.C_drewN ?_ _) | (with_reducible refine Kd.C_drew ?_))); (case side2 => exact (Kd.R_reads' HO_977002.out).2.1); (case side3 => repeat (first | exact (Kd.R_reads' HO_964002.out).2.2 | (with_reducible refine Kd.C_alloc ?_ _) | (with_reducible refine Kd.C_drewN ?_ _) | (with_reducible refine Kd.C_drew ?_))); (case side4 => exact (Kd.R_reads' HO_964002.out).2.1); rintro e w72 ⟨rfl, hb⟩; have n0_ := Aside0.mk (Kd.R_below (by (with_reducible repeat (first | apply Kd.R_alloc | apply Kd.R_drewN | apply Kd.R_drew)); exact HO_12.out) hb); have n1_ := Aside0.mk (Kd.R_below (by (with_reducible repeat (first | apply Kd.R_alloc | apply Kd.R_drewN | apply Kd.R_drew)); exact HO_13.out) hb); have n2_ := Aside0.mk (Kd.R_below (by (with_reducible repeat (first | apply Kd.R_alloc | apply Kd.R_drewN | apply Kd.R_drew)); exact HO_964002.out) hb); have n3_ := Aside0.mk (Kd.R_below (by (with_reducible repeat (first | apply Kd.R_alloc | apply Kd.R_drewN | apply Kd.R_drew)); exact HO_977002.out) hb); have n4_ := Aside0.mk (Kd.R_below (by (with_reducible repeat (first | apply Kd.R_alloc | apply Kd.R_drewN | apply Kd.R_drew)); exact HO980.out) hb); have n5_ := Aside0.mk (Kd.R_below (by (with_reducible repeat (first | apply Kd.R_alloc | apply Kd.R_drewN | apply Kd.R_drew)); exact HO984.out) hb); have n6_ := Aside0.mk (blk_below (g := gb963) (by (with_reducible repeat (first | refine blk_drewN ?_ _ | refine blk_drew ?_ | refine blk_alloc ?_ _)); exact BK963.out) hb); have n7_ := Aside0.mk (blk_below (g := gb976) (by (with_reducible repeat (first | refine blk_drewN ?_ _ | refine blk_drew ?_ | refine blk_alloc ?_ _)); exact BK976.out) hb); have n8_ := Aside0.mk (below_step (by repeat (first | (with_reducible first | exact HB.out | apply below_alloc | apply pw_below_drewN | apply below_drew1 | refine below_set ?_ GE963.out | refine below_set ?_ GE976.out) | exact HB.out)) hb); clear HO_12; clear HO_13; clear HO_964002; clear HO_977002; clear HO980; clear HO984; clear BK963; clear BK976; clear HB; have HO_12 := n0_; have HO_13 := n1_; have HO_964002 := n2_; have HO_977002 := n3_; have HO980 := n4_; have HO984 := n5_; have BK963 := n6_; have BK976 := n7_; have HB := n8_; clear n0_ n1_ n2_ n3_ n4_ n5_ n6_ n7_ n8_; (try clear hb); (try clear hb2); (try clear hk); (try clear hi)))
                      go_meet
                      case rel => exact ⟨_, ((t975 != t962)), (by first | rfl | (simp; done) | (simp [*]; done)), H', ⟨by have := HJ17.out; first | omega | exact Nat.le_refl _⟩, ⟨by (with_reducible repeat (first | apply Kd.R_alloc | apply Kd.R_drewN | apply Kd.R_drew)); exact HO_964002.out⟩, ⟨by (with_reducible repeat (first | apply Kd.R_alloc | apply Kd.R_drewN | apply Kd.R_drew)); exact HO_977002.out⟩, ⟨by (with_reducible repeat (first | refine blk_drewN ?_ _ | refine blk_drew ?_ | refine blk_alloc ?_ _)); exact BK963.out⟩, ⟨by (with_reducible repeat (first | refine blk_drewN ?_ _ | refine blk_drew ?_ | refine blk_alloc ?_ _)); exact BK976.out⟩, ⟨by repeat (first | (with_reducible first | exact HB.out | apply below_alloc | apply pw_below_drewN | apply below_drew1 | refine below_set ?_ GE963.out | refine below_set ?_ GE976.out) | exact HB.out)⟩⟩
                    · replace c68 := Bool.eq_false_iff.mpr c68
                      subst c68
                      have H1 : (laws_FnExactGatherQc.j1 kj17 l0 l1 a2 a3 t962 true t957 t958 t959 t970 t971 t972) = some r := by rw [if_neg (show ¬ (false = true) by decide)] at H; exact H
                      clear H
                      have H := H1
                      clear H1
                      have H' := Aside0.mk H
                      clear H
                      have hnb73 := NB976_963.out
                      have hnc73 := NB963_976.out
                      obtain ⟨hcz74_0, hcz74_1, hcz74_2⟩ := cells3 BK976.out
                      obtain ⟨hfz74_0, hfz74_1, hfz74_2⟩ := frozens3 BK976.out
                      obtain ⟨hcz75_0, hcz75_1, hcz75_2⟩ := cells3 BK963.out
                      obtain ⟨hfz75_0, hfz75_1, hfz75_2⟩ := frozens3 BK963.out
                      go_wp2_with (first | (go_at_call 50; (with_reducible refine (laws_eqQc.calls kj17 t970 t971 _ _ t972 t957 t958 _ _ t959 false _ ?side1 ?side2 ?side3 ?side4 A67.out).mono ?_); (case side1 => repeat (first | exact (Kd.R_reads' HO_977002.out).2.2 | (with_reducible refine Kd.C_alloc ?_ _) | (with_reducible refine Kd.C_drewN ?_ _) | (with_reducible refine Kd.C_drew ?_))); (case side2 => exact (Kd.R_reads' HO_977002.out).2.1); (case side3 => repeat (first | exact (Kd.R_reads' HO_964002.out).2.2 | (with_reducible refine Kd.C_alloc ?_ _) | (with_reducible refine Kd.C_drewN ?_ _) | (with_reducible refine Kd.C_drew ?_))); (case side4 => exact (Kd.R_reads' HO_964002.out).2.1); rintro e w76 ⟨rfl, hb⟩; have n0_ := Aside0.mk (Kd.R_below (by (with_reducible repeat (first | apply Kd.R_alloc | apply Kd.R_drewN | apply Kd.R_drew)); exact HO_12.out) hb); have n1_ := Aside0.mk (Kd.R_below (by (with_reducible repeat (first | apply Kd.R_alloc | apply Kd.R_drewN | apply Kd.R_drew)); exact HO_13.out) hb); have n2_ := Aside0.mk (Kd.R_below (by (with_reducible repeat (first | apply Kd.R_alloc | apply Kd.R_drewN | apply Kd.R_drew)); exact HO_964002.out) hb); have n3_ := Aside0.mk (Kd.R_below (by (with_reducible repeat (first | apply Kd.R_alloc | apply Kd.R_drewN | apply Kd.R_drew)); exact HO_977002.out) hb); have n4_ := Aside0.mk (Kd.R_below (by (with_reducible repeat (first | apply Kd.R_alloc | apply Kd.R_drewN | apply Kd.R_drew)); exact HO980.out) hb); have n5_ := Aside0.mk (Kd.R_below (by (with_reducible repeat (first | apply Kd.R_alloc | apply Kd.R_drewN | apply Kd.R_drew)); exact HO984.out) hb); have n6_ := Aside0.mk (blk_below (g := gb963) (by (with_reducible repeat (first | refine blk_drewN ?_ _ | refine blk_drew ?_ | refine blk_alloc ?_ _)); exact BK963.out) hb); have n7_ := Aside0.mk (blk_below (g := gb976) (by (with_reducible repeat (first | refine blk_drewN ?_ _ | refine blk_drew ?_ | refine blk_alloc ?_ _)); exact BK976.out) hb); have n8_ := Aside0.mk (below_step (by repeat (first | (with_reducible first | exact HB.out | apply below_alloc | apply pw_below_drewN | apply below_drew1 | refine below_set ?_ GE963.out | refine below_set ?_ GE976.out) | exact HB.out)) hb); clear HO_12; clear HO_13; clear HO_964002; clear HO_977002; clear HO980; clear HO984; clear BK963; clear BK976; clear HB; have HO_12 := n0_; have HO_13 := n1_; have HO_964002 := n2_; have HO_977002 := n3_; have HO980 := n4_; have HO984 := n5_; have BK963 := n6_; have BK976 := n7_; have HB := n8_; clear n0_ n1_ n2_ n3_ n4_ n5_ n6_ n7_ n8_; (try clear hb); (try clear hb2); (try clear hk); (try clear hi)))
                      go_meet
                      case rel => exact ⟨_, (true), (by first | rfl | (simp; done) | (simp [*]; done)), H', ⟨by have := HJ17.out; first | omega | exact Nat.le_refl _⟩, ⟨by (with_reducible repeat (first | apply Kd.R_alloc | apply Kd.R_drewN | apply Kd.R_drew)); exact HO_964002.out⟩, ⟨by (with_reducible repeat (first | apply Kd.R_alloc | apply Kd.R_drewN | apply Kd.R_drew)); exact HO_977002.out⟩, ⟨by (with_reducible repeat (first | refine blk_drewN ?_ _ | refine blk_drew ?_ | refine blk_alloc ?_ _)); exact BK963.out⟩, ⟨by (with_reducible repeat (first | refine blk_drewN ?_ _ | refine blk_drew ?_ | refine blk_alloc ?_ _)); exact BK976.out⟩, ⟨by repeat (first | (with_reducible first | exact HB.out | apply below_alloc | apply pw_below_drewN | apply below_drew1 | refine below_set ?_ GE963.out | refine below_set ?_ GE976.out) | exact HB.out)⟩⟩
                case rest =>
                  clear HC57
                  try clear c1
                  try clear p2
                  try clear c3
                  try clear c4
                  try clear c5
                  try clear c6
                  try clear c6b0
                  try clear c7
                  try clear c9
                  try clear c9b0
                  try clear c30
                  try clear c31
                  try clear c35
                  try clear c39
                  try clear c40
                  try clear c41
                  try clear c44
                  try clear c46
                  try clear c47
                  try clear c48
                  try clear c49
                  try clear c50
                  try clear c51
                  try clear c52
                  try clear c54
                  try clear c66
                  try clear c66b0
                  try clear c68
                  try clear c69
                  try clear c73
                  try clear hcz27_0
                  try clear hcz27_1
                  try clear hcz27_2
                  try clear hcz36_0
                  try clear hcz36_1
                  try clear hcz36_2
                  try clear hcz41_0
                  try clear hcz41_1
                  try clear hcz41_2
                  try clear hcz42_0
                  try clear hcz42_1
                  try clear hcz42_2
                  try clear hcz45_0
                  try clear hcz45_1
                  try clear hcz45_2
                  try clear hcz46_0
                  try clear hcz46_1
                  try clear hcz46_2
                  try clear hcz70_0
                  try clear hcz70_1
                  try clear hcz70_2
                  try clear hcz71_0
                  try clear hcz71_1
                  try clear hcz71_2
                  try clear hcz74_0
                  try clear hcz74_1
                  try clear hcz74_2
                  try clear hcz75_0
                  try clear hcz75_1
                  try clear hcz75_2
                  try clear hfz27_0
                  try clear hfz27_1
                  try clear hfz27_2
                  try clear hfz36_0
                  try clear hfz36_1
                  try clear hfz36_2
                  try clear hfz41_0
                  try clear hfz41_1
                  try clear hfz41_2
                  try clear hfz42_0
                  try clear hfz42_1
                  try clear hfz42_2
                  try clear hfz45_0
                  try clear hfz45_1
                  try clear hfz45_2
                  try clear hfz46_0
                  try clear hfz46_1
                  try clear hfz46_2
                  try clear hfz70_0
                  try clear hfz70_1
                  try clear hfz70_2
                  try clear hfz71_0
                  try clear hfz71_1
                  try clear hfz71_2
                  try clear hfz74_0
                  try clear hfz74_1
                  try clear hfz74_2
                  try clear hfz75_0
                  try clear hfz75_1
                  try clear hfz75_2
                  try clear p2
                  obtain ⟨kq, x90_56, rfl, HA, HJ56, HO_964002, HO_977002, BK963, BK976, HB⟩ := hcut
                  cases kq with
                  | zero => exact absurd HA.out (by simp [laws_FnExactGatherQc.j1])
                  | succ kj56 =>
                    have H := HA.out
                    clear HA
                    simp only [laws_FnExactGatherQc.j1] at H
                    by_cases c77 : x90_56 = true
                    · subst c77
                      have H1 : (some false) = some r := by rw [if_pos rfl] at H; exact H
                      clear H
                      have H := H1
                      clear H1
                      obtain rfl := Option.some.inj H
                      go_wp2
                      go_ret
                      exact ⟨by first | rfl | (simp [errW_none, errW_some] <;> rfl) | (simp [*, errW_none, errW_some] <;> rfl), by repeat (first | (with_reducible first | exact HB.out | apply below_alloc | apply pw_below_drewN | apply below_drew1 | refine below_set ?_ GE963.out | refine below_set ?_ GE976.out) | exact HB.out)⟩
                    · replace c77 := Bool.eq_false_iff.mpr c77
                      subst c77
                      have H1 : ((laws_markQc.f kj56 t970 t971 t972 1).bind fun bt991 => ((laws_heldQc.f kj56 t970 t971 bt991.2 1).bind fun t993 => (if t993 < 0 then (some false) else (if t993 = bt991.1 then ((laws_toValS.f kj56 l0).bind fun t994 => ((laws_toVoteS.f kj56 l1).bind fun t997 => ((impl_GatherQc.f kj56 t994 t997 a2 a3).bind fun bt1000 => ((laws_eqQc.f kj56 bt1000.1 bt1000.2.1 bt1000.2.2.1 t957 t958 t959).bind fun t1007 => (if t1007 = true then (laws_FnExactGatherQc.j2 kj56 bt991.1 (bt1000.2.2.2 != t962) t970 t971 bt991.2) else (laws_FnExactGatherQc.j2 kj56 bt991.1 true t970 t971 bt991.2)))))) else (some false))))) = some r := by rw [if_neg (show ¬ (false = true) by decide)] at H; exact H
                      clear H
                      have H := H1
                      clear H1
                      replace H := Option.bind_eq_some_iff.mp H
                      obtain ⟨⟨t991, t992⟩, A780, H⟩ := H
                      replace H : ((laws_heldQc.f kj56 t970 t971 t992 1).bind fun t993 => (if t993 < 0 then (some false) else (if t993 = t991 then ((laws_toValS.f kj56 l0).bind fun t994 => ((laws_toVoteS.f kj56 l1).bind fun t997 => ((impl_GatherQc.f kj56 t994 t997 a2 a3).bind fun bt1000 => ((laws_eqQc.f kj56 bt1000.1 bt1000.2.1 bt1000.2.2.1 t957 t958 t959).bind fun t1007 => (if t1007 = true then (laws_FnExactGatherQc.j2 kj56 t991 (bt1000.2.2.2 != t962) t970 t971 t992) else (laws_FnExactGatherQc.j2 kj56 t991 true t970 t971 t992)))))) else (some false)))) = some r := H
                      have A78 := Aside0.mk A780
                      clear A780
                      replace H := Option.bind_eq_some_iff.mp H
                      obtain ⟨t993, A790, H⟩ := H
                      replace H : (if t993 < 0 then (some false) else (if t993 = t991 then ((laws_toValS.f kj56 l0).bind fun t994 => ((laws_toVoteS.f kj56 l1).bind fun t997 => ((impl_GatherQc.f kj56 t994 t997 a2 a3).bind fun bt1000 => ((laws_eqQc.f kj56 bt1000.1 bt1000.2.1 bt1000.2.2.1 t957 t958 t959).bind fun t1007 => (if t1007 = true then (laws_FnExactGatherQc.j2 kj56 t991 (bt1000.2.2.2 != t962) t970 t971 t992) else (laws_FnExactGatherQc.j2 kj56 t991 true t970 t971 t992)))))) else (some false))) = some r := H
                      have A79 := Aside0.mk A790
                      clear A790
                      by_cases c80 : t993 < 0
                      · rw [if_pos c80] at H
                        have c80b0 : decide (t993 < 0) = true := decide_eq_true c80
                        clear c80
                        obtain rfl := Option.some.inj H
                        have hnb81 := NB976_963.out
                        have hnc81 := NB963_976.out
                        obtain ⟨hcz82_0, hcz82_1, hcz82_2⟩ := cells3 BK976.out
                        obtain ⟨hfz82_0, hfz82_1, hfz82_2⟩ := frozens3 BK976.out
                        go_wp2_with (first | ((with_reducible refine gate_callee (f := 53) rfl ?_); refine goesL_ (some 93) rfl rfl Try.func53 (by kernel_rfl) rfl #[.agg #[.int .i64 t970, .int .i64 t971, .slice Ao37 t972.length co37], .int .i64 1] rfl (by (try simp only [List.map_toArray, List.map_cons, List.map_nil]); first | done | rfl | (simp only [List.length_drop, List.length_take]; rfl)) ?_; (with_reducible refine (laws_markQc.calls kj56 t970 t971 (fun k_ => some k_ = (.slice Ao37 t972.length co37 : Value).ownBlock) (.slice Ao37 t972.length co37) t972 1 t991 t992 w _ ?side1 ?side2 A78.out).mono ?_); (case side1 => repeat (first | (with_reducible first | exact HB.out | apply below_alloc | apply pw_below_drewN | apply below_drew1 | refine below_set ?_ GE963.out | refine below_set ?_ GE976.out) | exact HB.out)); (case side2 => exact Kd.R_tight rfl HO_977002.out); rintro e w83 ⟨rfl, hy0, hb, hkp⟩; refine ⟨_, rfl, ?_⟩; have n0_ := Aside0.mk (Kd.R_mono (ok' := fun k_ => some k_ ≠ (.slice Ao37 t972.length co37 : Value).ownBlock) (Kd.R_keptB (HO_964002.out) hkp (fun k_ hk_ hs_ => (hk_) hs_)) (fun k_ hk_ => hk_.1)); have n1_ := Aside0.mk (Kd.R_reok rfl hy0 (fun k_ e_ => HO_977002.out.1 k_ e_)); have n2_ := Aside0.mk (blk_kept (by (with_reducible repeat (first | refine blk_drewN ?_ _ | refine blk_drew ?_ | refine blk_alloc ?_ _)); exact BK963.out) hkp (fun hs_ => (fun e_ => (Kd.R_ne HO_977002.out BK963.out (by decide)) e_) hs_)); have n3_ := Aside0.mk (blk_kept (by (with_reducible repeat (first | refine blk_drewN ?_ _ | refine blk_drew ?_ | refine blk_alloc ?_ _)); exact BK976.out) hkp (fun hs_ => (fun e_ => (Kd.R_ne HO_977002.out BK976.out (by decide)) e_) hs_)); have n4_ := Aside0.mk (hb); clear HO_964002; clear HO_977002; clear BK963; clear BK976; clear HB; have HO_964002 := n0_; have HO_977002 := n1_; have BK963 := n2_; have BK976 := n3_; have HB := n4_; clear n0_ n1_ n2_ n3_ n4_; (try clear hb); (try clear hkp); (try clear hy0); obtain ⟨hcz84_0, hcz84_1, hcz84_2⟩ := cells3 BK976.out; obtain ⟨hfz84_0, hfz84_1, hfz84_2⟩ := frozens3 BK976.out) | ((with_reducible refine gate_callee (f := 54) rfl ?_); refine goesL_ (some 96) rfl rfl Try.func54 (by kernel_rfl) rfl #[.agg #[.int .i64 t970, .int .i64 t971, .slice Ao37 t992.length co37], .int .i64 1] rfl (by (try simp only [List.map_toArray, List.map_cons, List.map_nil]); first | done | (rw [show t992.length = t972.length from (Kd.R_reads' HO_977002.out).1.symm] <;> rfl) | rfl | (simp only [List.length_drop, List.length_take]; rfl)) ?_; (with_reducible refine (laws_heldQc.calls kj56 t970 t971 _ _ t992 1 t993 _ ?side1 ?side2 A79.out).mono ?_); (case side1 => repeat (first | exact (Kd.R_reads' HO_977002.out).2.2 | (with_reducible refine Kd.C_alloc ?_ _) | (with_reducible refine Kd.C_drewN ?_ _) | (with_reducible refine Kd.C_drew ?_))); (case side2 => rw [show t992.length = t972.length from (Kd.R_reads' HO_977002.out).1.symm]; exact (Kd.R_reads' HO_977002.out).2.1); rintro e w85 ⟨rfl, hb⟩; refine ⟨_, rfl, ?_⟩; have n0_ := Aside0.mk (Kd.R_below (by (with_reducible repeat (first | apply Kd.R_alloc | apply Kd.R_drewN | apply Kd.R_drew)); exact HO_964002.out) hb); have n1_ := Aside0.mk (Kd.R_below (by (with_reducible repeat (first | apply Kd.R_alloc | apply Kd.R_drewN | apply Kd.R_drew)); exact HO_977002.out) hb); have n2_ := Aside0.mk (blk_below (g := gb963) (by (with_reducible repeat (first | refine blk_drewN ?_ _ | refine blk_drew ?_ | refine blk_alloc ?_ _)); exact BK963.out) hb); have n3_ := Aside0.mk (blk_below (g := gb976) (by (with_reducible repeat (first | refine blk_drewN ?_ _ | refine blk_drew ?_ | refine blk_alloc ?_ _)); exact BK976.out) hb); have n4_ := Aside0.mk (below_step (by repeat (first | (with_reducible first | exact HB.out | apply below_alloc | apply pw_below_drewN | apply below_drew1 | refine below_set ?_ GE963.out | refine below_set ?_ GE976.out) | exact HB.out)) hb); clear HO_964002; clear HO_977002; clear BK963; clear BK976; clear HB; have HO_964002 := n0_; have HO_977002 := n1_; have BK963 := n2_; have BK976 := n3_; have HB := n4_; clear n0_ n1_ n2_ n3_ n4_; (try clear hb); (try clear hb2); (try clear hk); (try clear hi)))
                        go_ret
                        exact ⟨by first | rfl | (simp [errW_none, errW_some] <;> rfl) | (simp [*, errW_none, errW_some] <;> rfl), by repeat (first | (with_reducible first | exact HB.out | apply below_alloc | apply pw_below_drewN | apply below_drew1 | refine below_set ?_ GE963.out | refine below_set ?_ GE976.out) | exact HB.out)⟩
                      · rw [if_neg c80] at H
                        have c80b0 : decide (t993 < 0) = false := decide_eq_false c80
                        clear c80
                        by_cases c86 : t993 = t991
                        · rw [if_pos c86] at H
                          have c86b0 : (t993 == t991) = true := beq_iff_eq.mpr c86
                          have c86b1 : (t993 != t991) = false := bne_eq_false_iff_eq.mpr c86
                          clear c86
                          replace H := Option.bind_eq_some_iff.mp H
                          obtain ⟨t994, A870, H⟩ := H
                          replace H : ((laws_toVoteS.f kj56 l1).bind fun t997 => ((impl_GatherQc.f kj56 t994 t997 a2 a3).bind fun bt1000 => ((laws_eqQc.f kj56 bt1000.1 bt1000.2.1 bt1000.2.2.1 t957 t958 t959).bind fun t1007 => (if t1007 = true then (laws_FnExactGatherQc.j2 kj56 t991 (bt1000.2.2.2 != t962) t970 t971 t992) else (laws_FnExactGatherQc.j2 kj56 t991 true t970 t971 t992))))) = some r := H
                          have A87 := Aside0.mk A870
                          clear A870
                          replace H := Option.bind_eq_some_iff.mp H
                          obtain ⟨t997, A880, H⟩ := H
                          replace H : ((impl_GatherQc.f kj56 t994 t997 a2 a3).bind fun bt1000 => ((laws_eqQc.f kj56 bt1000.1 bt1000.2.1 bt1000.2.2.1 t957 t958 t959).bind fun t1007 => (if t1007 = true then (laws_FnExactGatherQc.j2 kj56 t991 (bt1000.2.2.2 != t962) t970 t971 t992) else (laws_FnExactGatherQc.j2 kj56 t991 true t970 t971 t992)))) = some r := H
                          have A88 := Aside0.mk A880
                          clear A880
                          replace H := Option.bind_eq_some_iff.mp H
                          obtain ⟨⟨t1000, t1001, t1002, t1005⟩, A890, H⟩ := H
                          replace H : ((laws_eqQc.f kj56 t1000 t1001 t1002 t957 t958 t959).bind fun t1007 => (if t1007 = true then (laws_FnExactGatherQc.j2 kj56 t991 (t1005 != t962) t970 t971 t992) else (laws_FnExactGatherQc.j2 kj56 t991 true t970 t971 t992))) = some r := H
                          have A89 := Aside0.mk A890
                          clear A890
                          have HC90 := Aside0.mk H
                          clear H
                          have hnb91 := NB976_963.out
                          have hnc91 := NB963_976.out
                          obtain ⟨hcz92_0, hcz92_1, hcz92_2⟩ := cells3 BK976.out
                          obtain ⟨hfz92_0, hfz92_1, hfz92_2⟩ := frozens3 BK976.out
                          go_upto_region 32 with (first | ((with_reducible refine gate_callee (f := 53) rfl ?_); refine goesL_ (some 93) rfl rfl Try.func53 (by kernel_rfl) rfl #[.agg #[.int .i64 t970, .int .i64 t971, .slice Ao37 t972.length co37], .int .i64 1] rfl (by (try simp only [List.map_toArray, List.map_cons, List.map_nil]); first | done | rfl | (simp only [List.length_drop, List.length_take]; rfl)) ?_; (with_reducible refine (laws_markQc.calls kj56 t970 t971 (fun k_ => some k_ = (.slice Ao37 t972.length co37 : Value).ownBlock) (.slice Ao37 t972.length co37) t972 1 t991 t992 w _ ?side1 ?side2 A78.out).mono ?_); (case side1 => repeat (first | (with_reducible first | exact HB.out | apply below_alloc | apply pw_below_drewN | apply below_drew1 | refine below_set ?_ GE963.out | refine below_set ?_ GE976.out) | exact HB.out)); (case side2 => exact Kd.R_tight rfl HO_977002.out); rintro e w93 ⟨rfl, hy0, hb, hkp⟩; refine ⟨_, rfl, ?_⟩; have n0_ := Aside0.mk (Kd.R_mono (ok' := fun k_ => some k_ ≠ (.slice Ao37 t972.length co37 : Value).ownBlock) (Kd.R_keptB (HO_964002.out) hkp (fun k_ hk_ hs_ => (hk_) hs_)) (fun k_ hk_ => hk_.1)); have n1_ := Aside0.mk (Kd.R_reok rfl hy0 (fun k_ e_ => HO_977002.out.1 k_ e_)); have n2_ := Aside0.mk (blk_kept (by (with_reducible repeat (first | refine blk_drewN ?_ _ | refine blk_drew ?_ | refine blk_alloc ?_ _)); exact BK963.out) hkp (fun hs_ => (fun e_ => (Kd.R_ne HO_977002.out BK963.out (by decide)) e_) hs_)); have n3_ := Aside0.mk (blk_kept (by (with_reducible repeat (first | refine blk_drewN ?_ _ | refine blk_drew ?_ | refine blk_alloc ?_ _)); exact BK976.out) hkp (fun hs_ => (fun e_ => (Kd.R_ne HO_977002.out BK976.out (by decide)) e_) hs_)); have n4_ := Aside0.mk (hb); clear HO_964002; clear HO_977002; clear BK963; clear BK976; clear HB; have HO_964002 := n0_; have HO_977002 := n1_; have BK963 := n2_; have BK976 := n3_; have HB := n4_; clear n0_ n1_ n2_ n3_ n4_; (try clear hb); (try clear hkp); (try clear hy0); obtain ⟨hcz94_0, hcz94_1, hcz94_2⟩ := cells3 BK976.out; obtain ⟨hfz94_0, hfz94_1, hfz94_2⟩ := frozens3 BK976.out) | ((with_reducible refine gate_callee (f := 54) rfl ?_); refine goesL_ (some 96) rfl rfl Try.func54 (by kernel_rfl) rfl #[.agg #[.int .i64 t970, .int .i64 t971, .slice Ao37 t992.length co37], .int .i64 1] rfl (by (try simp only [List.map_toArray, List.map_cons, List.map_nil]); first | done | (rw [show t992.length = t972.length from (Kd.R_reads' HO_977002.out).1.symm] <;> rfl) | rfl | (simp only [List.length_drop, List.length_take]; rfl)) ?_; (with_reducible refine (laws_heldQc.calls kj56 t970 t971 _ _ t992 1 t993 _ ?side1 ?side2 A79.out).mono ?_); (case side1 => repeat (first | exact (Kd.R_reads' HO_977002.out).2.2 | (with_reducible refine Kd.C_alloc ?_ _) | (with_reducible refine Kd.C_drewN ?_ _) | (with_reducible refine Kd.C_drew ?_))); (case side2 => rw [show t992.length = t972.length from (Kd.R_reads' HO_977002.out).1.symm]; exact (Kd.R_reads' HO_977002.out).2.1); rintro e w95 ⟨rfl, hb⟩; refine ⟨_, rfl, ?_⟩; have n0_ := Aside0.mk (Kd.R_below (by (with_reducible repeat (first | apply Kd.R_alloc | apply Kd.R_drewN | apply Kd.R_drew)); exact HO_964002.out) hb); have n1_ := Aside0.mk (Kd.R_below (by (with_reducible repeat (first | apply Kd.R_alloc | apply Kd.R_drewN | apply Kd.R_drew)); exact HO_977002.out) hb); have n2_ := Aside0.mk (blk_below (g := gb963) (by (with_reducible repeat (first | refine blk_drewN ?_ _ | refine blk_drew ?_ | refine blk_alloc ?_ _)); exact BK963.out) hb); have n3_ := Aside0.mk (blk_below (g := gb976) (by (with_reducible repeat (first | refine blk_drewN ?_ _ | refine blk_drew ?_ | refine blk_alloc ?_ _)); exact BK976.out) hb); have n4_ := Aside0.mk (below_step (by repeat (first | (with_reducible first | exact HB.out | apply below_alloc | apply pw_below_drewN | apply below_drew1 | refine below_set ?_ GE963.out | refine below_set ?_ GE976.out) | exact HB.out)) hb); clear HO_964002; clear HO_977002; clear BK963; clear BK976; clear HB; have HO_964002 := n0_; have HO_977002 := n1_; have BK963 := n2_; have BK976 := n3_; have HB := n4_; clear n0_ n1_ n2_ n3_ n4_; (try clear hb); (try clear hb2); (try clear hk); (try clear hi)) | ((with_reducible refine gate_callee (f := 48) rfl ?_); refine goesL_ (some 104) rfl rfl Try.func48 (by kernel_rfl) rfl #[.slice A0 l0.length c0] rfl (by (try simp only [List.map_toArray, List.map_cons, List.map_nil]); first | done | rfl | (simp only [List.length_drop, List.length_take]; rfl)) ?_; (with_reducible refine (laws_toValS.calls kj56 _ _ l0 t994 _ ?side1 ?side2 A87.out).mono ?_); (case side1 => repeat (first | exact (Kd.C_below HR0.out HB.out) | (with_reducible refine Kd.C_alloc ?_ _) | (with_reducible refine Kd.C_drewN ?_ _) | (with_reducible refine Kd.C_drew ?_))); (case side2 => exact HC0.out); rintro e w96 ⟨v995, rfl, ho0, hb⟩; refine ⟨_, rfl, ?_⟩; have n0_ := Aside0.mk (Kd.R_below (by (with_reducible repeat (first | apply Kd.R_alloc | apply Kd.R_drewN | apply Kd.R_drew)); exact HO_964002.out) hb); have n1_ := Aside0.mk (Kd.R_below (by (with_reducible repeat (first | apply Kd.R_alloc | apply Kd.R_drewN | apply Kd.R_drew)); exact HO_977002.out) hb); have n2_ := Aside0.mk (Kd.R_lower ho0 (below_size (by repeat (first | (with_reducible first | exact HB.out | apply below_alloc | apply pw_below_drewN | apply below_drew1 | refine below_set ?_ GE963.out | refine below_set ?_ GE976.out) | exact HB.out)))); have n3_ := Aside0.mk (blk_below (g := gb963) (by (with_reducible repeat (first | refine blk_drewN ?_ _ | refine blk_drew ?_ | refine blk_alloc ?_ _)); exact BK963.out) hb); have n4_ := Aside0.mk (blk_below (g := gb976) (by (with_reducible repeat (first | refine blk_drewN ?_ _ | refine blk_drew ?_ | refine blk_alloc ?_ _)); exact BK976.out) hb); have n5_ := Aside0.mk (below_step (by repeat (first | (with_reducible first | exact HB.out | apply below_alloc | apply pw_below_drewN | apply below_drew1 | refine below_set ?_ GE963.out | refine below_set ?_ GE976.out) | exact HB.out)) hb); clear HO_964002; clear HO_977002; clear BK963; clear BK976; clear HB; have HO_964002 := n0_; have HO_977002 := n1_; have HO996 := n2_; have BK963 := n3_; have BK976 := n4_; have HB := n5_; clear n0_ n1_ n2_ n3_ n4_ n5_; (try clear hb); (try clear hb2); (try clear hk); (try clear hi); (try clear ho0)) | ((with_reducible refine gate_callee (f := 49) rfl ?_); refine goesL_ (some 106) rfl rfl Try.func49 (by kernel_rfl) rfl #[.slice A1 l1.length c1] rfl (by (try simp only [List.map_toArray, List.map_cons, List.map_nil]); first | done | rfl | (simp only [List.length_drop, List.length_take]; rfl)) ?_; (with_reducible refine (laws_toVoteS.calls kj56 _ _ l1 t997 _ ?side1 ?side2 A88.out).mono ?_); (case side1 => repeat (first | exact (Kd.C_below HR1.out HB.out) | (with_reducible refine Kd.C_alloc ?_ _) | (with_reducible refine Kd.C_drewN ?_ _) | (with_reducible refine Kd.C_drew ?_))); (case side2 => exact HC1.out); rintro e w97 ⟨v998, rfl, ho0, hb⟩; refine ⟨_, rfl, ?_⟩; have n0_ := Aside0.mk (Kd.R_below (by (with_reducible repeat (first | apply Kd.R_alloc | apply Kd.R_drewN | apply Kd.R_drew)); exact HO_964002.out) hb); have n1_ := Aside0.mk (Kd.R_below (by (with_reducible repeat (first | apply Kd.R_alloc | apply Kd.R_drewN | apply Kd.R_drew)); exact HO_977002.out) hb); have n2_ := Aside0.mk (Kd.R_below (by (with_reducible repeat (first | apply Kd.R_alloc | apply Kd.R_drewN | apply Kd.R_drew)); exact HO996.out) hb); have n3_ := Aside0.mk (Kd.R_lower ho0 (below_size (by repeat (first | (with_reducible first | exact HB.out | apply below_alloc | apply pw_below_drewN | apply below_drew1 | refine below_set ?_ GE963.out | refine below_set ?_ GE976.out) | exact HB.out)))); have n4_ := Aside0.mk (blk_below (g := gb963) (by (with_reducible repeat (first | refine blk_drewN ?_ _ | refine blk_drew ?_ | refine blk_alloc ?_ _)); exact BK963.out) hb); have n5_ := Aside0.mk (blk_below (g := gb976) (by (with_reducible repeat (first | refine blk_drewN ?_ _ | refine blk_drew ?_ | refine blk_alloc ?_ _)); exact BK976.out) hb); have n6_ := Aside0.mk (below_step (by repeat (first | (with_reducible first | exact HB.out | apply below_alloc | apply pw_below_drewN | apply below_drew1 | refine below_set ?_ GE963.out | refine below_set ?_ GE976.out) | exact HB.out)) hb); clear HO_964002; clear HO_977002; clear HO996; clear BK963; clear BK976; clear HB; have HO_964002 := n0_; have HO_977002 := n1_; have HO996 := n2_; have HO999 := n3_; have BK963 := n4_; have BK976 := n5_; have HB := n6_; clear n0_ n1_ n2_ n3_ n4_ n5_ n6_; (try clear hb); (try clear hb2); (try clear hk); (try clear hi); (try clear ho0); obtain ⟨Ao98, co98, eo98⟩ := Kd.R_slice HO996.out; subst eo98; obtain ⟨Ao99, co99, eo99⟩ := Kd.R_slice HO999.out; subst eo99) | ((with_reducible refine gate_callee (f := 30) rfl ?_); refine goesL_ (some 109) rfl rfl Try.func30 (by kernel_rfl) rfl #[.slice Ao98 t994.length co98, .slice Ao99 t997.length co99, .int .i64 a2, .int .i64 a3] rfl (by (try simp only [List.map_toArray, List.map_cons, List.map_nil]); first | done | rfl | (simp only [List.length_drop, List.length_take]; rfl)) ?_; (with_reducible refine (impl_GatherQc.calls kj56 _ _ t994 _ _ t997 a2 a3 t1000 t1001 t1002 t1005 _ ?side1 ?side2 ?side3 ?side4 A89.out).mono ?_); (case side1 => repeat (first | exact (Kd.R_reads' HO996.out).2.2 | (with_reducible refine Kd.C_alloc ?_ _) | (with_reducible refine Kd.C_drewN ?_ _) | (with_reducible refine Kd.C_drew ?_))); (case side2 => exact (Kd.R_reads' HO996.out).2.1); (case side3 => repeat (first | exact (Kd.R_reads' HO999.out).2.2 | (with_reducible refine Kd.C_alloc ?_ _) | (with_reducible refine Kd.C_drewN ?_ _) | (with_reducible refine Kd.C_drew ?_))); (case side4 => exact (Kd.R_reads' HO999.out).2.1); rintro e w100 ⟨v1003, rfl, ho0, hb⟩; refine ⟨_, rfl, ?_⟩; have n0_ := Aside0.mk (Kd.R_elder' (by (with_reducible repeat (first | apply Kd.R_alloc | apply Kd.R_drewN | apply Kd.R_drew)); exact HO_964002.out) (Kd.R_base ho0) hb); have n1_ := Aside0.mk (Kd.R_elder' (by (with_reducible repeat (first | apply Kd.R_alloc | apply Kd.R_drewN | apply Kd.R_drew)); exact HO_977002.out) (Kd.R_base ho0) hb); have n2_ := Aside0.mk (Kd.R_below (by (with_reducible repeat (first | apply Kd.R_alloc | apply Kd.R_drewN | apply Kd.R_drew)); exact HO996.out) hb); have n3_ := Aside0.mk (Kd.R_below (by (with_reducible repeat (first | apply Kd.R_alloc | apply Kd.R_drewN | apply Kd.R_drew)); exact HO999.out) hb); have n4_ := Aside0.mk (Kd.R_lower (Kd.R_new' (Kd.R_new' ho0 (Kd.R_lt (by (with_reducible repeat (first | apply Kd.R_alloc | apply Kd.R_drewN | apply Kd.R_drew)); exact HO_964002.out))) (Kd.R_lt (by (with_reducible repeat (first | apply Kd.R_alloc | apply Kd.R_drewN | apply Kd.R_drew)); exact HO_977002.out))) (below_size (by repeat (first | (with_reducible first | exact HB.out | apply below_alloc | apply pw_below_drewN | apply below_drew1 | refine below_set ?_ GE963.out | refine below_set ?_ GE976.out) | exact HB.out)))); have n5_ := Aside0.mk (blk_below (g := gb963) (by (with_reducible repeat (first | refine blk_drewN ?_ _ | refine blk_drew ?_ | refine blk_alloc ?_ _)); exact BK963.out) hb); have n6_ := Aside0.mk (blk_below (g := gb976) (by (with_reducible repeat (first | refine blk_drewN ?_ _ | refine blk_drew ?_ | refine blk_alloc ?_ _)); exact BK976.out) hb); have n7_ := Aside0.mk (below_step (by repeat (first | (with_reducible first | exact HB.out | apply below_alloc | apply pw_below_drewN | apply below_drew1 | refine below_set ?_ GE963.out | refine below_set ?_ GE976.out) | exact HB.out)) hb); clear HO_964002; clear HO_977002; clear HO996; clear HO999; clear BK963; clear BK976; clear HB; have HO_964002 := n0_; have HO_977002 := n1_; have HO996 := n2_; have HO999 := n3_; have HO1004 := n4_; have BK963 := n5_; have BK976 := n6_; have HB := n7_; clear n0_ n1_ n2_ n3_ n4_ n5_ n6_ n7_; (try clear hb); (try clear hb2); (try clear hk); (try clear hi); (try clear ho0)) | ((with_reducible refine gate_dst (N := 19) rfl ?_); refine box_event ?hg (N := 19) ?hd (cs := #[.int .i64 0, .int .i64 0, .slice none 0 0]) (t := 49) ?hr ?_; (case hd => rfl); (case hg => rfl); (case hr => first | (go_simp; done) | (go_simp; rfl)); intro gb1006 hg w101 hbox hb; have n0_ := Aside0.mk (Kd.R_below (by (with_reducible repeat (first | apply Kd.R_alloc | apply Kd.R_drewN | apply Kd.R_drew)); exact HO_964002.out) hb); have n1_ := Aside0.mk (Kd.R_below (by (with_reducible repeat (first | apply Kd.R_alloc | apply Kd.R_drewN | apply Kd.R_drew)); exact HO_977002.out) hb); have n2_ := Aside0.mk (Kd.R_below (by (with_reducible repeat (first | apply Kd.R_alloc | apply Kd.R_drewN | apply Kd.R_drew)); exact HO996.out) hb); have n3_ := Aside0.mk (Kd.R_below (by (with_reducible repeat (first | apply Kd.R_alloc | apply Kd.R_drewN | apply Kd.R_drew)); exact HO999.out) hb); have n4_ := Aside0.mk (Kd.R_below (by (with_reducible repeat (first | apply Kd.R_alloc | apply Kd.R_drewN | apply Kd.R_drew)); exact HO1004.out) hb); have n5_ := Aside0.mk (blk_below (g := gb963) (by (with_reducible repeat (first | refine blk_drewN ?_ _ | refine blk_drew ?_ | refine blk_alloc ?_ _)); exact BK963.out) hb); have n6_ := Aside0.mk (blk_below (g := gb976) (by (with_reducible repeat (first | refine blk_drewN ?_ _ | refine blk_drew ?_ | refine blk_alloc ?_ _)); exact BK976.out) hb); have n7_ := Aside0.mk (below_step (by repeat (first | (with_reducible first | exact HB.out | apply below_alloc | apply pw_below_drewN | apply below_drew1 | refine below_set ?_ GE963.out | refine below_set ?_ GE976.out) | exact HB.out)) hb); have n8_ := Aside0.mk (hbox); have n9_ := Aside0.mk ((by rw [hg]; exact (below_size (by repeat (first | (with_reducible first | exact HB.out | apply below_alloc | apply pw_below_drewN | apply below_drew1 | refine below_set ?_ GE963.out | refine below_set ?_ GE976.out) | exact HB.out))) : w.heap.size ≤ gb1006)); have n10_ := Aside0.mk ((by rw [hg]; exact (below_size (by repeat (first | (with_reducible first | exact HB.out | apply below_alloc | apply pw_below_drewN | apply below_drew1 | refine below_set ?_ GE963.out | refine below_set ?_ GE976.out) | exact HB.out))) : w.heap.size ≤ gb1006)); have n11_ := Aside0.mk ((by rw [hg]; exact Nat.ne_of_lt (blk_lt (g := gb963) (o := .cells #[.int .i64 t957, .int .i64 t958, .slice Ao28 t959.length co28] 49 (0, 0)) (by (with_reducible repeat (first | refine blk_drewN ?_ _ | refine blk_drew ?_ | refine blk_alloc ?_ _)); exact BK963.out)) : gb963 ≠ gb1006)); have n12_ := Aside0.mk ((by rw [hg]; exact Nat.ne_of_gt (blk_lt (g := gb963) (o := .cells #[.int .i64 t957, .int .i64 t958, .slice Ao28 t959.length co28] 49 (0, 0)) (by (with_reducible repeat (first | refine blk_drewN ?_ _ | refine blk_drew ?_ | refine blk_alloc ?_ _)); exact BK963.out)) : gb1006 ≠ gb963)); have n13_ := Aside0.mk ((by rw [hg]; exact Nat.ne_of_lt (blk_lt (g := gb976) (o := .cells #[.int .i64 t970, .int .i64 t971, .slice Ao37 t972.length co37] 49 (0, 0)) (by (with_reducible repeat (first | refine blk_drewN ?_ _ | refine blk_drew ?_ | refine blk_alloc ?_ _)); exact BK976.out)) : gb976 ≠ gb1006)); have n14_ := Aside0.mk ((by rw [hg]; exact Nat.ne_of_gt (blk_lt (g := gb976) (o := .cells #[.int .i64 t970, .int .i64 t971, .slice Ao37 t972.length co37] 49 (0, 0)) (by (with_reducible repeat (first | refine blk_drewN ?_ _ | refine blk_drew ?_ | refine blk_alloc ?_ _)); exact BK976.out)) : gb1006 ≠ gb976)); clear HO_964002; clear HO_977002; clear HO996; clear HO999; clear HO1004; clear BK963; clear BK976; clear HB; have HO_964002 := n0_; have HO_977002 := n1_; have HO996 := n2_; have HO999 := n3_; have HO1004 := n4_; have BK963 := n5_; have BK976 := n6_; have HB := n7_; have BK1006 := n8_; have GW1006 := n9_; have GE1006 := n10_; have NB963_1006 := n11_; have NB1006_963 := n12_; have NB976_1006 := n13_; have NB1006_976 := n14_; clear n0_ n1_ n2_ n3_ n4_ n5_ n6_ n7_ n8_ n9_ n10_ n11_ n12_ n13_ n14_; clear hb hbox hg; have hnb102 := NB1006_963.out; have hnc102 := NB963_1006.out; have hnb103 := NB1006_976.out; have hnc103 := NB976_1006.out; obtain ⟨hcz104_0, hcz104_1, hcz104_2⟩ := cells3 BK1006.out; obtain ⟨hfz104_0, hfz104_1, hfz104_2⟩ := frozens3 BK1006.out; obtain ⟨Ao105, co105, eo105⟩ := Kd.R_slice HO1004.out; subst eo105))
                          (try simp only [Act.put, List.setIfInBounds_toArray, List.set_cons_zero, List.set_cons_succ])
                          go_cut [120] (fun v120 wc => ∃ (kq : Nat) (x120_89 : Bool), v120 = .bool x120_89 ∧ Aside0 (laws_FnExactGatherQc.j2 kq t991 x120_89 t970 t971 t992 = some r) ∧ Aside0 (kq ≤ kj56) ∧ Aside0 (Kd.R Kd.string 9 wc w.heap.size (fun k_ => some k_ ≠ ((.slice Ao37 t972.length co37) : Value).ownBlock ∧ some k_ ≠ ((.slice Ao105 t1002.length co105) : Value).ownBlock) (.slice Ao28 t959.length co28) t959) ∧ Aside0 (Kd.R Kd.string 9 wc w.heap.size (fun k_ => some k_ ≠ ((.slice Ao28 t959.length co28) : Value).ownBlock ∧ some k_ ≠ ((.slice Ao105 t1002.length co105) : Value).ownBlock) (.slice Ao37 t972.length co37) t992) ∧ Aside0 (Kd.R Kd.string 9 wc w.heap.size (fun k_ => some k_ ≠ ((.slice Ao28 t959.length co28) : Value).ownBlock ∧ some k_ ≠ ((.slice Ao37 t972.length co37) : Value).ownBlock) (.slice Ao105 t1002.length co105) t1002) ∧ Aside0 (wc.heap[gb963]? = some (.cells #[.int .i64 t957, .int .i64 t958, (.slice Ao28 t959.length co28)] 49 (0, 0))) ∧ Aside0 (wc.heap[gb976]? = some (.cells #[.int .i64 t970, .int .i64 t971, (.slice Ao37 t972.length co37)] 49 (0, 0))) ∧ Aside0 (wc.heap[gb1006]? = some (.cells #[.int .i64 t1000, .int .i64 t1001, (.slice Ao105 t1002.length co105)] 49 (0, 0))) ∧ Aside0 (Below w.heap.size w wc))
                          case first =>
                            have H := HC90.out
                            clear HC90
                            replace H := Option.bind_eq_some_iff.mp H
                            obtain ⟨t1007, A1060, H⟩ := H
                            replace H : (if t1007 = true then (laws_FnExactGatherQc.j2 kj56 t991 (t1005 != t962) t970 t971 t992) else (laws_FnExactGatherQc.j2 kj56 t991 true t970 t971 t992)) = some r := H
                            have A106 := Aside0.mk A1060
                            clear A1060
                            by_cases c107 : t1007 = true
                            · subst c107
                              have H1 : (laws_FnExactGatherQc.j2 kj56 t991 (t1005 != t962) t970 t971 t992) = some r := by rw [if_pos rfl] at H; exact H
                              clear H
                              have H := H1
                              clear H1
                              have H' := Aside0.mk H
                              clear H
                              have hnb108 := NB1006_963.out
                              have hnc108 := NB963_1006.out
                              have hnb109 := NB1006_976.out
                              have hnc109 := NB976_1006.out
                              obtain ⟨hcz110_0, hcz110_1, hcz110_2⟩ := cells3 BK1006.out
                              obtain ⟨hfz110_0, hfz110_1, hfz110_2⟩ := frozens3 BK1006.out
                              have hnb111 := NB963_976.out
                              have hnc111 := NB976_963.out
                              obtain ⟨hcz112_0, hcz112_1, hcz112_2⟩ := cells3 BK963.out
                              obtain ⟨hfz112_0, hfz112_1, hfz112_2⟩ := frozens3 BK963.out
                              go_wp2_with (first | ((with_reducible refine gate_callee (f := 50) rfl ?_); refine goesL_ (some 114) rfl rfl Try.func50 (by kernel_rfl) rfl #[.agg #[.int .i64 t1000, .int .i64 t1001, .slice Ao105 t1002.length co105], .agg #[.int .i64 t957, .int .i64 t958, .slice Ao28 t959.length co28]] rfl (by (try simp only [List.map_toArray, List.map_cons, List.map_nil]); first | done | rfl | (simp only [List.length_drop, List.length_take]; rfl)) ?_; (with_reducible refine (laws_eqQc.calls kj56 t1000 t1001 _ _ t1002 t957 t958 _ _ t959 true _ ?side1 ?side2 ?side3 ?side4 A106.out).mono ?_); (case side1 => refine (Kd.R_reads' (e := 9) (base := w.heap.size) (ok := fun k_ => ((True ∧ some k_ ≠ (.slice Ao28 t959.length co28 : Value).ownBlock) ∧ some k_ ≠ (.slice Ao37 t972.length co37 : Value).ownBlock)) (n := t1002.length) (c := co105) ?_).2.2; exact (by (with_reducible repeat (first | apply Kd.R_alloc | apply Kd.R_drewN | apply Kd.R_drew)); exact (Kd.R_mono (Kd.R_far (p := ⟨gb1006, 2, none⟩) (Kd.R_far (p := ⟨gb1006, 1, none⟩) (Kd.R_far (p := ⟨gb1006, 0, none⟩) (Kd.R_types HO1004.out BK1006.out (by decide)) (fun _ hk => hk.2) (.int .i64 t1000)) (fun _ hk => hk.2) (.int .i64 t1001)) (fun _ hk => hk.2) (.slice Ao105 t1002.length co105)) (fun _ h_ => h_.1)))); (case side2 => exact (Kd.R_reads' HO1004.out).2.1); (case side3 => refine (Kd.R_reads' (e := 9) (base := w.heap.size) (ok := fun k_ => (some k_ ≠ (.slice Ao37 t972.length co37 : Value).ownBlock ∧ some k_ ≠ (.slice Ao105 t1002.length co105 : Value).ownBlock)) (n := t959.length) (c := co28) ?_).2.2; exact (by (with_reducible repeat (first | apply Kd.R_alloc | apply Kd.R_drewN | apply Kd.R_drew)); exact (Kd.R_mono (Kd.R_far (p := ⟨gb1006, 2, none⟩) (Kd.R_far (p := ⟨gb1006, 1, none⟩) (Kd.R_far (p := ⟨gb1006, 0, none⟩) (Kd.R_types HO_964002.out BK1006.out (by decide)) (fun _ hk => hk.2) (.int .i64 t1000)) (fun _ hk => hk.2) (.int .i64 t1001)) (fun _ hk => hk.2) (.slice Ao105 t1002.length co105)) (fun _ h_ => h_.1)))); (case side4 => exact (Kd.R_reads' HO_964002.out).2.1); rintro e w113 ⟨rfl, hb⟩; refine ⟨_, rfl, ?_⟩; have n0_ := Aside0.mk (Kd.R_below (by (with_reducible repeat (first | apply Kd.R_alloc | apply Kd.R_drewN | apply Kd.R_drew)); exact (Kd.R_mono (Kd.R_far (p := ⟨gb1006, 2, none⟩) (Kd.R_far (p := ⟨gb1006, 1, none⟩) (Kd.R_far (p := ⟨gb1006, 0, none⟩) (Kd.R_types HO_964002.out BK1006.out (by decide)) (fun _ hk => hk.2) (.int .i64 t1000)) (fun _ hk => hk.2) (.int .i64 t1001)) (fun _ hk => hk.2) (.slice Ao105 t1002.length co105)) (fun _ h_ => h_.1))) hb); have n1_ := Aside0.mk (Kd.R_below (by (with_reducible repeat (first | apply Kd.R_alloc | apply Kd.R_drewN | apply Kd.R_drew)); exact (Kd.R_mono (Kd.R_far (p := ⟨gb1006, 2, none⟩) (Kd.R_far (p := ⟨gb1006, 1, none⟩) (Kd.R_far (p := ⟨gb1006, 0, none⟩) (Kd.R_types HO_977002.out BK1006.out (by decide)) (fun _ hk => hk.2) (.int .i64 t1000)) (fun _ hk => hk.2) (.int .i64 t1001)) (fun _ hk => hk.2) (.slice Ao105 t1002.length co105)) (fun _ h_ => h_.1))) hb); have n2_ := Aside0.mk (Kd.R_below (by (with_reducible repeat (first | apply Kd.R_alloc | apply Kd.R_drewN | apply Kd.R_drew)); exact (Kd.R_mono (Kd.R_far (p := ⟨gb1006, 2, none⟩) (Kd.R_far (p := ⟨gb1006, 1, none⟩) (Kd.R_far (p := ⟨gb1006, 0, none⟩) (Kd.R_types HO996.out BK1006.out (by decide)) (fun _ hk => hk.2) (.int .i64 t1000)) (fun _ hk => hk.2) (.int .i64 t1001)) (fun _ hk => hk.2) (.slice Ao105 t1002.length co105)) (fun _ h_ => h_.1))) hb); have n3_ := Aside0.mk (Kd.R_below (by (with_reducible repeat (first | apply Kd.R_alloc | apply Kd.R_drewN | apply Kd.R_drew)); exact (Kd.R_mono (Kd.R_far (p := ⟨gb1006, 2, none⟩) (Kd.R_far (p := ⟨gb1006, 1, none⟩) (Kd.R_far (p := ⟨gb1006, 0, none⟩) (Kd.R_types HO999.out BK1006.out (by decide)) (fun _ hk => hk.2) (.int .i64 t1000)) (fun _ hk => hk.2) (.int .i64 t1001)) (fun _ hk => hk.2) (.slice Ao105 t1002.length co105)) (fun _ h_ => h_.1))) hb); have n4_ := Aside0.mk (Kd.R_below (by (with_reducible repeat (first | apply Kd.R_alloc | apply Kd.R_drewN | apply Kd.R_drew)); exact (Kd.R_mono (Kd.R_far (p := ⟨gb1006, 2, none⟩) (Kd.R_far (p := ⟨gb1006, 1, none⟩) (Kd.R_far (p := ⟨gb1006, 0, none⟩) (Kd.R_types HO1004.out BK1006.out (by decide)) (fun _ hk => hk.2) (.int .i64 t1000)) (fun _ hk => hk.2) (.int .i64 t1001)) (fun _ hk => hk.2) (.slice Ao105 t1002.length co105)) (fun _ h_ => h_.1))) hb); have n5_ := Aside0.mk (blk_below (g := gb963) (o := .cells #[.int .i64 t957, .int .i64 t958, .slice Ao28 t959.length co28] 49 (0, 0)) (by (with_reducible repeat (first | refine blk_drewN ?_ _ | refine blk_drew ?_ | refine blk_alloc ?_ _)); refine blk_far ?_ NB963_1006.out _; (with_reducible repeat (first | refine blk_drewN ?_ _ | refine blk_drew ?_ | refine blk_alloc ?_ _)); refine blk_far ?_ NB963_1006.out _; (with_reducible repeat (first | refine blk_drewN ?_ _ | refine blk_drew ?_ | refine blk_alloc ?_ _)); refine blk_far ?_ NB963_1006.out _; (with_reducible repeat (first | refine blk_drewN ?_ _ | refine blk_drew ?_ | refine blk_alloc ?_ _)); exact BK963.out) hb); have n6_ := Aside0.mk (blk_below (g := gb976) (o := .cells #[.int .i64 t970, .int .i64 t971, .slice Ao37 t972.length co37] 49 (0, 0)) (by (with_reducible repeat (first | refine blk_drewN ?_ _ | refine blk_drew ?_ | refine blk_alloc ?_ _)); refine blk_far ?_ NB976_1006.out _; (with_reducible repeat (first | refine blk_drewN ?_ _ | refine blk_drew ?_ | refine blk_alloc ?_ _)); refine blk_far ?_ NB976_1006.out _; (with_reducible repeat (first | refine blk_drewN ?_ _ | refine blk_drew ?_ | refine blk_alloc ?_ _)); refine blk_far ?_ NB976_1006.out _; (with_reducible repeat (first | refine blk_drewN ?_ _ | refine blk_drew ?_ | refine blk_alloc ?_ _)); exact BK976.out) hb); have n7_ := Aside0.mk (blk_below (g := gb1006) (o := .cells #[.int .i64 t1000, .int .i64 t1001, .slice Ao105 t1002.length co105] 49 (0, 0)) (by (with_reducible repeat (first | refine blk_drewN ?_ _ | refine blk_drew ?_ | refine blk_alloc ?_ _)); refine blk_put (cs := #[.int .i64 t1000, .int .i64 t1001, .slice none 0 0]) ?_ 2 _ rfl; (with_reducible repeat (first | refine blk_drewN ?_ _ | refine blk_drew ?_ | refine blk_alloc ?_ _)); refine blk_put (cs := #[.int .i64 t1000, .int .i64 0, .slice none 0 0]) ?_ 1 _ rfl; (with_reducible repeat (first | refine blk_drewN ?_ _ | refine blk_drew ?_ | refine blk_alloc ?_ _)); refine blk_put (cs := #[.int .i64 0, .int .i64 0, .slice none 0 0]) ?_ 0 _ rfl; (with_reducible repeat (first | refine blk_drewN ?_ _ | refine blk_drew ?_ | refine blk_alloc ?_ _)); exact BK1006.out) hb); have n8_ := Aside0.mk (below_step (by repeat (first | (with_reducible first | exact HB.out | apply below_alloc | apply pw_below_drewN | apply below_drew1 | refine below_set ?_ GE963.out | refine below_set ?_ GE976.out | refine below_set ?_ GE1006.out) | exact HB.out)) hb); clear HO_964002; clear HO_977002; clear HO996; clear HO999; clear HO1004; clear BK963; clear BK976; clear BK1006; clear HB; have HO_964002 := n0_; have HO_977002 := n1_; have HO996 := n2_; have HO999 := n3_; have HO1004 := n4_; have BK963 := n5_; have BK976 := n6_; have BK1006 := n7_; have HB := n8_; clear n0_ n1_ n2_ n3_ n4_ n5_ n6_ n7_ n8_; (try clear hb); (try clear hb2); (try clear hk); (try clear hi)))
                              go_meet
                              case rel => exact ⟨_, ((t1005 != t962)), (by first | rfl | (simp; done) | (simp [*]; done)), H', ⟨by have := HJ17.out; have := HJ56.out; first | omega | exact Nat.le_refl _⟩, ⟨by (with_reducible repeat (first | apply Kd.R_alloc | apply Kd.R_drewN | apply Kd.R_drew)); exact HO_964002.out⟩, ⟨by (with_reducible repeat (first | apply Kd.R_alloc | apply Kd.R_drewN | apply Kd.R_drew)); exact HO_977002.out⟩, ⟨by (with_reducible repeat (first | apply Kd.R_alloc | apply Kd.R_drewN | apply Kd.R_drew)); exact Kd.R_mono HO1004.out (fun _ hk => ⟨hk.1.2, hk.2⟩)⟩, ⟨by (with_reducible repeat (first | refine blk_drewN ?_ _ | refine blk_drew ?_ | refine blk_alloc ?_ _)); exact BK963.out⟩, ⟨by (with_reducible repeat (first | refine blk_drewN ?_ _ | refine blk_drew ?_ | refine blk_alloc ?_ _)); exact BK976.out⟩, ⟨by (with_reducible repeat (first | refine blk_drewN ?_ _ | refine blk_drew ?_ | refine blk_alloc ?_ _)); exact BK1006.out⟩, ⟨by repeat (first | (with_reducible first | exact HB.out | apply below_alloc | apply pw_below_drewN | apply below_drew1 | refine below_set ?_ GE963.out | refine below_set ?_ GE976.out | refine below_set ?_ GE1006.out) | exact HB.out)⟩⟩
                            · replace c107 := Bool.eq_false_iff.mpr c107
                              subst c107
                              have H1 : (laws_FnExactGatherQc.j2 kj56 t991 true t970 t971 t992) = some r := by rw [if_neg (show ¬ (false = true) by decide)] at H; exact H
                              clear H
                              have H := H1
                              clear H1
                              have H' := Aside0.mk H
                              clear H
                              have hnb114 := NB1006_963.out
                              have hnc114 := NB963_1006.out
                              have hnb115 := NB1006_976.out
                              have hnc115 := NB976_1006.out
                              obtain ⟨hcz116_0, hcz116_1, hcz116_2⟩ := cells3 BK1006.out
                              obtain ⟨hfz116_0, hfz116_1, hfz116_2⟩ := frozens3 BK1006.out
                              have hnb117 := NB963_976.out
                              have hnc117 := NB976_963.out
                              obtain ⟨hcz118_0, hcz118_1, hcz118_2⟩ := cells3 BK963.out
                              obtain ⟨hfz118_0, hfz118_1, hfz118_2⟩ := frozens3 BK963.out
                              go_wp2_with (first | ((with_reducible refine gate_callee (f := 50) rfl ?_); refine goesL_ (some 114) rfl rfl Try.func50 (by kernel_rfl) rfl #[.agg #[.int .i64 t1000, .int .i64 t1001, .slice Ao105 t1002.length co105], .agg #[.int .i64 t957, .int .i64 t958, .slice Ao28 t959.length co28]] rfl (by (try simp only [List.map_toArray, List.map_cons, List.map_nil]); first | done | rfl | (simp only [List.length_drop, List.length_take]; rfl)) ?_; (with_reducible refine (laws_eqQc.calls kj56 t1000 t1001 _ _ t1002 t957 t958 _ _ t959 false _ ?side1 ?side2 ?side3 ?side4 A106.out).mono ?_); (case side1 => refine (Kd.R_reads' (e := 9) (base := w.heap.size) (ok := fun k_ => ((True ∧ some k_ ≠ (.slice Ao28 t959.length co28 : Value).ownBlock) ∧ some k_ ≠ (.slice Ao37 t972.length co37 : Value).ownBlock)) (n := t1002.length) (c := co105) ?_).2.2; exact (by (with_reducible repeat (first | apply Kd.R_alloc | apply Kd.R_drewN | apply Kd.R_drew)); exact (Kd.R_mono (Kd.R_far (p := ⟨gb1006, 2, none⟩) (Kd.R_far (p := ⟨gb1006, 1, none⟩) (Kd.R_far (p := ⟨gb1006, 0, none⟩) (Kd.R_types HO1004.out BK1006.out (by decide)) (fun _ hk => hk.2) (.int .i64 t1000)) (fun _ hk => hk.2) (.int .i64 t1001)) (fun _ hk => hk.2) (.slice Ao105 t1002.length co105)) (fun _ h_ => h_.1)))); (case side2 => exact (Kd.R_reads' HO1004.out).2.1); (case side3 => refine (Kd.R_reads' (e := 9) (base := w.heap.size) (ok := fun k_ => (some k_ ≠ (.slice Ao37 t972.length co37 : Value).ownBlock ∧ some k_ ≠ (.slice Ao105 t1002.length co105 : Value).ownBlock)) (n := t959.length) (c := co28) ?_).2.2; exact (by (with_reducible repeat (first | apply Kd.R_alloc | apply Kd.R_drewN | apply Kd.R_drew)); exact (Kd.R_mono (Kd.R_far (p := ⟨gb1006, 2, none⟩) (Kd.R_far (p := ⟨gb1006, 1, none⟩) (Kd.R_far (p := ⟨gb1006, 0, none⟩) (Kd.R_types HO_964002.out BK1006.out (by decide)) (fun _ hk => hk.2) (.int .i64 t1000)) (fun _ hk => hk.2) (.int .i64 t1001)) (fun _ hk => hk.2) (.slice Ao105 t1002.length co105)) (fun _ h_ => h_.1)))); (case side4 => exact (Kd.R_reads' HO_964002.out).2.1); rintro e w119 ⟨rfl, hb⟩; refine ⟨_, rfl, ?_⟩; have n0_ := Aside0.mk (Kd.R_below (by (with_reducible repeat (first | apply Kd.R_alloc | apply Kd.R_drewN | apply Kd.R_drew)); exact (Kd.R_mono (Kd.R_far (p := ⟨gb1006, 2, none⟩) (Kd.R_far (p := ⟨gb1006, 1, none⟩) (Kd.R_far (p := ⟨gb1006, 0, none⟩) (Kd.R_types HO_964002.out BK1006.out (by decide)) (fun _ hk => hk.2) (.int .i64 t1000)) (fun _ hk => hk.2) (.int .i64 t1001)) (fun _ hk => hk.2) (.slice Ao105 t1002.length co105)) (fun _ h_ => h_.1))) hb); have n1_ := Aside0.mk (Kd.R_below (by (with_reducible repeat (first | apply Kd.R_alloc | apply Kd.R_drewN | apply Kd.R_drew)); exact (Kd.R_mono (Kd.R_far (p := ⟨gb1006, 2, none⟩) (Kd.R_far (p := ⟨gb1006, 1, none⟩) (Kd.R_far (p := ⟨gb1006, 0, none⟩) (Kd.R_types HO_977002.out BK1006.out (by decide)) (fun _ hk => hk.2) (.int .i64 t1000)) (fun _ hk => hk.2) (.int .i64 t1001)) (fun _ hk => hk.2) (.slice Ao105 t1002.length co105)) (fun _ h_ => h_.1))) hb); have n2_ := Aside0.mk (Kd.R_below (by (with_reducible repeat (first | apply Kd.R_alloc | apply Kd.R_drewN | apply Kd.R_drew)); exact (Kd.R_mono (Kd.R_far (p := ⟨gb1006, 2, none⟩) (Kd.R_far (p := ⟨gb1006, 1, none⟩) (Kd.R_far (p := ⟨gb1006, 0, none⟩) (Kd.R_types HO996.out BK1006.out (by decide)) (fun _ hk => hk.2) (.int .i64 t1000)) (fun _ hk => hk.2) (.int .i64 t1001)) (fun _ hk => hk.2) (.slice Ao105 t1002.length co105)) (fun _ h_ => h_.1))) hb); have n3_ := Aside0.mk (Kd.R_below (by (with_reducible repeat (first | apply Kd.R_alloc | apply Kd.R_drewN | apply Kd.R_drew)); exact (Kd.R_mono (Kd.R_far (p := ⟨gb1006, 2, none⟩) (Kd.R_far (p := ⟨gb1006, 1, none⟩) (Kd.R_far (p := ⟨gb1006, 0, none⟩) (Kd.R_types HO999.out BK1006.out (by decide)) (fun _ hk => hk.2) (.int .i64 t1000)) (fun _ hk => hk.2) (.int .i64 t1001)) (fun _ hk => hk.2) (.slice Ao105 t1002.length co105)) (fun _ h_ => h_.1))) hb); have n4_ := Aside0.mk (Kd.R_below (by (with_reducible repeat (first | apply Kd.R_alloc | apply Kd.R_drewN | apply Kd.R_drew)); exact (Kd.R_mono (Kd.R_far (p := ⟨gb1006, 2, none⟩) (Kd.R_far (p := ⟨gb1006, 1, none⟩) (Kd.R_far (p := ⟨gb1006, 0, none⟩) (Kd.R_types HO1004.out BK1006.out (by decide)) (fun _ hk => hk.2) (.int .i64 t1000)) (fun _ hk => hk.2) (.int .i64 t1001)) (fun _ hk => hk.2) (.slice Ao105 t1002.length co105)) (fun _ h_ => h_.1))) hb); have n5_ := Aside0.mk (blk_below (g := gb963) (o := .cells #[.int .i64 t957, .int .i64 t958, .slice Ao28 t959.length co28] 49 (0, 0)) (by (with_reducible repeat (first | refine blk_drewN ?_ _ | refine blk_drew ?_ | refine blk_alloc ?_ _)); refine blk_far ?_ NB963_1006.out _; (with_reducible repeat (first | refine blk_drewN ?_ _ | refine blk_drew ?_ | refine blk_alloc ?_ _)); refine blk_far ?_ NB963_1006.out _; (with_reducible repeat (first | refine blk_drewN ?_ _ | refine blk_drew ?_ | refine blk_alloc ?_ _)); refine blk_far ?_ NB963_1006.out _; (with_reducible repeat (first | refine blk_drewN ?_ _ | refine blk_drew ?_ | refine blk_alloc ?_ _)); exact BK963.out) hb); have n6_ := Aside0.mk (blk_below (g := gb976) (o := .cells #[.int .i64 t970, .int .i64 t971, .slice Ao37 t972.length co37] 49 (0, 0)) (by (with_reducible repeat (first | refine blk_drewN ?_ _ | refine blk_drew ?_ | refine blk_alloc ?_ _)); refine blk_far ?_ NB976_1006.out _; (with_reducible repeat (first | refine blk_drewN ?_ _ | refine blk_drew ?_ | refine blk_alloc ?_ _)); refine blk_far ?_ NB976_1006.out _; (with_reducible repeat (first | refine blk_drewN ?_ _ | refine blk_drew ?_ | refine blk_alloc ?_ _)); refine blk_far ?_ NB976_1006.out _; (with_reducible repeat (first | refine blk_drewN ?_ _ | refine blk_drew ?_ | refine blk_alloc ?_ _)); exact BK976.out) hb); have n7_ := Aside0.mk (blk_below (g := gb1006) (o := .cells #[.int .i64 t1000, .int .i64 t1001, .slice Ao105 t1002.length co105] 49 (0, 0)) (by (with_reducible repeat (first | refine blk_drewN ?_ _ | refine blk_drew ?_ | refine blk_alloc ?_ _)); refine blk_put (cs := #[.int .i64 t1000, .int .i64 t1001, .slice none 0 0]) ?_ 2 _ rfl; (with_reducible repeat (first | refine blk_drewN ?_ _ | refine blk_drew ?_ | refine blk_alloc ?_ _)); refine blk_put (cs := #[.int .i64 t1000, .int .i64 0, .slice none 0 0]) ?_ 1 _ rfl; (with_reducible repeat (first | refine blk_drewN ?_ _ | refine blk_drew ?_ | refine blk_alloc ?_ _)); refine blk_put (cs := #[.int .i64 0, .int .i64 0, .slice none 0 0]) ?_ 0 _ rfl; (with_reducible repeat (first | refine blk_drewN ?_ _ | refine blk_drew ?_ | refine blk_alloc ?_ _)); exact BK1006.out) hb); have n8_ := Aside0.mk (below_step (by repeat (first | (with_reducible first | exact HB.out | apply below_alloc | apply pw_below_drewN | apply below_drew1 | refine below_set ?_ GE963.out | refine below_set ?_ GE976.out | refine below_set ?_ GE1006.out) | exact HB.out)) hb); clear HO_964002; clear HO_977002; clear HO996; clear HO999; clear HO1004; clear BK963; clear BK976; clear BK1006; clear HB; have HO_964002 := n0_; have HO_977002 := n1_; have HO996 := n2_; have HO999 := n3_; have HO1004 := n4_; have BK963 := n5_; have BK976 := n6_; have BK1006 := n7_; have HB := n8_; clear n0_ n1_ n2_ n3_ n4_ n5_ n6_ n7_ n8_; (try clear hb); (try clear hb2); (try clear hk); (try clear hi)))
                              go_meet
                              case rel => exact ⟨_, (true), (by first | rfl | (simp; done) | (simp [*]; done)), H', ⟨by have := HJ17.out; have := HJ56.out; first | omega | exact Nat.le_refl _⟩, ⟨by (with_reducible repeat (first | apply Kd.R_alloc | apply Kd.R_drewN | apply Kd.R_drew)); exact HO_964002.out⟩, ⟨by (with_reducible repeat (first | apply Kd.R_alloc | apply Kd.R_drewN | apply Kd.R_drew)); exact HO_977002.out⟩, ⟨by (with_reducible repeat (first | apply Kd.R_alloc | apply Kd.R_drewN | apply Kd.R_drew)); exact Kd.R_mono HO1004.out (fun _ hk => ⟨hk.1.2, hk.2⟩)⟩, ⟨by (with_reducible repeat (first | refine blk_drewN ?_ _ | refine blk_drew ?_ | refine blk_alloc ?_ _)); exact BK963.out⟩, ⟨by (with_reducible repeat (first | refine blk_drewN ?_ _ | refine blk_drew ?_ | refine blk_alloc ?_ _)); exact BK976.out⟩, ⟨by (with_reducible repeat (first | refine blk_drewN ?_ _ | refine blk_drew ?_ | refine blk_alloc ?_ _)); exact BK1006.out⟩, ⟨by repeat (first | (with_reducible first | exact HB.out | apply below_alloc | apply pw_below_drewN | apply below_drew1 | refine below_set ?_ GE963.out | refine below_set ?_ GE976.out | refine below_set ?_ GE1006.out) | exact HB.out)⟩⟩
                          case rest =>
                            clear HC90
                            try clear c1
                            try clear p2
                            try clear c3
                            try clear c4
                            try clear c5
                            try clear c6
                            try clear c6b0
                            try clear c7
                            try clear c8
                            try clear c9
                            try clear c9b0
                            try clear c10
                            try clear c11
                            try clear c30
                            try clear c31
                            try clear c35
                            try clear c39
                            try clear c40
                            try clear c41
                            try clear c44
                            try clear c46
                            try clear c47
                            try clear c48
                            try clear c49
                            try clear c50
                            try clear c51
                            try clear c52
                            try clear c53
                            try clear c54
                            try clear c66
                            try clear c66b0
                            try clear c68
                            try clear c69
                            try clear c73
                            try clear c77
                            try clear c80
                            try clear c80b0
                            try clear c81
                            try clear c86
                            try clear c86b0
                            try clear c86b1
                            try clear c91
                            try clear c102
                            try clear c103
                            try clear c107
                            try clear c108
                            try clear c109
                            try clear c111
                            try clear c114
                            try clear c115
                            try clear c117
                            try clear hcz104_0
                            try clear hcz104_1
                            try clear hcz104_2
                            try clear hcz110_0
                            try clear hcz110_1
                            try clear hcz110_2
                            try clear hcz112_0
                            try clear hcz112_1
                            try clear hcz112_2
                            try clear hcz116_0
                            try clear hcz116_1
                            try clear hcz116_2
                            try clear hcz118_0
                            try clear hcz118_1
                            try clear hcz118_2
                            try clear hcz27_0
                            try clear hcz27_1
                            try clear hcz27_2
                            try clear hcz36_0
                            try clear hcz36_1
                            try clear hcz36_2
                            try clear hcz41_0
                            try clear hcz41_1
                            try clear hcz41_2
                            try clear hcz42_0
                            try clear hcz42_1
                            try clear hcz42_2
                            try clear hcz45_0
                            try clear hcz45_1
                            try clear hcz45_2
                            try clear hcz46_0
                            try clear hcz46_1
                            try clear hcz46_2
                            try clear hcz70_0
                            try clear hcz70_1
                            try clear hcz70_2
                            try clear hcz71_0
                            try clear hcz71_1
                            try clear hcz71_2
                            try clear hcz74_0
                            try clear hcz74_1
                            try clear hcz74_2
                            try clear hcz75_0
                            try clear hcz75_1
                            try clear hcz75_2
                            try clear hcz82_0
                            try clear hcz82_1
                            try clear hcz82_2
                            try clear hcz84_0
                            try clear hcz84_1
                            try clear hcz84_2
                            try clear hcz92_0
                            try clear hcz92_1
                            try clear hcz92_2
                            try clear hcz94_0
                            try clear hcz94_1
                            try clear hcz94_2
                            try clear hfz104_0
                            try clear hfz104_1
                            try clear hfz104_2
                            try clear hfz110_0
                            try clear hfz110_1
                            try clear hfz110_2
                            try clear hfz112_0
                            try clear hfz112_1
                            try clear hfz112_2
                            try clear hfz116_0
                            try clear hfz116_1
                            try clear hfz116_2
                            try clear hfz118_0
                            try clear hfz118_1
                            try clear hfz118_2
                            try clear hfz27_0
                            try clear hfz27_1
                            try clear hfz27_2
                            try clear hfz36_0
                            try clear hfz36_1
                            try clear hfz36_2
                            try clear hfz41_0
                            try clear hfz41_1
                            try clear hfz41_2
                            try clear hfz42_0
                            try clear hfz42_1
                            try clear hfz42_2
                            try clear hfz45_0
                            try clear hfz45_1
                            try clear hfz45_2
                            try clear hfz46_0
                            try clear hfz46_1
                            try clear hfz46_2
                            try clear hfz70_0
                            try clear hfz70_1
                            try clear hfz70_2
                            try clear hfz71_0
                            try clear hfz71_1
                            try clear hfz71_2
                            try clear hfz74_0
                            try clear hfz74_1
                            try clear hfz74_2
                            try clear hfz75_0
                            try clear hfz75_1
                            try clear hfz75_2
                            try clear hfz82_0
                            try clear hfz82_1
                            try clear hfz82_2
                            try clear hfz84_0
                            try clear hfz84_1
                            try clear hfz84_2
                            try clear hfz92_0
                            try clear hfz92_1
                            try clear hfz92_2
                            try clear hfz94_0
                            try clear hfz94_1
                            try clear hfz94_2
                            try clear p2
                            obtain ⟨kq, x120_89, rfl, HA, HJ89, HO_964002, HO_977002, HO_1007002, BK963, BK976, BK1006, HB⟩ := hcut
                            have hl977002_89 := (Kd.R_reads' HO_977002.out).1
                            rw [hl977002_89] at HO_977002
                            (try simp only [hl977002_89])
                            (try simp only [hl977002_89] at BK963)
                            (try simp only [hl977002_89] at BK976)
                            (try simp only [hl977002_89] at BK1006)
                            (try simp only [hl977002_89] at HO_964002)
                            (try simp only [hl977002_89] at HO_1007002)
                            cases kq with
                            | zero => exact absurd HA.out (by simp [laws_FnExactGatherQc.j2])
                            | succ kj89 =>
                              have H := HA.out
                              clear HA
                              simp only [laws_FnExactGatherQc.j2] at H
                              by_cases c120 : x120_89 = true
                              · subst c120
                                have H1 : (some false) = some r := by rw [if_pos rfl] at H; exact H
                                clear H
                                have H := H1
                                clear H1
                                obtain rfl := Option.some.inj H
                                go_wp2
                                go_ret
                                exact ⟨by first | rfl | (simp [errW_none, errW_some] <;> rfl) | (simp [*, errW_none, errW_some] <;> rfl), by repeat (first | (with_reducible first | exact HB.out | apply below_alloc | apply pw_below_drewN | apply below_drew1 | refine below_set ?_ GE963.out | refine below_set ?_ GE976.out | refine below_set ?_ GE1006.out) | exact HB.out)⟩
                              · replace c120 := Bool.eq_false_iff.mpr c120
                                subst c120
                                have H1 : ((laws_heldQc.f kj89 t970 t971 t992 1).bind fun t1008 => (if t1008 < 0 then (some false) else (if t1008 = t991 then (some true) else (some false)))) = some r := by rw [if_neg (show ¬ (false = true) by decide)] at H; exact H
                                clear H
                                have H := H1
                                clear H1
                                replace H := Option.bind_eq_some_iff.mp H
                                obtain ⟨t1008, A1210, H⟩ := H
                                replace H : (if t1008 < 0 then (some false) else (if t1008 = t991 then (some true) else (some false))) = some r := H
                                have A121 := Aside0.mk A1210
                                clear A1210
                                by_cases c122 : t1008 < 0
                                · rw [if_pos c122] at H
                                  have c122b0 : decide (t1008 < 0) = true := decide_eq_true c122
                                  clear c122
                                  obtain rfl := Option.some.inj H
                                  have hnb123 := NB976_963.out
                                  have hnc123 := NB963_976.out
                                  have hnb124 := NB976_1006.out
                                  have hnc124 := NB1006_976.out
                                  obtain ⟨hcz125_0, hcz125_1, hcz125_2⟩ := cells3 BK976.out
                                  obtain ⟨hfz125_0, hfz125_1, hfz125_2⟩ := frozens3 BK976.out
                                  go_wp2_with (first | ((with_reducible refine gate_callee (f := 54) rfl ?_); refine goesL_ (some 123) rfl rfl Try.func54 (by kernel_rfl) rfl #[.agg #[.int .i64 t970, .int .i64 t971, .slice Ao37 t992.length co37], .int .i64 1] rfl (by (try simp only [List.map_toArray, List.map_cons, List.map_nil]); first | done | rfl | (simp only [List.length_drop, List.length_take]; rfl)) ?_; (with_reducible refine (laws_heldQc.calls kj89 t970 t971 _ _ t992 1 t1008 _ ?side1 ?side2 A121.out).mono ?_); (case side1 => repeat (first | exact (Kd.R_reads' HO_977002.out).2.2 | (with_reducible refine Kd.C_alloc ?_ _) | (with_reducible refine Kd.C_drewN ?_ _) | (with_reducible refine Kd.C_drew ?_))); (case side2 => exact (Kd.R_reads' HO_977002.out).2.1); rintro e w126 ⟨rfl, hb⟩; refine ⟨_, rfl, ?_⟩; have n0_ := Aside0.mk (Kd.R_below (by (with_reducible repeat (first | apply Kd.R_alloc | apply Kd.R_drewN | apply Kd.R_drew)); exact HO_964002.out) hb); have n1_ := Aside0.mk (Kd.R_below (by (with_reducible repeat (first | apply Kd.R_alloc | apply Kd.R_drewN | apply Kd.R_drew)); exact HO_977002.out) hb); have n2_ := Aside0.mk (Kd.R_below (by (with_reducible repeat (first | apply Kd.R_alloc | apply Kd.R_drewN | apply Kd.R_drew)); exact HO_1007002.out) hb); have n3_ := Aside0.mk (blk_below (g := gb963) (by (with_reducible repeat (first | refine blk_drewN ?_ _ | refine blk_drew ?_ | refine blk_alloc ?_ _)); exact BK963.out) hb); have n4_ := Aside0.mk (blk_below (g := gb976) (by (with_reducible repeat (first | refine blk_drewN ?_ _ | refine blk_drew ?_ | refine blk_alloc ?_ _)); exact BK976.out) hb); have n5_ := Aside0.mk (blk_below (g := gb1006) (by (with_reducible repeat (first | refine blk_drewN ?_ _ | refine blk_drew ?_ | refine blk_alloc ?_ _)); exact BK1006.out) hb); have n6_ := Aside0.mk (below_step (by repeat (first | (with_reducible first | exact HB.out | apply below_alloc | apply pw_below_drewN | apply below_drew1 | refine below_set ?_ GE963.out | refine below_set ?_ GE976.out | refine below_set ?_ GE1006.out) | exact HB.out)) hb); clear HO_964002; clear HO_977002; clear HO_1007002; clear BK963; clear BK976; clear BK1006; clear HB; have HO_964002 := n0_; have HO_977002 := n1_; have HO_1007002 := n2_; have BK963 := n3_; have BK976 := n4_; have BK1006 := n5_; have HB := n6_; clear n0_ n1_ n2_ n3_ n4_ n5_ n6_; (try clear hb); (try clear hb2); (try clear hk); (try clear hi)))
                                  go_ret
                                  exact ⟨by first | rfl | (simp [errW_none, errW_some] <;> rfl) | (simp [*, errW_none, errW_some] <;> rfl), by repeat (first | (with_reducible first | exact HB.out | apply below_alloc | apply pw_below_drewN | apply below_drew1 | refine below_set ?_ GE963.out | refine below_set ?_ GE976.out | refine below_set ?_ GE1006.out) | exact HB.out)⟩
                                · rw [if_neg c122] at H
                                  have c122b0 : decide (t1008 < 0) = false := decide_eq_false c122
                                  clear c122
                                  by_cases c127 : t1008 = t991
                                  · rw [if_pos c127] at H
                                    have c127b0 : (t1008 == t991) = true := beq_iff_eq.mpr c127
                                    have c127b1 : (t1008 != t991) = false := bne_eq_false_iff_eq.mpr c127
                                    clear c127
                                    obtain rfl := Option.some.inj H
                                    have hnb128 := NB976_963.out
                                    have hnc128 := NB963_976.out
                                    have hnb129 := NB976_1006.out
                                    have hnc129 := NB1006_976.out
                                    obtain ⟨hcz130_0, hcz130_1, hcz130_2⟩ := cells3 BK976.out
                                    obtain ⟨hfz130_0, hfz130_1, hfz130_2⟩ := frozens3 BK976.out
                                    go_wp2_with (first | ((with_reducible refine gate_callee (f := 54) rfl ?_); refine goesL_ (some 123) rfl rfl Try.func54 (by kernel_rfl) rfl #[.agg #[.int .i64 t970, .int .i64 t971, .slice Ao37 t992.length co37], .int .i64 1] rfl (by (try simp only [List.map_toArray, List.map_cons, List.map_nil]); first | done | rfl | (simp only [List.length_drop, List.length_take]; rfl)) ?_; (with_reducible refine (laws_heldQc.calls kj89 t970 t971 _ _ t992 1 t1008 _ ?side1 ?side2 A121.out).mono ?_); (case side1 => repeat (first | exact (Kd.R_reads' HO_977002.out).2.2 | (with_reducible refine Kd.C_alloc ?_ _) | (with_reducible refine Kd.C_drewN ?_ _) | (with_reducible refine Kd.C_drew ?_))); (case side2 => exact (Kd.R_reads' HO_977002.out).2.1); rintro e w131 ⟨rfl, hb⟩; refine ⟨_, rfl, ?_⟩; have n0_ := Aside0.mk (Kd.R_below (by (with_reducible repeat (first | apply Kd.R_alloc | apply Kd.R_drewN | apply Kd.R_drew)); exact HO_964002.out) hb); have n1_ := Aside0.mk (Kd.R_below (by (with_reducible repeat (first | apply Kd.R_alloc | apply Kd.R_drewN | apply Kd.R_drew)); exact HO_977002.out) hb); have n2_ := Aside0.mk (Kd.R_below (by (with_reducible repeat (first | apply Kd.R_alloc | apply Kd.R_drewN | apply Kd.R_drew)); exact HO_1007002.out) hb); have n3_ := Aside0.mk (blk_below (g := gb963) (by (with_reducible repeat (first | refine blk_drewN ?_ _ | refine blk_drew ?_ | refine blk_alloc ?_ _)); exact BK963.out) hb); have n4_ := Aside0.mk (blk_below (g := gb976) (by (with_reducible repeat (first | refine blk_drewN ?_ _ | refine blk_drew ?_ | refine blk_alloc ?_ _)); exact BK976.out) hb); have n5_ := Aside0.mk (blk_below (g := gb1006) (by (with_reducible repeat (first | refine blk_drewN ?_ _ | refine blk_drew ?_ | refine blk_alloc ?_ _)); exact BK1006.out) hb); have n6_ := Aside0.mk (below_step (by repeat (first | (with_reducible first | exact HB.out | apply below_alloc | apply pw_below_drewN | apply below_drew1 | refine below_set ?_ GE963.out | refine below_set ?_ GE976.out | refine below_set ?_ GE1006.out) | exact HB.out)) hb); clear HO_964002; clear HO_977002; clear HO_1007002; clear BK963; clear BK976; clear BK1006; clear HB; have HO_964002 := n0_; have HO_977002 := n1_; have HO_1007002 := n2_; have BK963 := n3_; have BK976 := n4_; have BK1006 := n5_; have HB := n6_; clear n0_ n1_ n2_ n3_ n4_ n5_ n6_; (try clear hb); (try clear hb2); (try clear hk); (try clear hi)))
                                    go_ret
                                    exact ⟨by first | rfl | (simp [errW_none, errW_some] <;> rfl) | (simp [*, errW_none, errW_some] <;> rfl), by repeat (first | (with_reducible first | exact HB.out | apply below_alloc | apply pw_below_drewN | apply below_drew1 | refine below_set ?_ GE963.out | refine below_set ?_ GE976.out | refine below_set ?_ GE1006.out) | exact HB.out)⟩
                                  · rw [if_neg c127] at H
                                    have c127b0 : (t1008 == t991) = false := beq_eq_false_iff_ne.mpr c127
                                    have c127b1 : (t1008 != t991) = true := bne_iff_ne.mpr c127
                                    obtain rfl := Option.some.inj H
                                    have hnb132 := NB976_963.out
                                    have hnc132 := NB963_976.out
                                    have hnb133 := NB976_1006.out
                                    have hnc133 := NB1006_976.out
                                    obtain ⟨hcz134_0, hcz134_1, hcz134_2⟩ := cells3 BK976.out
                                    obtain ⟨hfz134_0, hfz134_1, hfz134_2⟩ := frozens3 BK976.out
                                    go_wp2_with (first | ((with_reducible refine gate_callee (f := 54) rfl ?_); refine goesL_ (some 123) rfl rfl Try.func54 (by kernel_rfl) rfl #[.agg #[.int .i64 t970, .int .i64 t971, .slice Ao37 t992.length co37], .int .i64 1] rfl (by (try simp only [List.map_toArray, List.map_cons, List.map_nil]); first | done | rfl | (simp only [List.length_drop, List.length_take]; rfl)) ?_; (with_reducible refine (laws_heldQc.calls kj89 t970 t971 _ _ t992 1 t1008 _ ?side1 ?side2 A121.out).mono ?_); (case side1 => repeat (first | exact (Kd.R_reads' HO_977002.out).2.2 | (with_reducible refine Kd.C_alloc ?_ _) | (with_reducible refine Kd.C_drewN ?_ _) | (with_reducible refine Kd.C_drew ?_))); (case side2 => exact (Kd.R_reads' HO_977002.out).2.1); rintro e w135 ⟨rfl, hb⟩; refine ⟨_, rfl, ?_⟩; have n0_ := Aside0.mk (Kd.R_below (by (with_reducible repeat (first | apply Kd.R_alloc | apply Kd.R_drewN | apply Kd.R_drew)); exact HO_964002.out) hb); have n1_ := Aside0.mk (Kd.R_below (by (with_reducible repeat (first | apply Kd.R_alloc | apply Kd.R_drewN | apply Kd.R_drew)); exact HO_977002.out) hb); have n2_ := Aside0.mk (Kd.R_below (by (with_reducible repeat (first | apply Kd.R_alloc | apply Kd.R_drewN | apply Kd.R_drew)); exact HO_1007002.out) hb); have n3_ := Aside0.mk (blk_below (g := gb963) (by (with_reducible repeat (first | refine blk_drewN ?_ _ | refine blk_drew ?_ | refine blk_alloc ?_ _)); exact BK963.out) hb); have n4_ := Aside0.mk (blk_below (g := gb976) (by (with_reducible repeat (first | refine blk_drewN ?_ _ | refine blk_drew ?_ | refine blk_alloc ?_ _)); exact BK976.out) hb); have n5_ := Aside0.mk (blk_below (g := gb1006) (by (with_reducible repeat (first | refine blk_drewN ?_ _ | refine blk_drew ?_ | refine blk_alloc ?_ _)); exact BK1006.out) hb); have n6_ := Aside0.mk (below_step (by repeat (first | (with_reducible first | exact HB.out | apply below_alloc | apply pw_below_drewN | apply below_drew1 | refine below_set ?_ GE963.out | refine below_set ?_ GE976.out | refine below_set ?_ GE1006.out) | exact HB.out)) hb); clear HO_964002; clear HO_977002; clear HO_1007002; clear BK963; clear BK976; clear BK1006; clear HB; have HO_964002 := n0_; have HO_977002 := n1_; have HO_1007002 := n2_; have BK963 := n3_; have BK976 := n4_; have BK1006 := n5_; have HB := n6_; clear n0_ n1_ n2_ n3_ n4_ n5_ n6_; (try clear hb); (try clear hb2); (try clear hk); (try clear hi)))
                                    go_ret
                                    exact ⟨by first | rfl | (simp [errW_none, errW_some] <;> rfl) | (simp [*, errW_none, errW_some] <;> rfl), by repeat (first | (with_reducible first | exact HB.out | apply below_alloc | apply pw_below_drewN | apply below_drew1 | refine below_set ?_ GE963.out | refine below_set ?_ GE976.out | refine below_set ?_ GE1006.out) | exact HB.out)⟩
                        · rw [if_neg c86] at H
                          have c86b0 : (t993 == t991) = false := beq_eq_false_iff_ne.mpr c86
                          have c86b1 : (t993 != t991) = true := bne_iff_ne.mpr c86
                          obtain rfl := Option.some.inj H
                          have hnb136 := NB976_963.out
                          have hnc136 := NB963_976.out
                          obtain ⟨hcz137_0, hcz137_1, hcz137_2⟩ := cells3 BK976.out
                          obtain ⟨hfz137_0, hfz137_1, hfz137_2⟩ := frozens3 BK976.out
                          go_wp2_with (first | ((with_reducible refine gate_callee (f := 53) rfl ?_); refine goesL_ (some 93) rfl rfl Try.func53 (by kernel_rfl) rfl #[.agg #[.int .i64 t970, .int .i64 t971, .slice Ao37 t972.length co37], .int .i64 1] rfl (by (try simp only [List.map_toArray, List.map_cons, List.map_nil]); first | done | rfl | (simp only [List.length_drop, List.length_take]; rfl)) ?_; (with_reducible refine (laws_markQc.calls kj56 t970 t971 (fun k_ => some k_ = (.slice Ao37 t972.length co37 : Value).ownBlock) (.slice Ao37 t972.length co37) t972 1 t991 t992 w _ ?side1 ?side2 A78.out).mono ?_); (case side1 => repeat (first | (with_reducible first | exact HB.out | apply below_alloc | apply pw_below_drewN | apply below_drew1 | refine below_set ?_ GE963.out | refine below_set ?_ GE976.out) | exact HB.out)); (case side2 => exact Kd.R_tight rfl HO_977002.out); rintro e w138 ⟨rfl, hy0, hb, hkp⟩; refine ⟨_, rfl, ?_⟩; have n0_ := Aside0.mk (Kd.R_mono (ok' := fun k_ => some k_ ≠ (.slice Ao37 t972.length co37 : Value).ownBlock) (Kd.R_keptB (HO_964002.out) hkp (fun k_ hk_ hs_ => (hk_) hs_)) (fun k_ hk_ => hk_.1)); have n1_ := Aside0.mk (Kd.R_reok rfl hy0 (fun k_ e_ => HO_977002.out.1 k_ e_)); have n2_ := Aside0.mk (blk_kept (by (with_reducible repeat (first | refine blk_drewN ?_ _ | refine blk_drew ?_ | refine blk_alloc ?_ _)); exact BK963.out) hkp (fun hs_ => (fun e_ => (Kd.R_ne HO_977002.out BK963.out (by decide)) e_) hs_)); have n3_ := Aside0.mk (blk_kept (by (with_reducible repeat (first | refine blk_drewN ?_ _ | refine blk_drew ?_ | refine blk_alloc ?_ _)); exact BK976.out) hkp (fun hs_ => (fun e_ => (Kd.R_ne HO_977002.out BK976.out (by decide)) e_) hs_)); have n4_ := Aside0.mk (hb); clear HO_964002; clear HO_977002; clear BK963; clear BK976; clear HB; have HO_964002 := n0_; have HO_977002 := n1_; have BK963 := n2_; have BK976 := n3_; have HB := n4_; clear n0_ n1_ n2_ n3_ n4_; (try clear hb); (try clear hkp); (try clear hy0); obtain ⟨hcz139_0, hcz139_1, hcz139_2⟩ := cells3 BK976.out; obtain ⟨hfz139_0, hfz139_1, hfz139_2⟩ := frozens3 BK976.out) | ((with_reducible refine gate_callee (f := 54) rfl ?_); refine goesL_ (some 96) rfl rfl Try.func54 (by kernel_rfl) rfl #[.agg #[.int .i64 t970, .int .i64 t971, .slice Ao37 t992.length co37], .int .i64 1] rfl (by (try simp only [List.map_toArray, List.map_cons, List.map_nil]); first | done | (rw [show t992.length = t972.length from (Kd.R_reads' HO_977002.out).1.symm] <;> rfl) | rfl | (simp only [List.length_drop, List.length_take]; rfl)) ?_; (with_reducible refine (laws_heldQc.calls kj56 t970 t971 _ _ t992 1 t993 _ ?side1 ?side2 A79.out).mono ?_); (case side1 => repeat (first | exact (Kd.R_reads' HO_977002.out).2.2 | (with_reducible refine Kd.C_alloc ?_ _) | (with_reducible refine Kd.C_drewN ?_ _) | (with_reducible refine Kd.C_drew ?_))); (case side2 => rw [show t992.length = t972.length from (Kd.R_reads' HO_977002.out).1.symm]; exact (Kd.R_reads' HO_977002.out).2.1); rintro e w140 ⟨rfl, hb⟩; refine ⟨_, rfl, ?_⟩; have n0_ := Aside0.mk (Kd.R_below (by (with_reducible repeat (first | apply Kd.R_alloc | apply Kd.R_drewN | apply Kd.R_drew)); exact HO_964002.out) hb); have n1_ := Aside0.mk (Kd.R_below (by (with_reducible repeat (first | apply Kd.R_alloc | apply Kd.R_drewN | apply Kd.R_drew)); exact HO_977002.out) hb); have n2_ := Aside0.mk (blk_below (g := gb963) (by (with_reducible repeat (first | refine blk_drewN ?_ _ | refine blk_drew ?_ | refine blk_alloc ?_ _)); exact BK963.out) hb); have n3_ := Aside0.mk (blk_below (g := gb976) (by (with_reducible repeat (first | refine blk_drewN ?_ _ | refine blk_drew ?_ | refine blk_alloc ?_ _)); exact BK976.out) hb); have n4_ := Aside0.mk (below_step (by repeat (first | (with_reducible first | exact HB.out | apply below_alloc | apply pw_below_drewN | apply below_drew1 | refine below_set ?_ GE963.out | refine below_set ?_ GE976.out) | exact HB.out)) hb); clear HO_964002; clear HO_977002; clear BK963; clear BK976; clear HB; have HO_964002 := n0_; have HO_977002 := n1_; have BK963 := n2_; have BK976 := n3_; have HB := n4_; clear n0_ n1_ n2_ n3_ n4_; (try clear hb); (try clear hb2); (try clear hk); (try clear hi)))
                          go_ret
                          exact ⟨by first | rfl | (simp [errW_none, errW_some] <;> rfl) | (simp [*, errW_none, errW_some] <;> rfl), by repeat (first | (with_reducible first | exact HB.out | apply below_alloc | apply pw_below_drewN | apply below_drew1 | refine below_set ?_ GE963.out | refine below_set ?_ GE976.out) | exact HB.out)⟩
              · replace c54 := Bool.eq_false_iff.mpr c54
                subst c54
                have H1 : (some false) = some r := by rw [if_neg (show ¬ (false = true) by decide)] at H; exact H
                clear H
                have H := H1
                clear H1
                obtain rfl := Option.some.inj H
                go_wp2_with (first | ((with_reducible refine gate_callee (f := 48) rfl ?_); refine goesL_ (some 64) rfl rfl Try.func48 (by kernel_rfl) rfl #[.slice A0 l0.length c0] rfl (by (try simp only [List.map_toArray, List.map_cons, List.map_nil]); first | done | rfl | (simp only [List.length_drop, List.length_take]; rfl)) ?_; (with_reducible refine (laws_toValS.calls kj17 _ _ l0 t978 _ ?side1 ?side2 A49.out).mono ?_); (case side1 => repeat (first | exact (Kd.C_below HR0.out HB.out) | (with_reducible refine Kd.C_alloc ?_ _) | (with_reducible refine Kd.C_drewN ?_ _) | (with_reducible refine Kd.C_drew ?_))); (case side2 => exact HC0.out); rintro e w141 ⟨v979, rfl, ho0, hb⟩; refine ⟨_, rfl, ?_⟩; have n0_ := Aside0.mk (Kd.R_elder' (by (with_reducible repeat (first | apply Kd.R_alloc | apply Kd.R_drewN | apply Kd.R_drew)); exact HO_12.out) (Kd.R_base ho0) hb); have n1_ := Aside0.mk (Kd.R_below (by (with_reducible repeat (first | apply Kd.R_alloc | apply Kd.R_drewN | apply Kd.R_drew)); exact HO_13.out) hb); have n2_ := Aside0.mk (Kd.R_below (by (with_reducible repeat (first | apply Kd.R_alloc | apply Kd.R_drewN | apply Kd.R_drew)); exact HO_964002.out) hb); have n3_ := Aside0.mk (Kd.R_below (by (with_reducible repeat (first | apply Kd.R_alloc | apply Kd.R_drewN | apply Kd.R_drew)); exact HO_977002.out) hb); have n4_ := Aside0.mk (Kd.R_lower (Kd.R_new' ho0 (Kd.R_lt (by (with_reducible repeat (first | apply Kd.R_alloc | apply Kd.R_drewN | apply Kd.R_drew)); exact HO_12.out))) (below_size (by repeat (first | (with_reducible first | exact HB.out | apply below_alloc | apply pw_below_drewN | apply below_drew1 | refine below_set ?_ GE963.out | refine below_set ?_ GE976.out) | exact HB.out)))); have n5_ := Aside0.mk (blk_below (g := gb963) (by (with_reducible repeat (first | refine blk_drewN ?_ _ | refine blk_drew ?_ | refine blk_alloc ?_ _)); exact BK963.out) hb); have n6_ := Aside0.mk (blk_below (g := gb976) (by (with_reducible repeat (first | refine blk_drewN ?_ _ | refine blk_drew ?_ | refine blk_alloc ?_ _)); exact BK976.out) hb); have n7_ := Aside0.mk (below_step (by repeat (first | (with_reducible first | exact HB.out | apply below_alloc | apply pw_below_drewN | apply below_drew1 | refine below_set ?_ GE963.out | refine below_set ?_ GE976.out) | exact HB.out)) hb); clear HO_12; clear HO_13; clear HO_964002; clear HO_977002; clear BK963; clear BK976; clear HB; have HO_12 := n0_; have HO_13 := n1_; have HO_964002 := n2_; have HO_977002 := n3_; have HO980 := n4_; have BK963 := n5_; have BK976 := n6_; have HB := n7_; clear n0_ n1_ n2_ n3_ n4_ n5_ n6_ n7_; (try clear hb); (try clear hb2); (try clear hk); (try clear hi); (try clear ho0); obtain ⟨Ao142, co142, eo142⟩ := Kd.R_slice HO980.out; subst eo142) | ((with_reducible refine gate_callee (f := 41) rfl ?_); refine goesL_ (some 65) rfl rfl Try.func41 (by kernel_rfl) rfl #[.slice Ao31 t964.length co31, .slice Ao142 t978.length co142] rfl (by (try simp only [List.map_toArray, List.map_cons, List.map_nil]); first | done | rfl | (simp only [List.length_drop, List.length_take]; rfl)) ?_; (with_reducible refine (laws_eqValS.calls kj17 _ _ t964 _ _ t978 true _ ?side1 ?side2 ?side3 ?side4 A50.out).mono ?_); (case side1 => repeat (first | exact (Kd.R_reads' HO_12.out).2.2 | (with_reducible refine Kd.C_alloc ?_ _) | (with_reducible refine Kd.C_drewN ?_ _) | (with_reducible refine Kd.C_drew ?_))); (case side2 => exact (Kd.R_reads' HO_12.out).2.1); (case side3 => repeat (first | exact (Kd.R_reads' HO980.out).2.2 | (with_reducible refine Kd.C_alloc ?_ _) | (with_reducible refine Kd.C_drewN ?_ _) | (with_reducible refine Kd.C_drew ?_))); (case side4 => exact (Kd.R_reads' HO980.out).2.1); rintro e w143 ⟨rfl, hb⟩; refine ⟨_, rfl, ?_⟩; have n0_ := Aside0.mk (Kd.R_below (by (with_reducible repeat (first | apply Kd.R_alloc | apply Kd.R_drewN | apply Kd.R_drew)); exact HO_12.out) hb); have n1_ := Aside0.mk (Kd.R_below (by (with_reducible repeat (first | apply Kd.R_alloc | apply Kd.R_drewN | apply Kd.R_drew)); exact HO_13.out) hb); have n2_ := Aside0.mk (Kd.R_below (by (with_reducible repeat (first | apply Kd.R_alloc | apply Kd.R_drewN | apply Kd.R_drew)); exact HO_964002.out) hb); have n3_ := Aside0.mk (Kd.R_below (by (with_reducible repeat (first | apply Kd.R_alloc | apply Kd.R_drewN | apply Kd.R_drew)); exact HO_977002.out) hb); have n4_ := Aside0.mk (Kd.R_below (by (with_reducible repeat (first | apply Kd.R_alloc | apply Kd.R_drewN | apply Kd.R_drew)); exact HO980.out) hb); have n5_ := Aside0.mk (blk_below (g := gb963) (by (with_reducible repeat (first | refine blk_drewN ?_ _ | refine blk_drew ?_ | refine blk_alloc ?_ _)); exact BK963.out) hb); have n6_ := Aside0.mk (blk_below (g := gb976) (by (with_reducible repeat (first | refine blk_drewN ?_ _ | refine blk_drew ?_ | refine blk_alloc ?_ _)); exact BK976.out) hb); have n7_ := Aside0.mk (below_step (by repeat (first | (with_reducible first | exact HB.out | apply below_alloc | apply pw_below_drewN | apply below_drew1 | refine below_set ?_ GE963.out | refine below_set ?_ GE976.out) | exact HB.out)) hb); clear HO_12; clear HO_13; clear HO_964002; clear HO_977002; clear HO980; clear BK963; clear BK976; clear HB; have HO_12 := n0_; have HO_13 := n1_; have HO_964002 := n2_; have HO_977002 := n3_; have HO980 := n4_; have BK963 := n5_; have BK976 := n6_; have HB := n7_; clear n0_ n1_ n2_ n3_ n4_ n5_ n6_ n7_; (try clear hb); (try clear hb2); (try clear hk); (try clear hi)) | ((with_reducible refine gate_callee (f := 49) rfl ?_); refine goesL_ (some 69) rfl rfl Try.func49 (by kernel_rfl) rfl #[.slice A1 l1.length c1] rfl (by (try simp only [List.map_toArray, List.map_cons, List.map_nil]); first | done | rfl | (simp only [List.length_drop, List.length_take]; rfl)) ?_; (with_reducible refine (laws_toVoteS.calls kj17 _ _ l1 t982 _ ?side1 ?side2 A52.out).mono ?_); (case side1 => repeat (first | exact (Kd.C_below HR1.out HB.out) | (with_reducible refine Kd.C_alloc ?_ _) | (with_reducible refine Kd.C_drewN ?_ _) | (with_reducible refine Kd.C_drew ?_))); (case side2 => exact HC1.out); rintro e w144 ⟨v983, rfl, ho0, hb⟩; refine ⟨_, rfl, ?_⟩; have n0_ := Aside0.mk (Kd.R_below (by (with_reducible repeat (first | apply Kd.R_alloc | apply Kd.R_drewN | apply Kd.R_drew)); exact HO_12.out) hb); have n1_ := Aside0.mk (Kd.R_elder' (by (with_reducible repeat (first | apply Kd.R_alloc | apply Kd.R_drewN | apply Kd.R_drew)); exact HO_13.out) (Kd.R_base ho0) hb); have n2_ := Aside0.mk (Kd.R_below (by (with_reducible repeat (first | apply Kd.R_alloc | apply Kd.R_drewN | apply Kd.R_drew)); exact HO_964002.out) hb); have n3_ := Aside0.mk (Kd.R_below (by (with_reducible repeat (first | apply Kd.R_alloc | apply Kd.R_drewN | apply Kd.R_drew)); exact HO_977002.out) hb); have n4_ := Aside0.mk (Kd.R_below (by (with_reducible repeat (first | apply Kd.R_alloc | apply Kd.R_drewN | apply Kd.R_drew)); exact HO980.out) hb); have n5_ := Aside0.mk (Kd.R_lower (Kd.R_new' ho0 (Kd.R_lt (by (with_reducible repeat (first | apply Kd.R_alloc | apply Kd.R_drewN | apply Kd.R_drew)); exact HO_13.out))) (below_size (by repeat (first | (with_reducible first | exact HB.out | apply below_alloc | apply pw_below_drewN | apply below_drew1 | refine below_set ?_ GE963.out | refine below_set ?_ GE976.out) | exact HB.out)))); have n6_ := Aside0.mk (blk_below (g := gb963) (by (with_reducible repeat (first | refine blk_drewN ?_ _ | refine blk_drew ?_ | refine blk_alloc ?_ _)); exact BK963.out) hb); have n7_ := Aside0.mk (blk_below (g := gb976) (by (with_reducible repeat (first | refine blk_drewN ?_ _ | refine blk_drew ?_ | refine blk_alloc ?_ _)); exact BK976.out) hb); have n8_ := Aside0.mk (below_step (by repeat (first | (with_reducible first | exact HB.out | apply below_alloc | apply pw_below_drewN | apply below_drew1 | refine below_set ?_ GE963.out | refine below_set ?_ GE976.out) | exact HB.out)) hb); clear HO_12; clear HO_13; clear HO_964002; clear HO_977002; clear HO980; clear BK963; clear BK976; clear HB; have HO_12 := n0_; have HO_13 := n1_; have HO_964002 := n2_; have HO_977002 := n3_; have HO980 := n4_; have HO984 := n5_; have BK963 := n6_; have BK976 := n7_; have HB := n8_; clear n0_ n1_ n2_ n3_ n4_ n5_ n6_ n7_ n8_; (try clear hb); (try clear hb2); (try clear hk); (try clear hi); (try clear ho0); obtain ⟨Ao145, co145, eo145⟩ := Kd.R_slice HO984.out; subst eo145) | ((with_reducible refine gate_callee (f := 51) rfl ?_); refine goesL_ (some 70) rfl rfl Try.func51 (by kernel_rfl) rfl #[.slice Ao32 t967.length co32, .slice Ao145 t982.length co145] rfl (by (try simp only [List.map_toArray, List.map_cons, List.map_nil]); first | done | rfl | (simp only [List.length_drop, List.length_take]; rfl)) ?_; (with_reducible refine (laws_eqVoteS.calls kj17 _ _ t967 _ _ t982 false _ ?side1 ?side2 ?side3 ?side4 A53.out).mono ?_); (case side1 => repeat (first | exact (Kd.R_reads' HO_13.out).2.2 | (with_reducible refine Kd.C_alloc ?_ _) | (with_reducible refine Kd.C_drewN ?_ _) | (with_reducible refine Kd.C_drew ?_))); (case side2 => exact (Kd.R_reads' HO_13.out).2.1); (case side3 => repeat (first | exact (Kd.R_reads' HO984.out).2.2 | (with_reducible refine Kd.C_alloc ?_ _) | (with_reducible refine Kd.C_drewN ?_ _) | (with_reducible refine Kd.C_drew ?_))); (case side4 => exact (Kd.R_reads' HO984.out).2.1); rintro e w146 ⟨rfl, hb⟩; refine ⟨_, rfl, ?_⟩; have n0_ := Aside0.mk (Kd.R_below (by (with_reducible repeat (first | apply Kd.R_alloc | apply Kd.R_drewN | apply Kd.R_drew)); exact HO_12.out) hb); have n1_ := Aside0.mk (Kd.R_below (by (with_reducible repeat (first | apply Kd.R_alloc | apply Kd.R_drewN | apply Kd.R_drew)); exact HO_13.out) hb); have n2_ := Aside0.mk (Kd.R_below (by (with_reducible repeat (first | apply Kd.R_alloc | apply Kd.R_drewN | apply Kd.R_drew)); exact HO_964002.out) hb); have n3_ := Aside0.mk (Kd.R_below (by (with_reducible repeat (first | apply Kd.R_alloc | apply Kd.R_drewN | apply Kd.R_drew)); exact HO_977002.out) hb); have n4_ := Aside0.mk (Kd.R_below (by (with_reducible repeat (first | apply Kd.R_alloc | apply Kd.R_drewN | apply Kd.R_drew)); exact HO980.out) hb); have n5_ := Aside0.mk (Kd.R_below (by (with_reducible repeat (first | apply Kd.R_alloc | apply Kd.R_drewN | apply Kd.R_drew)); exact HO984.out) hb); have n6_ := Aside0.mk (blk_below (g := gb963) (by (with_reducible repeat (first | refine blk_drewN ?_ _ | refine blk_drew ?_ | refine blk_alloc ?_ _)); exact BK963.out) hb); have n7_ := Aside0.mk (blk_below (g := gb976) (by (with_reducible repeat (first | refine blk_drewN ?_ _ | refine blk_drew ?_ | refine blk_alloc ?_ _)); exact BK976.out) hb); have n8_ := Aside0.mk (below_step (by repeat (first | (with_reducible first | exact HB.out | apply below_alloc | apply pw_below_drewN | apply below_drew1 | refine below_set ?_ GE963.out | refine below_set ?_ GE976.out) | exact HB.out)) hb); clear HO_12; clear HO_13; clear HO_964002; clear HO_977002; clear HO980; clear HO984; clear BK963; clear BK976; clear HB; have HO_12 := n0_; have HO_13 := n1_; have HO_964002 := n2_; have HO_977002 := n3_; have HO980 := n4_; have HO984 := n5_; have BK963 := n6_; have BK976 := n7_; have HB := n8_; clear n0_ n1_ n2_ n3_ n4_ n5_ n6_ n7_ n8_; (try clear hb); (try clear hb2); (try clear hk); (try clear hi)))
                go_ret
                exact ⟨by first | rfl | (simp [errW_none, errW_some] <;> rfl) | (simp [*, errW_none, errW_some] <;> rfl), by repeat (first | (with_reducible first | exact HB.out | apply below_alloc | apply pw_below_drewN | apply below_drew1 | refine below_set ?_ GE963.out | refine below_set ?_ GE976.out) | exact HB.out)⟩
            · replace c51 := Bool.eq_false_iff.mpr c51
              subst c51
              have H1 : (some false) = some r := by rw [if_neg (show ¬ (false = true) by decide)] at H; exact H
              clear H
              have H := H1
              clear H1
              obtain rfl := Option.some.inj H
              go_wp2_with (first | ((with_reducible refine gate_callee (f := 48) rfl ?_); refine goesL_ (some 64) rfl rfl Try.func48 (by kernel_rfl) rfl #[.slice A0 l0.length c0] rfl (by (try simp only [List.map_toArray, List.map_cons, List.map_nil]); first | done | rfl | (simp only [List.length_drop, List.length_take]; rfl)) ?_; (with_reducible refine (laws_toValS.calls kj17 _ _ l0 t978 _ ?side1 ?side2 A49.out).mono ?_); (case side1 => repeat (first | exact (Kd.C_below HR0.out HB.out) | (with_reducible refine Kd.C_alloc ?_ _) | (with_reducible refine Kd.C_drewN ?_ _) | (with_reducible refine Kd.C_drew ?_))); (case side2 => exact HC0.out); rintro e w147 ⟨v979, rfl, ho0, hb⟩; refine ⟨_, rfl, ?_⟩; have n0_ := Aside0.mk (Kd.R_elder' (by (with_reducible repeat (first | apply Kd.R_alloc | apply Kd.R_drewN | apply Kd.R_drew)); exact HO_12.out) (Kd.R_base ho0) hb); have n1_ := Aside0.mk (Kd.R_below (by (with_reducible repeat (first | apply Kd.R_alloc | apply Kd.R_drewN | apply Kd.R_drew)); exact HO_13.out) hb); have n2_ := Aside0.mk (Kd.R_below (by (with_reducible repeat (first | apply Kd.R_alloc | apply Kd.R_drewN | apply Kd.R_drew)); exact HO_964002.out) hb); have n3_ := Aside0.mk (Kd.R_below (by (with_reducible repeat (first | apply Kd.R_alloc | apply Kd.R_drewN | apply Kd.R_drew)); exact HO_977002.out) hb); have n4_ := Aside0.mk (Kd.R_lower (Kd.R_new' ho0 (Kd.R_lt (by (with_reducible repeat (first | apply Kd.R_alloc | apply Kd.R_drewN | apply Kd.R_drew)); exact HO_12.out))) (below_size (by repeat (first | (with_reducible first | exact HB.out | apply below_alloc | apply pw_below_drewN | apply below_drew1 | refine below_set ?_ GE963.out | refine below_set ?_ GE976.out) | exact HB.out)))); have n5_ := Aside0.mk (blk_below (g := gb963) (by (with_reducible repeat (first | refine blk_drewN ?_ _ | refine blk_drew ?_ | refine blk_alloc ?_ _)); exact BK963.out) hb); have n6_ := Aside0.mk (blk_below (g := gb976) (by (with_reducible repeat (first | refine blk_drewN ?_ _ | refine blk_drew ?_ | refine blk_alloc ?_ _)); exact BK976.out) hb); have n7_ := Aside0.mk (below_step (by repeat (first | (with_reducible first | exact HB.out | apply below_alloc | apply pw_below_drewN | apply below_drew1 | refine below_set ?_ GE963.out | refine below_set ?_ GE976.out) | exact HB.out)) hb); clear HO_12; clear HO_13; clear HO_964002; clear HO_977002; clear BK963; clear BK976; clear HB; have HO_12 := n0_; have HO_13 := n1_; have HO_964002 := n2_; have HO_977002 := n3_; have HO980 := n4_; have BK963 := n5_; have BK976 := n6_; have HB := n7_; clear n0_ n1_ n2_ n3_ n4_ n5_ n6_ n7_; (try clear hb); (try clear hb2); (try clear hk); (try clear hi); (try clear ho0); obtain ⟨Ao148, co148, eo148⟩ := Kd.R_slice HO980.out; subst eo148) | ((with_reducible refine gate_callee (f := 41) rfl ?_); refine goesL_ (some 65) rfl rfl Try.func41 (by kernel_rfl) rfl #[.slice Ao31 t964.length co31, .slice Ao148 t978.length co148] rfl (by (try simp only [List.map_toArray, List.map_cons, List.map_nil]); first | done | rfl | (simp only [List.length_drop, List.length_take]; rfl)) ?_; (with_reducible refine (laws_eqValS.calls kj17 _ _ t964 _ _ t978 false _ ?side1 ?side2 ?side3 ?side4 A50.out).mono ?_); (case side1 => repeat (first | exact (Kd.R_reads' HO_12.out).2.2 | (with_reducible refine Kd.C_alloc ?_ _) | (with_reducible refine Kd.C_drewN ?_ _) | (with_reducible refine Kd.C_drew ?_))); (case side2 => exact (Kd.R_reads' HO_12.out).2.1); (case side3 => repeat (first | exact (Kd.R_reads' HO980.out).2.2 | (with_reducible refine Kd.C_alloc ?_ _) | (with_reducible refine Kd.C_drewN ?_ _) | (with_reducible refine Kd.C_drew ?_))); (case side4 => exact (Kd.R_reads' HO980.out).2.1); rintro e w149 ⟨rfl, hb⟩; refine ⟨_, rfl, ?_⟩; have n0_ := Aside0.mk (Kd.R_below (by (with_reducible repeat (first | apply Kd.R_alloc | apply Kd.R_drewN | apply Kd.R_drew)); exact HO_12.out) hb); have n1_ := Aside0.mk (Kd.R_below (by (with_reducible repeat (first | apply Kd.R_alloc | apply Kd.R_drewN | apply Kd.R_drew)); exact HO_13.out) hb); have n2_ := Aside0.mk (Kd.R_below (by (with_reducible repeat (first | apply Kd.R_alloc | apply Kd.R_drewN | apply Kd.R_drew)); exact HO_964002.out) hb); have n3_ := Aside0.mk (Kd.R_below (by (with_reducible repeat (first | apply Kd.R_alloc | apply Kd.R_drewN | apply Kd.R_drew)); exact HO_977002.out) hb); have n4_ := Aside0.mk (Kd.R_below (by (with_reducible repeat (first | apply Kd.R_alloc | apply Kd.R_drewN | apply Kd.R_drew)); exact HO980.out) hb); have n5_ := Aside0.mk (blk_below (g := gb963) (by (with_reducible repeat (first | refine blk_drewN ?_ _ | refine blk_drew ?_ | refine blk_alloc ?_ _)); exact BK963.out) hb); have n6_ := Aside0.mk (blk_below (g := gb976) (by (with_reducible repeat (first | refine blk_drewN ?_ _ | refine blk_drew ?_ | refine blk_alloc ?_ _)); exact BK976.out) hb); have n7_ := Aside0.mk (below_step (by repeat (first | (with_reducible first | exact HB.out | apply below_alloc | apply pw_below_drewN | apply below_drew1 | refine below_set ?_ GE963.out | refine below_set ?_ GE976.out) | exact HB.out)) hb); clear HO_12; clear HO_13; clear HO_964002; clear HO_977002; clear HO980; clear BK963; clear BK976; clear HB; have HO_12 := n0_; have HO_13 := n1_; have HO_964002 := n2_; have HO_977002 := n3_; have HO980 := n4_; have BK963 := n5_; have BK976 := n6_; have HB := n7_; clear n0_ n1_ n2_ n3_ n4_ n5_ n6_ n7_; (try clear hb); (try clear hb2); (try clear hk); (try clear hi)))
              go_ret
              exact ⟨by first | rfl | (simp [errW_none, errW_some] <;> rfl) | (simp [*, errW_none, errW_some] <;> rfl), by repeat (first | (with_reducible first | exact HB.out | apply below_alloc | apply pw_below_drewN | apply below_drew1 | refine below_set ?_ GE963.out | refine below_set ?_ GE976.out) | exact HB.out)⟩

theorem gatherQc_len (l : List S138) (votes : List S53) (r b : Int) : (gatherQc l votes r b).2.2.1.length ≤ l.length := by
  unfold gatherQc
  split
  · exact Nat.zero_le _
  · exact whoVoted_le _ _ _ _
theorem laws_FnExactGatherQc.is (x0 : List S159) (hw : (fun l : List S159 => l.length ≤ maxLen ∧ ∀ x ∈ l, w159 x) x0) (x1 : List S161) (hw1 : (fun l : List S161 => l.length ≤ maxLen ∧ ∀ x ∈ l, w161 x) x1) (r b : Int) : Ev (fun k => laws_FnExactGatherQc.f k x0 x1 r b) true := by
  have hm : maxLen = 9223372036854775807 := rfl
  unfold laws_FnExactGatherQc.f
  refine Ev.bind (laws_szValS.is hw (by omega) (by omega)) (Ev.cond (fun _ => Ev.now _) (fun hc => ?_))
  have hc' := mt (szR_lt (by omega)).2 hc
  have hn0 := sums_nn hold159.nn x0
  have hn1 := sums_nn hold161.nn x1
  have hs : x0.length ≤ 1048576 := by omega
  refine Ev.bind (laws_szVoteS.is hw1 (by omega) (szR_up (by omega) (by omega))) (Ev.cond (fun _ => Ev.now _) (fun hd => ?_))
  have hd' := mt (szR_lt (by omega)).2 hd
  have hs1 : x1.length ≤ 1048576 := by have := szR_up (h := (x0.length : Int) + sums hold159 x0) (left := 1048576) (by omega) (by omega); omega
  have hl : (x0.map c159).length ≤ 1048576 := by rw [List.length_map]; omega
  have hl1 : (x1.map c161).length ≤ 1048576 := by rw [List.length_map]; omega
  have hv : ∀ v ∈ x0.map c159, v.f0.size ≤ maxLen := fun v hv => by
    obtain ⟨z, hz, rfl⟩ := List.mem_map.1 hv
    exact (hw.2 z hz).1
  have S := spec_GatherQc.is (r := r) (b := b) hl (show (x1.map c161).length ≤ maxLen by omega) hv
  have I := impl_GatherQc.is (r := r) (b := b) hl (show (x1.map c161).length ≤ maxLen by omega) hv
  have hlen := gatherQc_len (x0.map c159) (x1.map c161) r b
  have T0 := laws_toValS.is hs
  have T1 := laws_toVoteS.is hs1
  generalize x0.map c159 = y0 at *
  generalize x1.map c161 = y1 at *
  generalize gatherQc y0 y1 r b = g at *
  obtain ⟨q0, q1, q2, ok⟩ := g
  dsimp only at hlen
  have EQ := laws_eqQc.refl (x := ⟨q0, q1, q2⟩) (show q2.length ≤ 9223372036854775807 by omega)
  have no2 : ∀ (m : Int) (l' : List ByteArray), (∀ j : Nat, j < l'.length → Ev (fun k => laws_markText.f k (1 + (j : Int))) (l'.getD j ByteArray.empty)) → l'.length = q2.length → m = 1 + (l'.length : Int) → Ev (fun k => laws_FnExactGatherQc.j2 k m (ok != ok) q0 q1 l') true := fun m l' h hq hmm => by
    refine Ev.up ?_
    simp only [laws_FnExactGatherQc.j2, laws_heldQc.f]
    refine Ev.no (by simp) (Ev.bind (Ev.bind (laws_heldStringS.ex (by omega) (by omega) (by omega) h) (Ev.no (by omega) (Ev.now _))) (Ev.no (by omega) (Ev.yes hmm.symm (Ev.now _))))
  refine Ev.bind T0 (Ev.bind T1 (Ev.bind S (Ev.bind T0 (Ev.bind T1 (Ev.bind I (Ev.bind EQ (Ev.yes rfl ?_)))))))
  refine Ev.up ?_
  simp only [laws_FnExactGatherQc.j0]
  refine Ev.no (by simp) (Ev.bind T0 (Ev.bind (laws_eqValS.refl (by omega)) (Ev.yes rfl (Ev.bind T1 (Ev.bind (laws_eqVoteS.refl (by omega)) (Ev.yes rfl ?_))))))
  obtain ⟨m0, e0⟩ := laws_markValS.ex (l := y0) (n := 1) hl (by omega) (by omega)
  obtain ⟨m1, e1⟩ := laws_markVoteS.ex (l := y1) (n := 1 + 2 * (y0.length : Int)) hl1 (by omega) (by omega)
  refine Ev.bind e0 (Ev.bind e1 (Ev.no (by show ¬ (1 + 2 * (y0.length : Int) + 3 * (y1.length : Int) < 0); omega) (Ev.bind EQ (Ev.yes rfl ?_))))
  refine Ev.up ?_
  simp only [laws_FnExactGatherQc.j1, laws_markQc.f, laws_heldQc.f]
  obtain ⟨l', e2, hl', h'⟩ := laws_markStringS.ex (l := q2) (n := 1) (by omega) (by omega) (by omega)
  rw [← hl'] at e2 h'
  have hH := laws_heldStringS.ex (l := l') (n := 1) (by omega) (by omega) (by omega) h'
  refine Ev.no (by simp) (Ev.bind (Ev.bind e2 (Ev.now _)) (Ev.bind (Ev.bind hH (Ev.no (by omega) (Ev.now _))) (Ev.no (by omega) (Ev.yes rfl (Ev.bind T0 (Ev.bind T1 (Ev.bind I (Ev.bind EQ (Ev.yes rfl ?_)))))))))
  exact no2 _ l' h' hl' rfl
theorem laws_FnExactGatherQc.does {w : World} (x0 : List S159) (hw : (fun l : List S159 => l.length ≤ maxLen ∧ ∀ x ∈ l, w159 x) x0) {B : Option Addr} {c : Nat} (hr : Kd.C k159 w B x0.length x0) (hc : x0.length ≤ c)
    (x1 : List S161) (hw1 : (fun l : List S161 => l.length ≤ maxLen ∧ ∀ x ∈ l, w161 x) x1) {B1 : Option Addr} {c1 : Nat} (hr1 : Kd.C k161 w B1 x1.length x1) (hc1 : x1.length ≤ c1) (x2 : Int) (_ : (Lit.int .i64 x2).wf = true) (x3 : Int) (_ : (Lit.int .i64 x3).wf = true) :
    Calls Try.prog 9 #[.slice B x0.length c, .slice B1 x1.length c1, .int .i64 x2, .int .i64 x3] w fun e w' => e = .returned (.bool true) ∧ Below w.heap.size w w' := by
  obtain ⟨k, h⟩ := (laws_FnExactGatherQc.is x0 hw x1 hw1 x2 x3).rounds
  exact laws_FnExactGatherQc.calls k _ _ _ _ _ _ _ _ _ w hr hc hr1 hc1 h

end Go.Proofs.Ytadkhkpchankjaa.F
