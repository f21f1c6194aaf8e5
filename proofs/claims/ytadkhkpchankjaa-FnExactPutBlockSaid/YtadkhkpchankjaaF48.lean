/-
Functions of the program, what they come to, and that Go comes to just that: laws_eqQc, laws_markQc.
Conditions: those that each theorem names.
-/
import Derived.Test.YtadkhkpchankjaaFAbs
import Derived.Test.YtadkhkpchankjaaF47
import Derived.Test.YtadkhkpchankjaaWApart
import Derived.Test.YtadkhkpchankjaaWKept
import Derived.Test.YtadkhkpchankjaaWMore
import Derived.Test.YtadkhkpchankjaaMark
import Derived.Test.YtadkhkpchankjaaFam
set_option linter.unusedVariables false
set_option linter.unusedSimpArgs false
namespace Go.Proofs.Ytadkhkpchankjaa.F
open Go.RowKit Go.Proofs.YtadkhkpchankjaaW.PrintWords Go.Proofs.YtadkhkpchankjaaW.PrintLast Go.Proofs.Ytadkhkpchankjaa.Base Go.Proofs.Ytadkhkpchankjaa.BW
open Go.Proofs.Ytadkhkpchankjaa.Mark
open Go.Proofs.Ytadkhkpchankjaa.FamW
open Go.Proofs.YtadkhkpchankjaaW.PrintMore
attribute [local go_sem] max2_int min2_int max_two min_two max_three min_three max_four min_four   -- for this text's walks alone

/-! ### laws_eqQc: printed by compact.py -/
def l49 (x : S49) : Prop := (fun l : List ByteArray => l.length ≤ 9223372036854775807) x.f2
set_option maxHeartbeats 2000000 in
set_option maxRecDepth 100000 in
theorem laws_eqQc.same {x : S49} (hl : l49 x) {cs ds : List Value} {w : World} (hK : k49.K w x cs) (hL : k49.K w x ds) :
    Calls Try.prog 50 #[.agg cs.toArray, .agg ds.toArray] w fun e w' => e = .returned (.bool true) ∧ Below w.heap.size w w' := by
  obtain ⟨A2, a2, rfl, l2, g2⟩ := k49_open hK
  obtain ⟨D2, d2, rfl, m2, n2⟩ := k49_open hL
  have E2 := Aside0.mk (fun (W : World) (hb : Below w.heap.size w W) => laws_eqStringS.same (w := W) (hl) (Kd.C_below g2 hb) l2 (Kd.C_below n2 hb) m2)
  clear hl hK hL l2 g2 m2 n2
  go_enter Try.func50, Try.ntmps50
  go_wp2_with fail
  refine (E2.out _ (atop (atop (Below.refl _ _)))).mono ?_
  rintro _ W1 ⟨rfl, hb⟩
  have BX := Aside0.mk (boxA hb)
  have BY := Aside0.mk (boxB hb)
  have HB := Aside0.mk (off1 (off1 hb))
  clear hb E2
  obtain ⟨b0, b1, b2⟩ := cells3 BX.out
  obtain ⟨y0, y1, y2⟩ := cells3 BY.out
  go_wp2
  go_ret
  exact ⟨rfl, HB.out⟩

/-! ### laws_markQc: function 53 -/
def laws_markQc.f (k : Nat) (a0_0 : Int) (a0_1 : Int) (l0_2 : List ByteArray) (a1 : Int) : Option (Int × List ByteArray) := (laws_markStringS.f k l0_2 a1).bind fun bt943 => (some (bt943.1, bt943.2))
theorem laws_markQc.mono : ∀ a0 a1 a2 a3 k, LeO (laws_markQc.f k a0 a1 a2 a3) (laws_markQc.f (k + 1) a0 a1 a2 a3) := by
  intro a0 a1 a2 a3 k
  unfold laws_markQc.f
  repeat' first
      | (with_reducible exact laws_markStringS.mono _ _ _)
      | (with_reducible exact LeO.refl _)
      | (with_reducible exact LeO.none _)
      | (with_reducible refine LeO.ite ?_ ?_)
      | (with_reducible refine LeO.bind ?_ (fun _ => ?_))
      | exact laws_markStringS.mono _ _ _
      | exact LeO.none _
      | refine LeO.ite ?_ ?_
      | refine LeO.bind ?_ (fun _ => ?_)
set_option maxHeartbeats 8000000 in
set_option maxRecDepth 100000 in
theorem laws_markQc.calls (k : Nat) (a0_0 : Int) (a0_1 : Int) (P0_2_ : Nat → Prop) (u9000_ : Value) (l0_2 : List ByteArray) (a1 : Int) (r1 : Int) (r2 : List ByteArray) (w0 w : World) (hB : Below w0.heap.size w0 w) (ho0_2 : Kd.R Kd.string 9 w w0.heap.size P0_2_ u9000_ l0_2) (h : laws_markQc.f k a0_0 a0_1 l0_2 a1 = some (r1, r2)) :
    Calls Try.prog 53 #[.agg #[.int .i64 a0_0, .int .i64 a0_1, u9000_], .int .i64 a1] w fun e w' => e = .returned (.int .i64 r1) ∧ Kd.R Kd.string 9 w' w0.heap.size (fun k_ => (P0_2_ k_ ∨ w.heap.size ≤ k_)) u9000_ r2 ∧ Below w0.heap.size w0 w' ∧ Kept w w' (fun k_ => P0_2_ k_) := by
  have hu49 := Try.underlying49
  have HO0_2 := Aside0.mk (show Kd.R Kd.string 9 w w0.heap.size (fun k_ => (P0_2_ k_ ∨ w.heap.size ≤ k_)) u9000_ l0_2 from Kd.R_mono ho0_2 (fun k_ hk => (.inl hk)))
  have HK := Aside0.mk (Kept.refl w (fun k_ => P0_2_ k_))
  have HW0 := Aside0.mk hB.size
  have HB := Aside0.mk hB
  clear hB
  have H : ((laws_markStringS.f k l0_2 a1).bind fun bt943 => (some (bt943.1, bt943.2))) = some (r1, r2) := h
  clear h
  replace H := Option.bind_eq_some_iff.mp H
  obtain ⟨⟨t943, t944⟩, A30, H⟩ := H
  replace H : (some (t943, t944)) = some (r1, r2) := H
  have A3 := Aside0.mk A30
  clear A30
  simp only [Option.some.injEq, Prod.mk.injEq] at H
  obtain ⟨rfl, rfl⟩ := H
  obtain ⟨Ao4, co4, eo4⟩ := Kd.R_slice HO0_2.out
  subst eo4
  go_enter Try.func53, Try.ntmps53
  go_wp2_with (first | ((with_reducible refine gate_dst (N := 2) rfl ?_); refine box_event ?hg (N := 2) ?hd (cs := #[.int .i64 a0_0, .int .i64 a0_1, .slice Ao4 l0_2.length co4]) (t := 49) ?hr ?_; (case hd => rfl); (case hg => rfl); (case hr => first | (go_simp; done) | (go_simp; rfl)); intro gb942 hg w5 hbox hb; have n0_ := Aside0.mk (Kd.R_below (by (with_reducible repeat (first | apply Kd.R_alloc | apply Kd.R_drewN | apply Kd.R_drew)); exact HO0_2.out) hb); have n1_ := Aside0.mk (Kept.below (S := (fun k_ => P0_2_ k_)) (by repeat (first | (with_reducible first | exact HK.out | apply Kept.alloc | apply Kept.drewN | apply Kept.drew) | exact HK.out)) hb); have n2_ := Aside0.mk (below_step (by repeat (first | (with_reducible first | exact HB.out | apply below_alloc | apply pw_below_drewN | apply below_drew1) | exact HB.out)) hb); have n3_ := Aside0.mk (hbox); have n4_ := Aside0.mk ((by rw [hg]; exact (by first | exact HK.out.1 | exact (show Kept w _ (fun k_ => P0_2_ k_) from by repeat (first | (with_reducible first | exact HK.out | apply Kept.alloc | apply Kept.drewN | apply Kept.drew) | exact HK.out)).1) : w.heap.size ≤ gb942)); have n5_ := Aside0.mk ((by rw [hg]; exact (below_size (by repeat (first | (with_reducible first | exact HB.out | apply below_alloc | apply pw_below_drewN | apply below_drew1) | exact HB.out))) : w0.heap.size ≤ gb942)); clear HO0_2; clear HK; clear HB; have HO0_2 := n0_; have HK := n1_; have HB := n2_; have BK942 := n3_; have GW942 := n4_; have GE942 := n5_; clear n0_ n1_ n2_ n3_ n4_ n5_; clear hb hbox hg; obtain ⟨hcz6_0, hcz6_1, hcz6_2⟩ := cells3 BK942.out; obtain ⟨hfz6_0, hfz6_1, hfz6_2⟩ := frozens3 BK942.out) | ((with_reducible refine gate_callee (f := 130) rfl ?_); refine goesL_ (some 8) rfl rfl Try.func130 (by kernel_rfl) rfl #[.slice Ao4 l0_2.length co4, .int .i64 a1] rfl (by (try simp only [List.map_toArray, List.map_cons, List.map_nil]); first | done | rfl | (simp only [List.length_drop, List.length_take]; rfl)) ?_; (with_reducible refine (laws_markStringS.calls k (fun k_ => some k_ = (.slice Ao4 l0_2.length co4 : Value).ownBlock) (.slice Ao4 l0_2.length co4) l0_2 a1 t943 t944 w0 _ ?side1 ?side2 A3.out).mono ?_); (case side1 => repeat (first | (with_reducible first | exact HB.out | apply below_alloc | apply pw_below_drewN | apply below_drew1 | refine below_set ?_ GE942.out) | exact HB.out)); (case side2 => exact Kd.R_tight rfl HO0_2.out); rintro e w7 ⟨rfl, hy0, hb, hkp⟩; refine ⟨_, rfl, ?_⟩; have n0_ := Aside0.mk (Kd.R_reok rfl hy0 (fun k_ e_ => HO0_2.out.1 k_ e_)); have n1_ := Aside0.mk (blk_kept (by (with_reducible repeat (first | refine blk_drewN ?_ _ | refine blk_drew ?_ | refine blk_alloc ?_ _)); exact BK942.out) hkp (fun hs_ => (fun e_ => (Kd.R_ne HO0_2.out BK942.out (by decide)) e_) hs_)); have n2_ := Aside0.mk (Kept.then_ (S := (fun k_ => P0_2_ k_)) (by repeat (first | (with_reducible first | exact HK.out | apply Kept.alloc | apply Kept.drewN | apply Kept.drew | refine Kept.setCell ?_ (.inr GW942.out) _) | exact HK.out)) hkp (fun k_ hs_ => (fun e_ => (HO0_2.out.1 k_ e_.symm)) hs_)); have n3_ := Aside0.mk (hb); clear HO0_2; clear BK942; clear HK; clear HB; have HO0_2 := n0_; have BK942 := n1_; have HK := n2_; have HB := n3_; clear n0_ n1_ n2_ n3_; (try clear hb); (try clear hkp); (try clear hy0)))
  go_ret
  exact ⟨by first | rfl | (simp [errW_none, errW_some] <;> rfl) | (simp [*, errW_none, errW_some] <;> rfl), by (with_reducible repeat (first | apply Kd.R_alloc | apply Kd.R_drewN | apply Kd.R_drew)); exact HO0_2.out, by repeat (first | (with_reducible first | exact HB.out | apply below_alloc | apply pw_below_drewN | apply below_drew1 | refine below_set ?_ GE942.out) | exact HB.out), by repeat (first | (with_reducible first | exact HK.out | apply Kept.alloc | apply Kept.drewN | apply Kept.drew | refine Kept.setCell ?_ (.inr GW942.out) _) | exact HK.out)⟩

set_option maxHeartbeats 1000000 in
set_option maxRecDepth 100000 in
theorem laws_markQc.marks {B : Nat} {a w : World} {P : Nat → Prop} {H : Nat → Nat → Prop} {v0 v1 : Value} {A2 : Option Addr} {n2 c2 : Nat} {x : Int} (R2 : Rw w B P H 9 1 (fun _ => True) A2 n2) (N2 : n2 ≤ 1048576) (h0 : 0 ≤ x) (h1 : x ≤ 10000000000000) (e0 : Mk B a w P H) :
    Calls Try.prog 53 #[.agg #[v0, v1, .slice A2 n2 c2], .int .i64 x] e0.now fun r W => ∃ m : Int, r = .returned (.int .i64 m) ∧ (∃ e : Mk B a w P H, W = e.now) ∧ 0 ≤ m ∧ m ≤ x + (1 * (n2 : Int)) := by
  have HX := Aside0.mk (And.intro h0 h1)
  clear h0 h1
  have Q2 := Aside0.mk R2
  clear R2
  go_enter Try.func53, Try.ntmps53
  go_wp2_with fail
  refine (laws_markStringS.marks (Q2.out.boxed e0 _) N2 (by have := HX.out; omega) (by have := HX.out; omega) (e0.box _)).mono ?_
  rintro _ _ ⟨m0, rfl, ⟨e1, rfl⟩, hm0, hm1⟩
  have M0 := Aside0.mk (And.intro hm0 hm1)
  clear hm0 hm1
  obtain ⟨e', he⟩ := Mk.unbox e1
  have HE := Aside0.mk he
  clear he
  go_wp2
  go_ret
  exact ⟨m0, rfl, ⟨e', HE.out⟩, by have := M0.out; omega, by have := M0.out; omega⟩
theorem laws_markQc.keep {x : S49} {ds : List Value} {a w : World} {ok : Nat → Prop} (hM : k49.M w a.heap.size ok x ds) (hb : Below a.heap.size a w) (hf : x.f2.length ≤ 1048576) {n : Int} (h0 : 0 ≤ n) (h1 : n ≤ 10000000000000) :
    Calls Try.prog 53 #[.agg ds.toArray, .int .i64 n] w fun r W => ∃ m : Int, r = .returned (.int .i64 m) ∧ 0 ≤ m ∧ m ≤ n + 1048576 ∧ Below a.heap.size a W ∧ Kept w W ok := by
  obtain ⟨v2, rfl, g2⟩ := k49_openM hM
  obtain ⟨A2, c2, rfl⟩ := Kd.R_slice g2
  have f2 := hf
  refine (laws_markQc.marks (Rw.of_R (B := a.heap.size) (P := ok) (H := fun _ _ => False) (F := fun _ => True) (⟨#[]⟩ : ByteArray) g2 (by decide) (fun _ h => h) (Nat.le_refl _) (fun _ _ _ _ _ _ _ h => h)) f2 h0 h1 (Mk.start (Nat.le_refl _) (fun _ _ h => h.elim) hb)).mono ?_
  rintro _ W ⟨m, rfl, ⟨e, rfl⟩, hm0, hm1⟩
  exact ⟨m, rfl, hm0, by omega, e.ok, e.kept⟩

end Go.Proofs.Ytadkhkpchankjaa.F
