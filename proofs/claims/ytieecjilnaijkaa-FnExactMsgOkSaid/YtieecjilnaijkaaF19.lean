/-
Functions of the program, what they come to, and that Go comes to just that: laws_szQc, laws_toQc, laws_eqQc.
Conditions: those that each theorem names.
-/
import Derived.Test.YtieecjilnaijkaaFAbs
import Derived.Test.YtieecjilnaijkaaF7
import Derived.Test.YtieecjilnaijkaaFam
set_option linter.unusedVariables false
set_option linter.unusedSimpArgs false
namespace Go.Proofs.Ytieecjilnaijkaa.F
open Go.RowKit Go.Proofs.YtieecjilnaijkaaW.PrintWords Go.Proofs.YtieecjilnaijkaaW.PrintLast Go.Proofs.Ytieecjilnaijkaa.Base Go.Proofs.Ytieecjilnaijkaa.BW
open Go.Proofs.Ytieecjilnaijkaa.FamW

/-! ### laws_szQc: printed by compact.py -/
/-- How much a value of struct type 54 holds. -/
def hold54 (x : S54) : Int := ((x.f2.length : Int) + sums (fun x : ByteArray => (x.size : Int)) x.f2) + (0)
theorem hold54.nn (x : S54) : 0 ≤ hold54 x := by
  unfold hold54
  have n2 := (show 0 ≤ ((x.f2.length : Int) + sums (fun x : ByteArray => (x.size : Int)) x.f2) from (Int.add_nonneg (Int.natCast_nonneg _) (sums_nn (fun x => Int.natCast_nonneg _) x.f2)))
  omega
set_option maxHeartbeats 2000000 in
set_option maxRecDepth 100000 in
theorem laws_szQc.does {x : S54} {left : Int} (hw : w54 x) (h0 : 0 ≤ left) (h1 : left ≤ 1048576) {cs : List Value} {w : World} (hK : k54.K w x cs) :
    Calls Try.prog 39 #[.agg cs.toArray, .int .i64 left] w fun e w' => e = .returned (.int .i64 (szR (hold54 x) left)) ∧ Below w.heap.size w w' := by
  have HK := Aside0.mk hK
  obtain ⟨A2, a2, rfl, l2, g2⟩ := k54_open hK
  obtain ⟨r, hR⟩ : ∃ r, szR (hold54 x) left = r := ⟨_, rfl⟩
  rw [hR]
  unfold hold54 at hR
  have n2 : 0 ≤ ((x.f2.length : Int) + sums (fun x : ByteArray => (x.size : Int)) x.f2) := (Int.add_nonneg (Int.natCast_nonneg _) (sums_nn (fun x => Int.natCast_nonneg _) x.f2))
  have E2 := Aside0.mk (fun (W : World) (s : Int) (hb : Below w.heap.size w W) (q0 : 0 ≤ s) (q1 : s ≤ 1048576) => laws_szStringS.does (w := W) hw.2.2 q0 q1 (Kd.C_below g2 hb) l2)
  generalize ((x.f2.length : Int) + sums (fun x : ByteArray => (x.size : Int)) x.f2) = m2 at hR n2 E2
  clear hw hK l2 g2
  have HR := Aside0.mk hR
  clear hR
  have HB := Aside0.mk (Below.refl w.heap.size w)
  go_enter Try.func39, Try.ntmps39
  by_cases d2 : m2 ≤ left
  rotate_left
  · have H1 : Aside0 (r = -1) := ⟨HR.out ▸ szR_no (by omega)⟩
    have E := Aside0.mk (fun (W : World) hb => E2.out W (left) hb (by omega) (by omega))
    rw [szR_no (by omega)] at E
    clear d2 HR
    go_wp2_with fail
    refine (E.out _ (atop HB.out)).mono ?_
    rintro _ W1 ⟨rfl, hb⟩
    replace HB := Aside0.mk (then_ HB.out (off1 hb))
    clear hb
    go_wp2
    go_ret
    exact ⟨by obtain rfl := H1.out; rfl, HB.out⟩
  have F2 := Aside0.mk (fun (W : World) hb => E2.out W (left) hb (by omega) (by omega))
  rw [szR_ge d2] at F2
  replace HR := Aside0.mk ((sz_part d2).symm.trans HR.out)
  have c_2 : decide (left - m2 < 0) = false := decide_eq_false (by omega)
  have p_2 : 0 ≤ left - m2 := by omega
  have q_2 : left - m2 ≤ 1048576 := by omega
  clear d2 E2
  go_wp2_with fail
  refine (F2.out _ (atop HB.out)).mono ?_
  rintro _ W2 ⟨rfl, hb⟩
  have BX := Aside0.mk (box hb)
  replace HB := Aside0.mk (then_ HB.out (off1 hb))
  clear hb F2
  have H1 := Aside0.mk (HR.out.symm.trans (szR_zero (by omega)))
  obtain ⟨b0, b1, b2⟩ := cells3 BX.out
  clear HR
  go_wp2
  go_ret
  exact ⟨by obtain rfl := H1.out; rfl, HB.out⟩

/-! ### laws_toQc: printed by compact.py -/
def c54 (x : S54) : S57 := ⟨x.f0, x.f1, x.f2⟩
def s54 (x : S54) : Prop := (fun l : List ByteArray => l.length ≤ 1048576) x.f2
set_option maxHeartbeats 2000000 in
set_option maxRecDepth 100000 in
theorem laws_toQc.make {x : S54} (hs : s54 x) {cs : List Value} {w : World} (hK : k54.K w x cs) :
    Calls Try.prog 41 #[.agg cs.toArray] w fun e w' => ∃ ds : List Value, e = .returned (.agg ds.toArray) ∧ k57.M w' w.heap.size (fun _ => True) (c54 x) ds ∧ Below w.heap.size w w' := by
  obtain ⟨A2, a2, rfl, l2, g2⟩ := k54_open hK
  have E2 := Aside0.mk (fun (W : World) (hb : Below w.heap.size w W) => laws_toStringS.make (w := W) hs (Kd.C_below g2 hb) l2)
  clear hs hK l2 g2
  go_enter Try.func41, Try.ntmps41
  go_wp2_with fail
  refine (E2.out _ (atop (atop (atop (Below.refl _ _))))).mono ?_
  rintro _ V1 ⟨v2, rfl, hR2, hb⟩
  obtain ⟨B2, d2, rfl⟩ := Kd.R_slice hR2
  have BX := Aside0.mk (blk_below new1 hb)
  have BR := Aside0.mk (blk_below new2 hb)
  have BO := Aside0.mk (blk_below new3 hb)
  have HB := Aside0.mk (off1 (off1 (off1 hb)))
  have G2 := Aside0.mk (Kd.R_mono (ok' := fun k => w.heap.size + 3 ≤ k) (Kd.R_lower (base' := w.heap.size) (Kd.R_bound hR2) (by rw [size3]; omega)) (fun k hk => by have h := hk.2.1; rw [size3] at h; exact h))
  have hz0 : w.heap.size + 3 ≤ V1.heap.size := by have h := hb.size; rw [size3] at h; exact h
  clear hb E2 hR2
  go_wp2_with (first | ((with_reducible refine gate_ (.store 30 (.tmp 13) (.tmp 12)) rfl ?_); refine put rfl rfl 30 _ _ rfl (.slice B2 (c54 x).f2.length d2) [.slice B2 (c54 x).f2.length d2] rfl rfl rfl (by kernel_rfl) rfl BO.out (Nat.le_of_ble_eq_true rfl) ?_; intro V2 q1 q2; simp only [putSeg, List.setIfInBounds_toArray, List.set_cons_zero, List.set_cons_succ] at q1; replace BO := Aside0.mk q1; replace BR := Aside0.mk (blk_on BR.out q2 (by omega)); replace BX := Aside0.mk (blk_on BX.out q2 (by omega)); replace G2 := Aside0.mk (Kd.R_grown G2.out q2 (fun k hk => by simp only [ne_eq, Option.some.injEq]; omega)); replace HB := Aside0.mk (on HB.out q2 (by omega)); replace hz0 : w.heap.size + 3 ≤ V2.heap.size := Nat.le_trans hz0 q2.size; clear q1 q2; obtain ⟨b0, b1, b2⟩ := cells3 BX.out) | ((with_reducible refine gate_ (.load 57 (.tmp 3)) rfl ?_); refine wpList_load_row rfl 57 _ rfl _ rfl 57 #[.int .i64 (c54 x).f0, .int .i64 (c54 x).f1, .slice B2 (c54 x).f2.length d2] (0, 0) _ BO.out Try.underlying57 rfl (by kernel_rfl) ?_) | ((with_reducible refine gate_ (.store 57 (.tmp 2) (.tmp 14)) rfl ?_); refine put rfl rfl 57 _ _ rfl (.agg #[.int .i64 (c54 x).f0, .int .i64 (c54 x).f1, .slice B2 (c54 x).f2.length d2]) [.int .i64 (c54 x).f0, .int .i64 (c54 x).f1, .slice B2 (c54 x).f2.length d2] rfl rfl rfl (by kernel_rfl) rfl BR.out (Nat.le_of_ble_eq_true rfl) ?_; intro V3 q1 q2; simp only [putSeg, List.setIfInBounds_toArray, List.set_cons_zero, List.set_cons_succ] at q1; replace BR := Aside0.mk q1; replace BO := Aside0.mk (blk_on BO.out q2 (by omega)); replace G2 := Aside0.mk (Kd.R_grown G2.out q2 (fun k hk => by simp only [ne_eq, Option.some.injEq]; omega)); replace HB := Aside0.mk (on HB.out q2 (by omega)); clear q1 q2))
  refine bodyPost_ret (results_cell_row rfl _ _ _ 57 #[.int .i64 (c54 x).f0, .int .i64 (c54 x).f1, .slice B2 (c54 x).f2.length d2] (0, 0) _ rfl BR.out Try.underlying57 rfl (by kernel_rfl)) rfl ?_
  exact ⟨_, rfl, k57_mkM _ _ _ (c54 x) (Kd.R_mono G2.out (fun _ _ => trivial)), HB.out⟩

theorem small54 {x : S54} (h : hold54 x ≤ 1048576) : s54 x := by
  unfold hold54 at h
  have n2 : 0 ≤ ((x.f2.length : Int) + sums (fun x : ByteArray => (x.size : Int)) x.f2) := (Int.add_nonneg (Int.natCast_nonneg _) (sums_nn (fun x => Int.natCast_nonneg _) x.f2))
  unfold s54
  dsimp only
  exact (by have := sums_nn (h := fun x : ByteArray => (x.size : Int)) (fun x => Int.natCast_nonneg _) x.f2; omega)

/-! ### laws_eqQc: printed by compact.py -/
def l57 (x : S57) : Prop := (fun l : List ByteArray => l.length ≤ 9223372036854775807) x.f2
set_option maxHeartbeats 2000000 in
set_option maxRecDepth 100000 in
theorem laws_eqQc.same {x : S57} (hl : l57 x) {cs ds : List Value} {w : World} (hK : k57.K w x cs) (hL : k57.K w x ds) :
    Calls Try.prog 43 #[.agg cs.toArray, .agg ds.toArray] w fun e w' => e = .returned (.bool true) ∧ Below w.heap.size w w' := by
  obtain ⟨A2, a2, rfl, l2, g2⟩ := k57_open hK
  obtain ⟨D2, d2, rfl, m2, n2⟩ := k57_open hL
  have E2 := Aside0.mk (fun (W : World) (hb : Below w.heap.size w W) => laws_eqStringS.same (w := W) (hl) (Kd.C_below g2 hb) l2 (Kd.C_below n2 hb) m2)
  clear hl hK hL l2 g2 m2 n2
  go_enter Try.func43, Try.ntmps43
  go_wp2_with fail
  refine (E2.out _ (atop (atop (Below.refl _ _)))).mono ?_
  rintro _ W1 ⟨rfl, hb⟩
  have BX := Aside0.mk (boxA hb)
  have BY := Aside0.mk (boxB hb)
  have HB := Aside0.mk (off1 (off1 hb))
  clear hb E2
  obtain ⟨b0, b1, b2⟩ := cells3 BX.out
  obtain ⟨y0, y1, y2⟩ := cells3 BY.out
  go_wp2
  go_ret
  exact ⟨rfl, HB.out⟩

theorem long54 {x : S54} (h : s54 x) : l57 (c54 x) := by
  exact Nat.le_trans h (by decide)

end Go.Proofs.Ytieecjilnaijkaa.F
