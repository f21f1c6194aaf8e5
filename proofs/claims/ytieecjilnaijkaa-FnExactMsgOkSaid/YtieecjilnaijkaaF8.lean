/-
Functions of the program, what they come to, and that Go comes to just that: laws_szIntS, laws_szTc, laws_toIntS, laws_toTc, laws_eqIntS, laws_eqTc.
Conditions: those that each theorem names.
-/
import Derived.Test.YtieecjilnaijkaaFAbs
import Derived.Test.YtieecjilnaijkaaF7
import Derived.Test.YtieecjilnaijkaaFam
set_option linter.unusedVariables false
set_option linter.unusedSimpArgs false
namespace Go.Proofs.Ytieecjilnaijkaa.F
open Go.RowKit Go.Proofs.YtieecjilnaijkaaW.PrintWords Go.Proofs.YtieecjilnaijkaaW.PrintLast Go.Proofs.Ytieecjilnaijkaa.Base Go.Proofs.Ytieecjilnaijkaa.BW
open Go.Proofs.Ytieecjilnaijkaa.FamW

/-! ### laws_szIntS: printed by compact.py -/
set_option maxHeartbeats 1000000 in
set_option maxRecDepth 100000 in
theorem laws_szIntS.does {xs : List Int} {left : Int} (hw : (fun l : List Int => l.length ≤ maxLen ∧ ∀ x ∈ l, (fun n : Int => (Lit.int .i64 n).wf = true) x) xs) (h0 : 0 ≤ left) (h1 : left ≤ 1048576) {B : Option Addr} {c : Nat} {w : World} (hr : Kd.C (Kd.int .i64) w B xs.length xs) (hc : xs.length ≤ c) :
    Calls Try.prog 67 #[.slice B xs.length c, .int .i64 left] w fun e w' => e = .returned (.int .i64 (szR (xs.length : Int) left)) ∧ Below w.heap.size w w' := by
  have hlen : (xs.length : Int) ≤ 9223372036854775807 := by have h := hw.1; have : maxLen = 9223372036854775807 := rfl; omega
  obtain ⟨r, hR⟩ : ∃ r, szR (xs.length : Int) left = r := ⟨_, rfl⟩
  rw [hR]
  by_cases c0 : (xs.length : Int) ≤ left
  rotate_left
  · have H0 : r = -1 := hR ▸ szR_no (by omega)
    have c0' : decide (left - (xs.length : Int) < 0) = true := decide_eq_true (by omega)
    clear hw hr hc hR c0
    subst H0
    go_enter Try.func67, Try.ntmps67
    go_wp2
    go_ret
    exact ⟨rfl, Below.refl _ _⟩
  have c0' : decide (left - (xs.length : Int) < 0) = false := decide_eq_false (by omega)
  have H0 : r = left - (xs.length : Int) := hR ▸ szR_ge c0
  have H1 := Aside0.mk H0
  clear hw hr hc hR c0 H0
  go_enter Try.func67, Try.ntmps67
  go_wp2
  go_ret
  exact ⟨by obtain rfl := H1.out; rfl, Below.refl _ _⟩

/-! ### laws_szTc: printed by compact.py -/
/-- How much a value of struct type 33 holds. -/
def hold33 (x : S33) : Int := ((x.f1.length : Int) + sums (fun x : ByteArray => (x.size : Int)) x.f1) + ((x.f2.length : Int) + (0))
theorem hold33.nn (x : S33) : 0 ≤ hold33 x := by
  unfold hold33
  have n1 := (show 0 ≤ ((x.f1.length : Int) + sums (fun x : ByteArray => (x.size : Int)) x.f1) from (Int.add_nonneg (Int.natCast_nonneg _) (sums_nn (fun x => Int.natCast_nonneg _) x.f1)))
  have n2 := (show 0 ≤ (x.f2.length : Int) from (Int.natCast_nonneg _))
  omega
set_option maxHeartbeats 2000000 in
set_option maxRecDepth 100000 in
theorem laws_szTc.does {x : S33} {left : Int} (hw : w33 x) (h0 : 0 ≤ left) (h1 : left ≤ 1048576) {cs : List Value} {w : World} (hK : k33.K w x cs) :
    Calls Try.prog 22 #[.agg cs.toArray, .int .i64 left] w fun e w' => e = .returned (.int .i64 (szR (hold33 x) left)) ∧ Below w.heap.size w w' := by
  have HK := Aside0.mk hK
  obtain ⟨A1, a1, A2, a2, rfl, l1, g1, l2, g2⟩ := k33_open hK
  obtain ⟨r, hR⟩ : ∃ r, szR (hold33 x) left = r := ⟨_, rfl⟩
  rw [hR]
  unfold hold33 at hR
  have n1 : 0 ≤ ((x.f1.length : Int) + sums (fun x : ByteArray => (x.size : Int)) x.f1) := (Int.add_nonneg (Int.natCast_nonneg _) (sums_nn (fun x => Int.natCast_nonneg _) x.f1))
  have E1 := Aside0.mk (fun (W : World) (s : Int) (hb : Below w.heap.size w W) (q0 : 0 ≤ s) (q1 : s ≤ 1048576) => laws_szStringS.does (w := W) hw.2.1 q0 q1 (Kd.C_below g1 hb) l1)
  have n2 : 0 ≤ (x.f2.length : Int) := (Int.natCast_nonneg _)
  have E2 := Aside0.mk (fun (W : World) (s : Int) (hb : Below w.heap.size w W) (q0 : 0 ≤ s) (q1 : s ≤ 1048576) => laws_szIntS.does (w := W) hw.2.2 q0 q1 (Kd.C_below g2 hb) l2)
  generalize ((x.f1.length : Int) + sums (fun x : ByteArray => (x.size : Int)) x.f1) = m1 at hR n1 E1
  generalize (x.f2.length : Int) = m2 at hR n2 E2
  clear hw hK l1 g1 l2 g2
  have HR := Aside0.mk hR
  clear hR
  have HB := Aside0.mk (Below.refl w.heap.size w)
  go_enter Try.func22, Try.ntmps22
  by_cases d1 : m1 ≤ left
  rotate_left
  · have H1 : Aside0 (r = -1) := ⟨HR.out ▸ szR_no (by omega)⟩
    have E := Aside0.mk (fun (W : World) hb => E1.out W (left) hb (by omega) (by omega))
    rw [szR_no (by omega)] at E
    clear d1 HR
    go_wp2_with fail
    refine (E.out _ (atop HB.out)).mono ?_
    rintro _ W1 ⟨rfl, hb⟩
    replace HB := Aside0.mk (then_ HB.out (off1 hb))
    clear hb
    go_wp2
    go_ret
    exact ⟨by obtain rfl := H1.out; rfl, HB.out⟩
  have F1 := Aside0.mk (fun (W : World) hb => E1.out W (left) hb (by omega) (by omega))
  rw [szR_ge d1] at F1
  replace HR := Aside0.mk ((sz_part d1).symm.trans HR.out)
  have c_1 : decide (left - m1 < 0) = false := decide_eq_false (by omega)
  have p_1 : 0 ≤ left - m1 := by omega
  have q_1 : left - m1 ≤ 1048576 := by omega
  clear d1 E1
  go_wp2_with fail
  refine (F1.out _ (atop HB.out)).mono ?_
  rintro _ W1 ⟨rfl, hb⟩
  have BX := Aside0.mk (box hb)
  replace HB := Aside0.mk (then_ HB.out (off1 hb))
  clear hb F1
  by_cases d2 : m2 ≤ left - m1
  rotate_left
  · have H1 : Aside0 (r = -1) := ⟨HR.out ▸ szR_no (by omega)⟩
    have E := Aside0.mk (fun (W : World) hb => E2.out W (left - m1) hb (by omega) (by omega))
    rw [szR_no (by omega)] at E
    obtain ⟨b0, b1, b2⟩ := cells3 BX.out
    clear d2 HR
    go_wp2_with fail
    refine (E.out _ HB.out).mono ?_
    rintro _ W1 ⟨rfl, hb⟩
    replace HB := Aside0.mk (then_ HB.out hb)
    clear hb
    go_wp2
    go_ret
    exact ⟨by obtain rfl := H1.out; rfl, HB.out⟩
  have F2 := Aside0.mk (fun (W : World) hb => E2.out W (left - m1) hb (by omega) (by omega))
  rw [szR_ge d2] at F2
  obtain ⟨b0, b1, b2⟩ := cells3 BX.out
  replace HR := Aside0.mk ((sz_part d2).symm.trans HR.out)
  have c_2 : decide (left - m1 - m2 < 0) = false := decide_eq_false (by omega)
  have p_2 : 0 ≤ left - m1 - m2 := by omega
  have q_2 : left - m1 - m2 ≤ 1048576 := by omega
  clear d2 E2
  go_wp2_with fail
  refine (F2.out _ HB.out).mono ?_
  rintro _ W2 ⟨rfl, hb⟩
  replace BX := Aside0.mk (blk_below BX.out hb)
  replace HB := Aside0.mk (then_ HB.out hb)
  clear b0 b1 b2
  clear hb F2
  have H1 := Aside0.mk (HR.out.symm.trans (szR_zero (by omega)))
  obtain ⟨b0, b1, b2⟩ := cells3 BX.out
  clear HR
  go_wp2
  go_ret
  exact ⟨by obtain rfl := H1.out; rfl, HB.out⟩

/-! ### laws_toIntS: printed by compact.py -/
set_option maxHeartbeats 2000000 in
set_option maxRecDepth 100000 in
theorem laws_toIntS.make {xs : List Int} (hs : (fun l : List Int => l.length ≤ 1048576) xs) {B : Option Addr} {c : Nat} {w : World} (hr : Kd.C (Kd.int .i64) w B xs.length xs) (hc : xs.length ≤ c) :
    Calls Try.prog 68 #[.slice B xs.length c] w fun e w' => ∃ v, e = .returned v ∧ Kd.R (Kd.int .i64) 3 w' w.heap.size (fun _ => True) v xs ∧ Below w.heap.size w w' := by
  have hn : (xs.length : Int) ≤ 1048576 := by have := hs; omega
  have HR := Aside0.mk hr
  clear hr hs
  go_enter Try.func68, Try.ntmps68
  go_wp2_with (first | ((with_reducible refine gate_dst (N := 7) rfl ?_); refine Kd.R_make (Kd.int .i64) w.heap.size 3 rfl (N := 7) rfl 31 _ _ rfl (xs.length : Int) rfl rfl Try.underlying31 (.int .i64 0) 8 info3 rfl (by decide) (by decide) (0 : Int) (ok := fun _ => True) (okp := fun _ => True) rfl (fun _ hk => hk) trivial (by omega) (by omega) (Below.refl _ _) (Nat.le_refl _) ?_; intro v w1 ho hb _ _; have HO := Aside0.mk (Eq.mp (congrArg (fun l => Kd.R (Kd.int .i64) 3 w1 w.heap.size (fun _ => True) v l) (upto_zero (f := (fun x => x)) (z := (0 : Int)) (xs := xs))) ho); have HB := Aside0.mk hb; clear ho hb))
  go_loopg [4] xs.length (fun g v4 w' => ∃ i : Int, v4 = .int .i64 i ∧ 0 ≤ i ∧ i ≤ xs.length ∧ Aside0 ((xs.length : Int) - i ≤ g) ∧ Aside0 (Kd.R (Kd.int .i64) 3 w' w.heap.size (fun _ => True) v (upto (fun x => x) (0 : Int) xs i)) ∧ Aside0 (Below w.heap.size w w'))
  case atStart => exact ⟨0, rfl, Int.le_refl _, by omega, ⟨by omega⟩, HO, HB⟩
  case round =>
    clear HO HB
    obtain ⟨i, rfl, hi0, hi1, HG, HO, HB⟩ := hrel
    by_cases c1 : i < (xs.length : Int)
    rotate_left
    · have H1 := HO.out
      rw [upto_all (by omega), List.map_id'] at H1
      have H2 := Aside0.mk H1
      clear H1
      go_wp2
      go_ret
      exact ⟨_, rfl, H2.out, HB.out⟩
    obtain ⟨gr, cap, hv, _, hlt, _⟩ := Kd.R_form HO.out (by rw [upto_len hi1]; omega)
    rw [upto_len hi1] at hv
    cases hv
    have HL := Aside0.mk hlt
    clear hlt
    obtain ⟨ad, e1, h0⟩ := Kd.at_int (Kd.C_below HR.out HB.out) i hi0 c1
    cases e1
    obtain ⟨y, hy⟩ : ∃ y, rd xs i = y := ⟨_, rfl⟩
    rw [hy] at h0
    have HY := Aside0.mk hy
    clear hy
    obtain ⟨c_, hcl, _, hcc, _⟩ := Kd.R_elem HO.out (0 : Int) i hi0 c1
    go_wp2_with (first | ((with_reducible refine gate_ (.store 3 (.tmp 20) (.tmp 19)) rfl ?_); refine Kd.R_store (Kd.int .i64) (w0 := w) w.heap.size rfl rfl 3 _ _ rfl 3 i 0 (upto (fun x => x) (0 : Int) xs i) y _ [.int .i64 y] c_ (fun _ => True) (fun k => gr < k) rfl (by show i.toNat = i.toNat * 1 + 0; omega) rfl rfl (by kernel_rfl) (fun q hq => by rw [List.mem_singleton.1 hq]; rfl) HO.out hi0 c1 hcl hcc (by show 0 + 1 ≤ 1; omega) (by rw [List.take_zero, List.nil_append, List.drop_eq_nil_of_le (by rw [hcl]; exact Nat.le_refl _), List.append_nil]; rfl) (fun k hk => ⟨trivial, by omega⟩) HB.out ?_; intro w3 hr3 hb3 _; have HO3 := Aside0.mk (Eq.mp (congrArg (fun l => Kd.R (Kd.int .i64) 3 w3 w.heap.size (fun _ => True) _ l) (upto_set (f := (fun x => x)) (z := (0 : Int)) hi0 c1 (0 : Int) HY.out)) hr3); have HB3 := Aside0.mk hb3; clear hr3 hb3 hcl hcc))
    go_roundg (xs.length - i.toNat - 1)
    case measure => have := HG.out; omega
    case rel => exact ⟨i + 1, rfl, by omega, by omega, ⟨by omega⟩, HO3, HB3⟩

/-! ### laws_toTc: printed by compact.py -/
def c33 (x : S33) : S36 := ⟨x.f0, x.f1, x.f2⟩
def s33 (x : S33) : Prop := (fun l : List ByteArray => l.length ≤ 1048576) x.f1 ∧ (fun l : List Int => l.length ≤ 1048576) x.f2
set_option maxHeartbeats 2000000 in
set_option maxRecDepth 100000 in
theorem laws_toTc.make {x : S33} (hs : s33 x) {cs : List Value} {w : World} (hK : k33.K w x cs) :
    Calls Try.prog 24 #[.agg cs.toArray] w fun e w' => ∃ ds : List Value, e = .returned (.agg ds.toArray) ∧ k36.M w' w.heap.size (fun _ => True) (c33 x) ds ∧ Below w.heap.size w w' := by
  obtain ⟨A1, a1, A2, a2, rfl, l1, g1, l2, g2⟩ := k33_open hK
  have E1 := Aside0.mk (fun (W : World) (hb : Below w.heap.size w W) => laws_toStringS.make (w := W) hs.1 (Kd.C_below g1 hb) l1)
  have E2 := Aside0.mk (fun (W : World) (hb : Below w.heap.size w W) => laws_toIntS.make (w := W) hs.2 (Kd.C_below g2 hb) l2)
  clear hs hK l1 g1 l2 g2
  go_enter Try.func24, Try.ntmps24
  go_wp2_with fail
  refine (E1.out _ (atop (atop (atop (Below.refl _ _))))).mono ?_
  rintro _ V1 ⟨v1, rfl, hR1, hb⟩
  obtain ⟨B1, d1, rfl⟩ := Kd.R_slice hR1
  have BX := Aside0.mk (blk_below new1 hb)
  have BR := Aside0.mk (blk_below new2 hb)
  have BO := Aside0.mk (blk_below new3 hb)
  have HB := Aside0.mk (off1 (off1 (off1 hb)))
  have G1 := Aside0.mk (Kd.R_mono (ok' := fun k => w.heap.size + 3 ≤ k) (Kd.R_lower (base' := w.heap.size) (Kd.R_bound hR1) (by rw [size3]; omega)) (fun k hk => by have h := hk.2.1; rw [size3] at h; exact h))
  have hz0 : w.heap.size + 3 ≤ V1.heap.size := by have h := hb.size; rw [size3] at h; exact h
  clear hb E1 hR1
  go_wp2_with (first | ((with_reducible refine gate_ (.store 30 (.tmp 10) (.tmp 9)) rfl ?_); refine put rfl rfl 30 _ _ rfl (.slice B1 (c33 x).f1.length d1) [.slice B1 (c33 x).f1.length d1] rfl rfl rfl (by kernel_rfl) rfl BO.out (Nat.le_of_ble_eq_true rfl) ?_; intro V2 q1 q2; simp only [putSeg, List.setIfInBounds_toArray, List.set_cons_zero, List.set_cons_succ] at q1; replace BO := Aside0.mk q1; replace BR := Aside0.mk (blk_on BR.out q2 (by omega)); replace BX := Aside0.mk (blk_on BX.out q2 (by omega)); replace G1 := Aside0.mk (Kd.R_grown G1.out q2 (fun k hk => by simp only [ne_eq, Option.some.injEq]; omega)); replace HB := Aside0.mk (on HB.out q2 (by omega)); replace hz0 : w.heap.size + 3 ≤ V2.heap.size := Nat.le_trans hz0 q2.size; clear q1 q2; obtain ⟨b0, b1, b2⟩ := cells3 BX.out))
  refine (E2.out _ HB.out).mono ?_
  rintro _ V3 ⟨v2, rfl, hR2, hb⟩
  obtain ⟨B2, d2, rfl⟩ := Kd.R_slice hR2
  clear b0 b1 b2
  have G2 := Aside0.mk (Kd.R_mono (ok' := fun k => w.heap.size + 3 ≤ k) (Kd.R_lower (base' := w.heap.size) (Kd.R_bound hR2) (by omega)) (fun k hk => Nat.le_trans hz0 hk.2.1))
  replace BX := Aside0.mk (blk_below BX.out hb)
  replace BR := Aside0.mk (blk_below BR.out hb)
  replace BO := Aside0.mk (blk_below BO.out hb)
  replace G1 := Aside0.mk (Kd.R_below G1.out hb)
  replace HB := Aside0.mk (then_ HB.out hb)
  replace hz0 : w.heap.size + 3 ≤ V3.heap.size := by have h := hb.size; omega
  clear hb E2 hR2
  go_wp2_with (first | ((with_reducible refine gate_ (.store 31 (.tmp 14) (.tmp 13)) rfl ?_); refine put rfl rfl 31 _ _ rfl (.slice B2 (c33 x).f2.length d2) [.slice B2 (c33 x).f2.length d2] rfl rfl rfl (by kernel_rfl) rfl BO.out (Nat.le_of_ble_eq_true rfl) ?_; intro V4 q1 q2; simp only [putSeg, List.setIfInBounds_toArray, List.set_cons_zero, List.set_cons_succ] at q1; replace BO := Aside0.mk q1; replace BR := Aside0.mk (blk_on BR.out q2 (by omega)); replace BX := Aside0.mk (blk_on BX.out q2 (by omega)); replace G1 := Aside0.mk (Kd.R_grown G1.out q2 (fun k hk => by simp only [ne_eq, Option.some.injEq]; omega)); replace G2 := Aside0.mk (Kd.R_grown G2.out q2 (fun k hk => by simp only [ne_eq, Option.some.injEq]; omega)); replace HB := Aside0.mk (on HB.out q2 (by omega)); replace hz0 : w.heap.size + 3 ≤ V4.heap.size := Nat.le_trans hz0 q2.size; clear q1 q2; obtain ⟨b0, b1, b2⟩ := cells3 BX.out) | ((with_reducible refine gate_ (.load 36 (.tmp 3)) rfl ?_); refine wpList_load_row rfl 36 _ rfl _ rfl 36 #[.int .i64 (c33 x).f0, .slice B1 (c33 x).f1.length d1, .slice B2 (c33 x).f2.length d2] (0, 0) _ BO.out Try.underlying36 rfl (by kernel_rfl) ?_) | ((with_reducible refine gate_ (.store 36 (.tmp 2) (.tmp 15)) rfl ?_); refine put rfl rfl 36 _ _ rfl (.agg #[.int .i64 (c33 x).f0, .slice B1 (c33 x).f1.length d1, .slice B2 (c33 x).f2.length d2]) [.int .i64 (c33 x).f0, .slice B1 (c33 x).f1.length d1, .slice B2 (c33 x).f2.length d2] rfl rfl rfl (by kernel_rfl) rfl BR.out (Nat.le_of_ble_eq_true rfl) ?_; intro V5 q1 q2; simp only [putSeg, List.setIfInBounds_toArray, List.set_cons_zero, List.set_cons_succ] at q1; replace BR := Aside0.mk q1; replace BO := Aside0.mk (blk_on BO.out q2 (by omega)); replace G1 := Aside0.mk (Kd.R_grown G1.out q2 (fun k hk => by simp only [ne_eq, Option.some.injEq]; omega)); replace G2 := Aside0.mk (Kd.R_grown G2.out q2 (fun k hk => by simp only [ne_eq, Option.some.injEq]; omega)); replace HB := Aside0.mk (on HB.out q2 (by omega)); clear q1 q2))
  refine bodyPost_ret (results_cell_row rfl _ _ _ 36 #[.int .i64 (c33 x).f0, .slice B1 (c33 x).f1.length d1, .slice B2 (c33 x).f2.length d2] (0, 0) _ rfl BR.out Try.underlying36 rfl (by kernel_rfl)) rfl ?_
  exact ⟨_, rfl, k36_mkM _ _ _ (c33 x) (Kd.R_mono G1.out (fun _ _ => trivial)) (Kd.R_mono G2.out (fun _ _ => trivial)), HB.out⟩

theorem small33 {x : S33} (h : hold33 x ≤ 1048576) : s33 x := by
  unfold hold33 at h
  have n1 : 0 ≤ ((x.f1.length : Int) + sums (fun x : ByteArray => (x.size : Int)) x.f1) := (Int.add_nonneg (Int.natCast_nonneg _) (sums_nn (fun x => Int.natCast_nonneg _) x.f1))
  have n2 : 0 ≤ (x.f2.length : Int) := (Int.natCast_nonneg _)
  exact ⟨(by have := sums_nn (h := fun x : ByteArray => (x.size : Int)) (fun x => Int.natCast_nonneg _) x.f1; omega), (by omega)⟩

/-! ### laws_eqIntS: printed by compact.py -/
set_option maxHeartbeats 2000000 in
set_option maxRecDepth 100000 in
theorem laws_eqIntS.same {xs : List Int} (hl : (fun l : List Int => l.length ≤ 9223372036854775807) xs) {B D : Option Addr} {c d : Nat} {w : World} (hr : Kd.C (Kd.int .i64) w B xs.length xs) (hc : xs.length ≤ c) (hs : Kd.C (Kd.int .i64) w D xs.length xs) (hd : xs.length ≤ d) :
    Calls Try.prog 69 #[.slice B xs.length c, .slice D xs.length d] w fun e w' => e = .returned (.bool true) ∧ Below w.heap.size w w' := by
  have hn : (xs.length : Int) ≤ 9223372036854775807 := by have := hl; omega
  have HR := Aside0.mk hr
  have HS := Aside0.mk hs
  clear hr hs hl
  go_enter Try.func69, Try.ntmps69
  go_wp2
  go_loopg [5] xs.length (fun g v5 w' => ∃ (i : Int) (e : On w), v5 = .int .i64 i ∧ w' = e.now ∧ 0 ≤ i ∧ i ≤ xs.length ∧ Aside0 ((xs.length : Int) - i ≤ g))
  case atStart => exact ⟨0, On.here w, rfl, rfl, Int.le_refl _, by omega, ⟨by omega⟩⟩
  case round =>
    obtain ⟨i, e, rfl, rfl, hi0, hi1, HG⟩ := hrel
    by_cases c1 : i < (xs.length : Int)
    rotate_left
    · go_wp2
      go_ret
      exact ⟨rfl, e.ok⟩
    obtain ⟨ad, e1, h0⟩ := Kd.at_int HR.out i hi0 c1
    cases e1
    obtain ⟨ad', e1, k0⟩ := Kd.at_int HS.out i hi0 c1
    cases e1
    have R0 := On.cell h0
    have S0 := On.cell k0
    clear h0 k0
    generalize rd xs i = y at R0 S0
    go_wp2
    refine BW.region (by kernel_rfl) (by kernel_rfl) ?_
    repeat (go_big_quiet_step (fail))
    refine wpQuiet_nil ?_
    rintro _ ⟨e2, rfl⟩
    go_wp2
    go_roundg (xs.length - i.toNat - 1)
    case measure => have := HG.out; omega
    case rel => exact ⟨i + 1, e2, rfl, rfl, by omega, by omega, ⟨by omega⟩⟩

/-! ### laws_eqTc: printed by compact.py -/
def l36 (x : S36) : Prop := (fun l : List ByteArray => l.length ≤ 9223372036854775807) x.f1 ∧ (fun l : List Int => l.length ≤ 9223372036854775807) x.f2
set_option maxHeartbeats 2000000 in
set_option maxRecDepth 100000 in
theorem laws_eqTc.same {x : S36} (hl : l36 x) {cs ds : List Value} {w : World} (hK : k36.K w x cs) (hL : k36.K w x ds) :
    Calls Try.prog 26 #[.agg cs.toArray, .agg ds.toArray] w fun e w' => e = .returned (.bool true) ∧ Below w.heap.size w w' := by
  obtain ⟨A1, a1, A2, a2, rfl, l1, g1, l2, g2⟩ := k36_open hK
  obtain ⟨D1, d1, D2, d2, rfl, m1, n1, m2, n2⟩ := k36_open hL
  have E1 := Aside0.mk (fun (W : World) (hb : Below w.heap.size w W) => laws_eqStringS.same (w := W) (hl.1) (Kd.C_below g1 hb) l1 (Kd.C_below n1 hb) m1)
  have E2 := Aside0.mk (fun (W : World) (hb : Below w.heap.size w W) => laws_eqIntS.same (w := W) (hl.2) (Kd.C_below g2 hb) l2 (Kd.C_below n2 hb) m2)
  clear hl hK hL l1 g1 m1 n1 l2 g2 m2 n2
  go_enter Try.func26, Try.ntmps26
  go_wp2_with fail
  refine (E1.out _ (atop (atop (Below.refl _ _)))).mono ?_
  rintro _ W1 ⟨rfl, hb⟩
  have BX := Aside0.mk (boxA hb)
  have BY := Aside0.mk (boxB hb)
  have HB := Aside0.mk (off1 (off1 hb))
  clear hb E1
  obtain ⟨b0, b1, b2⟩ := cells3 BX.out
  obtain ⟨y0, y1, y2⟩ := cells3 BY.out
  go_wp2_with fail
  refine (E2.out _ HB.out).mono ?_
  rintro _ W1 ⟨rfl, hb⟩
  clear b0 y0 b1 y1 b2 y2
  replace BX := Aside0.mk (blk_below BX.out hb)
  replace BY := Aside0.mk (blk_below BY.out hb)
  replace HB := Aside0.mk (then_ HB.out hb)
  clear hb E2
  obtain ⟨b0, b1, b2⟩ := cells3 BX.out
  obtain ⟨y0, y1, y2⟩ := cells3 BY.out
  go_wp2
  go_ret
  exact ⟨rfl, HB.out⟩

theorem long33 {x : S33} (h : s33 x) : l36 (c33 x) := by
  exact ⟨Nat.le_trans h.1 (by decide), Nat.le_trans h.2 (by decide)⟩

end Go.Proofs.Ytieecjilnaijkaa.F
