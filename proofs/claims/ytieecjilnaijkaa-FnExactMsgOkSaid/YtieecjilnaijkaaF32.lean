/-
Functions of the program, what they come to, and that Go comes to just that: laws_szBlock, laws_toBlock, laws_eqBlock.
Conditions: those that each theorem names.
-/
import Derived.Test.YtieecjilnaijkaaFAbs
import Derived.Test.YtieecjilnaijkaaF1
import Derived.Test.YtieecjilnaijkaaF8
import Derived.Test.YtieecjilnaijkaaF15
import Derived.Test.YtieecjilnaijkaaF19
import Derived.Test.YtieecjilnaijkaaFam
set_option linter.unusedVariables false
set_option linter.unusedSimpArgs false
namespace Go.Proofs.Ytieecjilnaijkaa.F
open Go.RowKit Go.Proofs.YtieecjilnaijkaaW.PrintWords Go.Proofs.YtieecjilnaijkaaW.PrintLast Go.Proofs.Ytieecjilnaijkaa.Base Go.Proofs.Ytieecjilnaijkaa.BW
open Go.Proofs.Ytieecjilnaijkaa.FamW

/-! ### laws_szBlock: printed by compact.py -/
/-- How much a value of struct type 64 holds. -/
def hold64 (x : S64) : Int := (x.f3.size : Int) + ((hold54 x.f4) + ((hold33 x.f5) + (((x.f6.length : Int) + sums hold104 x.f6) + (((x.f8.length : Int) + sums hold92 x.f8) + ((x.f9.size : Int) + (0))))))
theorem hold64.nn (x : S64) : 0 ≤ hold64 x := by
  unfold hold64
  have n3 := (show 0 ≤ (x.f3.size : Int) from (Int.natCast_nonneg _))
  have n4 := (show 0 ≤ (hold54 x.f4) from (hold54.nn x.f4))
  have n5 := (show 0 ≤ (hold33 x.f5) from (hold33.nn x.f5))
  have n6 := (show 0 ≤ ((x.f6.length : Int) + sums hold104 x.f6) from (Int.add_nonneg (Int.natCast_nonneg _) (sums_nn hold104.nn x.f6)))
  have n8 := (show 0 ≤ ((x.f8.length : Int) + sums hold92 x.f8) from (Int.add_nonneg (Int.natCast_nonneg _) (sums_nn hold92.nn x.f8)))
  have n9 := (show 0 ≤ (x.f9.size : Int) from (Int.natCast_nonneg _))
  omega
set_option maxHeartbeats 2000000 in
set_option maxRecDepth 100000 in
theorem laws_szBlock.does {x : S64} {left : Int} (hw : w64 x) (h0 : 0 ≤ left) (h1 : left ≤ 1048576) {cs : List Value} {w : World} (hK : k64.K w x cs) :
    Calls Try.prog 46 #[.agg cs.toArray, .int .i64 left] w fun e w' => e = .returned (.int .i64 (szR (hold64 x) left)) ∧ Below w.heap.size w w' := by
  have HK := Aside0.mk hK
  obtain ⟨A6, a6, A8, a8, A9, a9, A10, a10, A12, a12, rfl, l6, g6, l8, g8, l9, g9, l10, g10, l12, g12⟩ := k64_open hK
  obtain ⟨r, hR⟩ : ∃ r, szR (hold64 x) left = r := ⟨_, rfl⟩
  rw [hR]
  unfold hold64 at hR
  have n3 : 0 ≤ (x.f3.size : Int) := (Int.natCast_nonneg _)
  have z3 : (x.f3.size : Int) ≤ 9223372036854775807 := by have h := hw.2.2.2.1; have : maxLen = 9223372036854775807 := rfl; omega
  have n4 : 0 ≤ (hold54 x.f4) := (hold54.nn x.f4)
  have E4 := Aside0.mk (fun (W : World) (s : Int) (hb : Below w.heap.size w W) (q0 : 0 ≤ s) (q1 : s ≤ 1048576) => laws_szQc.does (w := W) hw.2.2.2.2.1 q0 q1 (k54_mk W x.f4 l6 (Kd.C_below g6 hb)))
  have n5 : 0 ≤ (hold33 x.f5) := (hold33.nn x.f5)
  have E5 := Aside0.mk (fun (W : World) (s : Int) (hb : Below w.heap.size w W) (q0 : 0 ≤ s) (q1 : s ≤ 1048576) => laws_szTc.does (w := W) hw.2.2.2.2.2.1 q0 q1 (k33_mk W x.f5 l8 (Kd.C_below g8 hb) l9 (Kd.C_below g9 hb)))
  have n6 : 0 ≤ ((x.f6.length : Int) + sums hold104 x.f6) := (Int.add_nonneg (Int.natCast_nonneg _) (sums_nn hold104.nn x.f6))
  have E6 := Aside0.mk (fun (W : World) (s : Int) (hb : Below w.heap.size w W) (q0 : 0 ≤ s) (q1 : s ≤ 1048576) => laws_szTxS.does (w := W) hw.2.2.2.2.2.2.1 q0 q1 (Kd.C_below g10 hb) l10)
  have n8 : 0 ≤ ((x.f8.length : Int) + sums hold92 x.f8) := (Int.add_nonneg (Int.natCast_nonneg _) (sums_nn hold92.nn x.f8))
  have E8 := Aside0.mk (fun (W : World) (s : Int) (hb : Below w.heap.size w W) (q0 : 0 ≤ s) (q1 : s ≤ 1048576) => laws_szValS.does (w := W) hw.2.2.2.2.2.2.2.2.1 q0 q1 (Kd.C_below g12 hb) l12)
  have n9 : 0 ≤ (x.f9.size : Int) := (Int.natCast_nonneg _)
  have z9 : (x.f9.size : Int) ≤ 9223372036854775807 := by have h := hw.2.2.2.2.2.2.2.2.2; have : maxLen = 9223372036854775807 := rfl; omega
  obtain ⟨m3, hm3⟩ : ∃ m : Int, m = (x.f3.size : Int) := ⟨_, rfl⟩
  generalize (hold54 x.f4) = m4 at hR n4 E4
  generalize (hold33 x.f5) = m5 at hR n5 E5
  generalize ((x.f6.length : Int) + sums hold104 x.f6) = m6 at hR n6 E6
  generalize ((x.f8.length : Int) + sums hold92 x.f8) = m8 at hR n8 E8
  obtain ⟨m9, hm9⟩ : ∃ m : Int, m = (x.f9.size : Int) := ⟨_, rfl⟩
  rw [← hm3] at hR n3 z3
  rw [← hm9] at hR n9 z9
  clear hw hK l6 g6 l8 g8 l9 g9 l10 g10 l12 g12
  have HR := Aside0.mk hR
  clear hR
  have HM3 := Aside0.mk hm3
  clear hm3
  have HM9 := Aside0.mk hm9
  clear hm9
  have HB := Aside0.mk (Below.refl w.heap.size w)
  go_enter Try.func46, Try.ntmps46
  by_cases d3 : m3 ≤ left
  rotate_left
  · have H1 : Aside0 (r = -1) := ⟨HR.out ▸ szR_no (by omega)⟩
    have c_ : decide (left - ((x.f3.size : Int) : Int) < 0) = true := decide_eq_true (by have := HM3.out; omega)
    have z_ : (x.f3.size : Int) ≤ 9223372036854775807 := by have := HM3.out; omega
    clear d3 HR
    go_wp2
    go_ret
    exact ⟨by obtain rfl := H1.out; rfl, atop HB.out⟩
  replace HR := Aside0.mk ((sz_part d3).symm.trans HR.out)
  have HN3 := HM3.out
  subst HN3
  clear HM3
  have c_3 : decide (left - ((x.f3.size : Int)) < 0) = false := decide_eq_false (by omega)
  have p_3 : 0 ≤ left - (x.f3.size : Int) := by omega
  have q_3 : left - (x.f3.size : Int) ≤ 1048576 := by omega
  clear d3
  by_cases d4 : m4 ≤ left - (x.f3.size : Int)
  rotate_left
  · have H1 : Aside0 (r = -1) := ⟨HR.out ▸ szR_no (by omega)⟩
    have E := Aside0.mk (fun (W : World) hb => E4.out W (left - (x.f3.size : Int)) hb (by omega) (by omega))
    rw [szR_no (by omega)] at E
    clear d4 HR
    go_wp2_with fail
    refine (E.out _ (atop HB.out)).mono ?_
    rintro _ W1 ⟨rfl, hb⟩
    replace HB := Aside0.mk (then_ HB.out (off1 hb))
    clear hb
    go_wp2
    go_ret
    exact ⟨by obtain rfl := H1.out; rfl, HB.out⟩
  have F4 := Aside0.mk (fun (W : World) hb => E4.out W (left - (x.f3.size : Int)) hb (by omega) (by omega))
  rw [szR_ge d4] at F4
  replace HR := Aside0.mk ((sz_part d4).symm.trans HR.out)
  have c_4 : decide (left - (x.f3.size : Int) - m4 < 0) = false := decide_eq_false (by omega)
  have p_4 : 0 ≤ left - (x.f3.size : Int) - m4 := by omega
  have q_4 : left - (x.f3.size : Int) - m4 ≤ 1048576 := by omega
  clear d4 E4
  go_wp2_with fail
  refine (F4.out _ (atop HB.out)).mono ?_
  rintro _ W4 ⟨rfl, hb⟩
  have BX := Aside0.mk (box hb)
  replace HB := Aside0.mk (then_ HB.out (off1 hb))
  clear hb F4
  by_cases d5 : m5 ≤ left - (x.f3.size : Int) - m4
  rotate_left
  · have H1 : Aside0 (r = -1) := ⟨HR.out ▸ szR_no (by omega)⟩
    have E := Aside0.mk (fun (W : World) hb => E5.out W (left - (x.f3.size : Int) - m4) hb (by omega) (by omega))
    rw [szR_no (by omega)] at E
    obtain ⟨b0, b1, b2, b3, b4, b5, b6, b7, b8, b9, b10, b11, b12, b13⟩ := cells14 BX.out
    clear d5 HR
    go_wp2_with fail
    refine (E.out _ HB.out).mono ?_
    rintro _ W1 ⟨rfl, hb⟩
    replace HB := Aside0.mk (then_ HB.out hb)
    clear hb
    go_wp2
    go_ret
    exact ⟨by obtain rfl := H1.out; rfl, HB.out⟩
  have F5 := Aside0.mk (fun (W : World) hb => E5.out W (left - (x.f3.size : Int) - m4) hb (by omega) (by omega))
  rw [szR_ge d5] at F5
  obtain ⟨b0, b1, b2, b3, b4, b5, b6, b7, b8, b9, b10, b11, b12, b13⟩ := cells14 BX.out
  replace HR := Aside0.mk ((sz_part d5).symm.trans HR.out)
  have c_5 : decide (left - (x.f3.size : Int) - m4 - m5 < 0) = false := decide_eq_false (by omega)
  have p_5 : 0 ≤ left - (x.f3.size : Int) - m4 - m5 := by omega
  have q_5 : left - (x.f3.size : Int) - m4 - m5 ≤ 1048576 := by omega
  clear d5 E5
  go_wp2_with fail
  refine (F5.out _ HB.out).mono ?_
  rintro _ W5 ⟨rfl, hb⟩
  replace BX := Aside0.mk (blk_below BX.out hb)
  replace HB := Aside0.mk (then_ HB.out hb)
  clear b0 b1 b2 b3 b4 b5 b6 b7 b8 b9 b10 b11 b12 b13
  clear hb F5
  by_cases d6 : m6 ≤ left - (x.f3.size : Int) - m4 - m5
  rotate_left
  · have H1 : Aside0 (r = -1) := ⟨HR.out ▸ szR_no (by omega)⟩
    have E := Aside0.mk (fun (W : World) hb => E6.out W (left - (x.f3.size : Int) - m4 - m5) hb (by omega) (by omega))
    rw [szR_no (by omega)] at E
    obtain ⟨b0, b1, b2, b3, b4, b5, b6, b7, b8, b9, b10, b11, b12, b13⟩ := cells14 BX.out
    clear d6 HR
    go_wp2_with fail
    refine (E.out _ HB.out).mono ?_
    rintro _ W1 ⟨rfl, hb⟩
    replace HB := Aside0.mk (then_ HB.out hb)
    clear hb
    go_wp2
    go_ret
    exact ⟨by obtain rfl := H1.out; rfl, HB.out⟩
  have F6 := Aside0.mk (fun (W : World) hb => E6.out W (left - (x.f3.size : Int) - m4 - m5) hb (by omega) (by omega))
  rw [szR_ge d6] at F6
  obtain ⟨b0, b1, b2, b3, b4, b5, b6, b7, b8, b9, b10, b11, b12, b13⟩ := cells14 BX.out
  replace HR := Aside0.mk ((sz_part d6).symm.trans HR.out)
  have c_6 : decide (left - (x.f3.size : Int) - m4 - m5 - m6 < 0) = false := decide_eq_false (by omega)
  have p_6 : 0 ≤ left - (x.f3.size : Int) - m4 - m5 - m6 := by omega
  have q_6 : left - (x.f3.size : Int) - m4 - m5 - m6 ≤ 1048576 := by omega
  clear d6 E6
  go_wp2_with fail
  refine (F6.out _ HB.out).mono ?_
  rintro _ W6 ⟨rfl, hb⟩
  replace BX := Aside0.mk (blk_below BX.out hb)
  replace HB := Aside0.mk (then_ HB.out hb)
  clear b0 b1 b2 b3 b4 b5 b6 b7 b8 b9 b10 b11 b12 b13
  clear hb F6
  by_cases d8 : m8 ≤ left - (x.f3.size : Int) - m4 - m5 - m6
  rotate_left
  · have H1 : Aside0 (r = -1) := ⟨HR.out ▸ szR_no (by omega)⟩
    have E := Aside0.mk (fun (W : World) hb => E8.out W (left - (x.f3.size : Int) - m4 - m5 - m6) hb (by omega) (by omega))
    rw [szR_no (by omega)] at E
    obtain ⟨b0, b1, b2, b3, b4, b5, b6, b7, b8, b9, b10, b11, b12, b13⟩ := cells14 BX.out
    clear d8 HR
    go_wp2_with fail
    refine (E.out _ HB.out).mono ?_
    rintro _ W1 ⟨rfl, hb⟩
    replace HB := Aside0.mk (then_ HB.out hb)
    clear hb
    go_wp2
    go_ret
    exact ⟨by obtain rfl := H1.out; rfl, HB.out⟩
  have F8 := Aside0.mk (fun (W : World) hb => E8.out W (left - (x.f3.size : Int) - m4 - m5 - m6) hb (by omega) (by omega))
  rw [szR_ge d8] at F8
  obtain ⟨b0, b1, b2, b3, b4, b5, b6, b7, b8, b9, b10, b11, b12, b13⟩ := cells14 BX.out
  replace HR := Aside0.mk ((sz_part d8).symm.trans HR.out)
  have c_8 : decide (left - (x.f3.size : Int) - m4 - m5 - m6 - m8 < 0) = false := decide_eq_false (by omega)
  have p_8 : 0 ≤ left - (x.f3.size : Int) - m4 - m5 - m6 - m8 := by omega
  have q_8 : left - (x.f3.size : Int) - m4 - m5 - m6 - m8 ≤ 1048576 := by omega
  clear d8 E8
  go_wp2_with fail
  refine (F8.out _ HB.out).mono ?_
  rintro _ W8 ⟨rfl, hb⟩
  replace BX := Aside0.mk (blk_below BX.out hb)
  replace HB := Aside0.mk (then_ HB.out hb)
  clear b0 b1 b2 b3 b4 b5 b6 b7 b8 b9 b10 b11 b12 b13
  clear hb F8
  by_cases d9 : m9 ≤ left - (x.f3.size : Int) - m4 - m5 - m6 - m8
  rotate_left
  · have H1 : Aside0 (r = -1) := ⟨HR.out ▸ szR_no (by omega)⟩
    have c_ : decide (left - (x.f3.size : Int) - m4 - m5 - m6 - m8 - ((x.f9.size : Int) : Int) < 0) = true := decide_eq_true (by have := HM9.out; omega)
    obtain ⟨b0, b1, b2, b3, b4, b5, b6, b7, b8, b9, b10, b11, b12, b13⟩ := cells14 BX.out
    have z_ : (x.f9.size : Int) ≤ 9223372036854775807 := by have := HM9.out; omega
    clear d9 HR
    go_wp2
    go_ret
    exact ⟨by obtain rfl := H1.out; rfl, HB.out⟩
  replace HR := Aside0.mk ((sz_part d9).symm.trans HR.out)
  have HN9 := HM9.out
  subst HN9
  clear HM9
  have c_9 : decide (left - (x.f3.size : Int) - m4 - m5 - m6 - m8 - ((x.f9.size : Int)) < 0) = false := decide_eq_false (by omega)
  have p_9 : 0 ≤ left - (x.f3.size : Int) - m4 - m5 - m6 - m8 - (x.f9.size : Int) := by omega
  have q_9 : left - (x.f3.size : Int) - m4 - m5 - m6 - m8 - (x.f9.size : Int) ≤ 1048576 := by omega
  clear d9
  have H1 := Aside0.mk (HR.out.symm.trans (szR_zero (by omega)))
  obtain ⟨b0, b1, b2, b3, b4, b5, b6, b7, b8, b9, b10, b11, b12, b13⟩ := cells14 BX.out
  clear HR
  go_wp2
  go_ret
  exact ⟨by obtain rfl := H1.out; rfl, HB.out⟩

/-! ### laws_toBlock: printed by compact.py -/
def c64 (x : S64) : S68 := ⟨x.f0, x.f1, x.f2, x.f3, (c54 x.f4), (c33 x.f5), (x.f6.map c104), x.f7, (x.f8.map c92), x.f9⟩
def s64 (x : S64) : Prop := s54 x.f4 ∧ s33 x.f5 ∧ (fun l : List S104 => l.length ≤ 1048576) x.f6 ∧ (fun l : List S92 => l.length ≤ 1048576) x.f8
set_option maxHeartbeats 2000000 in
set_option maxRecDepth 100000 in
theorem laws_toBlock.make {x : S64} (hs : s64 x) {cs : List Value} {w : World} (hK : k64.K w x cs) :
    Calls Try.prog 48 #[.agg cs.toArray] w fun e w' => ∃ ds : List Value, e = .returned (.agg ds.toArray) ∧ k68.M w' w.heap.size (fun _ => True) (c64 x) ds ∧ Below w.heap.size w w' := by
  obtain ⟨A6, a6, A8, a8, A9, a9, A10, a10, A12, a12, rfl, l6, g6, l8, g8, l9, g9, l10, g10, l12, g12⟩ := k64_open hK
  have E4 := Aside0.mk (fun (W : World) (hb : Below w.heap.size w W) => laws_toQc.make (w := W) hs.1 (k54_mk W x.f4 l6 (Kd.C_below g6 hb)))
  have E5 := Aside0.mk (fun (W : World) (hb : Below w.heap.size w W) => laws_toTc.make (w := W) hs.2.1 (k33_mk W x.f5 l8 (Kd.C_below g8 hb) l9 (Kd.C_below g9 hb)))
  have E6 := Aside0.mk (fun (W : World) (hb : Below w.heap.size w W) => laws_toTxS.make (w := W) hs.2.2.1 (Kd.C_below g10 hb) l10)
  have E8 := Aside0.mk (fun (W : World) (hb : Below w.heap.size w W) => laws_toValS.make (w := W) hs.2.2.2 (Kd.C_below g12 hb) l12)
  clear hs hK l6 g6 l8 g8 l9 g9 l10 g10 l12 g12
  go_enter Try.func48, Try.ntmps48
  go_wp2_with fail
  refine (E4.out _ (atop (atop (atop (Below.refl _ _))))).mono ?_
  rintro _ V1 ⟨es, rfl, hM, hb⟩
  obtain ⟨v6, rfl, hR6⟩ := k57_openM hM
  obtain ⟨B6, d6, rfl⟩ := Kd.R_slice hR6
  have BX := Aside0.mk (blk_below new1 hb)
  have BR := Aside0.mk (blk_below new2 hb)
  have BO := Aside0.mk (blk_below new3 hb)
  have HB := Aside0.mk (off1 (off1 (off1 hb)))
  have G6 := Aside0.mk (Kd.R_mono (ok' := fun k => w.heap.size + 3 ≤ k) (Kd.R_lower (base' := w.heap.size) (Kd.R_bound hR6) (by rw [size3]; omega)) (fun k hk => by have h := hk.2.1; rw [size3] at h; exact h))
  have hz0 : w.heap.size + 3 ≤ V1.heap.size := by have h := hb.size; rw [size3] at h; exact h
  clear hb E4 hR6 hM
  go_wp2_with (first | ((with_reducible refine gate_ (.store 57 (.tmp 19) (.tmp 18)) rfl ?_); refine put rfl rfl 57 _ _ rfl (.agg #[.int .i64 (c64 x).f4.f0, .int .i64 (c64 x).f4.f1, .slice B6 (c64 x).f4.f2.length d6]) [.int .i64 (c64 x).f4.f0, .int .i64 (c64 x).f4.f1, .slice B6 (c64 x).f4.f2.length d6] rfl rfl rfl (by kernel_rfl) rfl BO.out (Nat.le_of_ble_eq_true rfl) ?_; intro V2 q1 q2; simp only [putSeg, List.setIfInBounds_toArray, List.set_cons_zero, List.set_cons_succ] at q1; replace BO := Aside0.mk q1; replace BR := Aside0.mk (blk_on BR.out q2 (by omega)); replace BX := Aside0.mk (blk_on BX.out q2 (by omega)); replace G6 := Aside0.mk (Kd.R_grown G6.out q2 (fun k hk => by simp only [ne_eq, Option.some.injEq]; omega)); replace HB := Aside0.mk (on HB.out q2 (by omega)); replace hz0 : w.heap.size + 3 ≤ V2.heap.size := Nat.le_trans hz0 q2.size; clear q1 q2; obtain ⟨b0, b1, b2, b3, b4, b5, b6, b7, b8, b9, b10, b11, b12, b13⟩ := cells14 BX.out))
  refine (E5.out _ HB.out).mono ?_
  rintro _ V3 ⟨es, rfl, hM, hb⟩
  obtain ⟨v8, v9, rfl, hR8, hR9⟩ := k36_openM hM
  obtain ⟨B8, d8, rfl⟩ := Kd.R_slice hR8
  obtain ⟨B9, d9, rfl⟩ := Kd.R_slice hR9
  clear b0 b1 b2 b3 b4 b5 b6 b7 b8 b9 b10 b11 b12 b13
  have G8 := Aside0.mk (Kd.R_mono (ok' := fun k => w.heap.size + 3 ≤ k) (Kd.R_lower (base' := w.heap.size) (Kd.R_bound hR8) (by omega)) (fun k hk => Nat.le_trans hz0 hk.2.1))
  have G9 := Aside0.mk (Kd.R_mono (ok' := fun k => w.heap.size + 3 ≤ k) (Kd.R_lower (base' := w.heap.size) (Kd.R_bound hR9) (by omega)) (fun k hk => Nat.le_trans hz0 hk.2.1))
  replace BX := Aside0.mk (blk_below BX.out hb)
  replace BR := Aside0.mk (blk_below BR.out hb)
  replace BO := Aside0.mk (blk_below BO.out hb)
  replace G6 := Aside0.mk (Kd.R_below G6.out hb)
  replace HB := Aside0.mk (then_ HB.out hb)
  replace hz0 : w.heap.size + 3 ≤ V3.heap.size := by have h := hb.size; omega
  clear hb E5 hR8 hR9 hM
  go_wp2_with (first | ((with_reducible refine gate_ (.store 36 (.tmp 23) (.tmp 22)) rfl ?_); refine put rfl rfl 36 _ _ rfl (.agg #[.int .i64 (c64 x).f5.f0, .slice B8 (c64 x).f5.f1.length d8, .slice B9 (c64 x).f5.f2.length d9]) [.int .i64 (c64 x).f5.f0, .slice B8 (c64 x).f5.f1.length d8, .slice B9 (c64 x).f5.f2.length d9] rfl rfl rfl (by kernel_rfl) rfl BO.out (Nat.le_of_ble_eq_true rfl) ?_; intro V4 q1 q2; simp only [putSeg, List.setIfInBounds_toArray, List.set_cons_zero, List.set_cons_succ] at q1; replace BO := Aside0.mk q1; replace BR := Aside0.mk (blk_on BR.out q2 (by omega)); replace BX := Aside0.mk (blk_on BX.out q2 (by omega)); replace G6 := Aside0.mk (Kd.R_grown G6.out q2 (fun k hk => by simp only [ne_eq, Option.some.injEq]; omega)); replace G8 := Aside0.mk (Kd.R_grown G8.out q2 (fun k hk => by simp only [ne_eq, Option.some.injEq]; omega)); replace G9 := Aside0.mk (Kd.R_grown G9.out q2 (fun k hk => by simp only [ne_eq, Option.some.injEq]; omega)); replace HB := Aside0.mk (on HB.out q2 (by omega)); replace hz0 : w.heap.size + 3 ≤ V4.heap.size := Nat.le_trans hz0 q2.size; clear q1 q2; obtain ⟨b0, b1, b2, b3, b4, b5, b6, b7, b8, b9, b10, b11, b12, b13⟩ := cells14 BX.out))
  refine (E6.out _ HB.out).mono ?_
  rintro _ V5 ⟨v10, rfl, hR10, hb⟩
  obtain ⟨B10, d10, rfl⟩ := Kd.R_slice hR10
  rw [List.length_map] at hR10
  clear b0 b1 b2 b3 b4 b5 b6 b7 b8 b9 b10 b11 b12 b13
  have G10 := Aside0.mk (Kd.R_mono (ok' := fun k => w.heap.size + 3 ≤ k) (Kd.R_lower (base' := w.heap.size) (Kd.R_bound hR10) (by omega)) (fun k hk => Nat.le_trans hz0 hk.2.1))
  replace BX := Aside0.mk (blk_below BX.out hb)
  replace BR := Aside0.mk (blk_below BR.out hb)
  replace BO := Aside0.mk (blk_below BO.out hb)
  replace G6 := Aside0.mk (Kd.R_below G6.out hb)
  replace G8 := Aside0.mk (Kd.R_below G8.out hb)
  replace G9 := Aside0.mk (Kd.R_below G9.out hb)
  replace HB := Aside0.mk (then_ HB.out hb)
  replace hz0 : w.heap.size + 3 ≤ V5.heap.size := by have h := hb.size; omega
  clear hb E6 hR10
  go_wp2_with (first | ((with_reducible refine gate_ (.store 49 (.tmp 27) (.tmp 26)) rfl ?_); refine put rfl rfl 49 _ _ rfl (.slice B10 x.f6.length d10) [.slice B10 x.f6.length d10] rfl rfl rfl (by kernel_rfl) rfl BO.out (Nat.le_of_ble_eq_true rfl) ?_; intro V6 q1 q2; simp only [putSeg, List.setIfInBounds_toArray, List.set_cons_zero, List.set_cons_succ] at q1; replace BO := Aside0.mk q1; replace BR := Aside0.mk (blk_on BR.out q2 (by omega)); replace BX := Aside0.mk (blk_on BX.out q2 (by omega)); replace G6 := Aside0.mk (Kd.R_grown G6.out q2 (fun k hk => by simp only [ne_eq, Option.some.injEq]; omega)); replace G8 := Aside0.mk (Kd.R_grown G8.out q2 (fun k hk => by simp only [ne_eq, Option.some.injEq]; omega)); replace G9 := Aside0.mk (Kd.R_grown G9.out q2 (fun k hk => by simp only [ne_eq, Option.some.injEq]; omega)); replace G10 := Aside0.mk (Kd.R_grown G10.out q2 (fun k hk => by simp only [ne_eq, Option.some.injEq]; omega)); replace HB := Aside0.mk (on HB.out q2 (by omega)); replace hz0 : w.heap.size + 3 ≤ V6.heap.size := Nat.le_trans hz0 q2.size; clear q1 q2; obtain ⟨b0, b1, b2, b3, b4, b5, b6, b7, b8, b9, b10, b11, b12, b13⟩ := cells14 BX.out) | ((with_reducible refine gate_ (.store 4 (.tmp 30) (.tmp 29)) rfl ?_); refine put rfl rfl 4 _ _ rfl (.bool x.f7) [.bool x.f7] rfl rfl rfl (by kernel_rfl) rfl BO.out (Nat.le_of_ble_eq_true rfl) ?_; intro V7 q1 q2; simp only [putSeg, List.setIfInBounds_toArray, List.set_cons_zero, List.set_cons_succ] at q1; replace BO := Aside0.mk q1; replace BR := Aside0.mk (blk_on BR.out q2 (by omega)); replace BX := Aside0.mk (blk_on BX.out q2 (by omega)); replace G6 := Aside0.mk (Kd.R_grown G6.out q2 (fun k hk => by simp only [ne_eq, Option.some.injEq]; omega)); replace G8 := Aside0.mk (Kd.R_grown G8.out q2 (fun k hk => by simp only [ne_eq, Option.some.injEq]; omega)); replace G9 := Aside0.mk (Kd.R_grown G9.out q2 (fun k hk => by simp only [ne_eq, Option.some.injEq]; omega)); replace G10 := Aside0.mk (Kd.R_grown G10.out q2 (fun k hk => by simp only [ne_eq, Option.some.injEq]; omega)); replace HB := Aside0.mk (on HB.out q2 (by omega)); replace hz0 : w.heap.size + 3 ≤ V7.heap.size := Nat.le_trans hz0 q2.size; clear q1 q2 b0 b1 b2 b3 b4 b5 b6 b7 b8 b9 b10 b11 b12 b13; obtain ⟨b0, b1, b2, b3, b4, b5, b6, b7, b8, b9, b10, b11, b12, b13⟩ := cells14 BX.out))
  refine (E8.out _ HB.out).mono ?_
  rintro _ V8 ⟨v12, rfl, hR12, hb⟩
  obtain ⟨B12, d12, rfl⟩ := Kd.R_slice hR12
  rw [List.length_map] at hR12
  clear b0 b1 b2 b3 b4 b5 b6 b7 b8 b9 b10 b11 b12 b13
  have G12 := Aside0.mk (Kd.R_mono (ok' := fun k => w.heap.size + 3 ≤ k) (Kd.R_lower (base' := w.heap.size) (Kd.R_bound hR12) (by omega)) (fun k hk => Nat.le_trans hz0 hk.2.1))
  replace BX := Aside0.mk (blk_below BX.out hb)
  replace BR := Aside0.mk (blk_below BR.out hb)
  replace BO := Aside0.mk (blk_below BO.out hb)
  replace G6 := Aside0.mk (Kd.R_below G6.out hb)
  replace G8 := Aside0.mk (Kd.R_below G8.out hb)
  replace G9 := Aside0.mk (Kd.R_below G9.out hb)
  replace G10 := Aside0.mk (Kd.R_below G10.out hb)
  replace HB := Aside0.mk (then_ HB.out hb)
  replace hz0 : w.heap.size + 3 ≤ V8.heap.size := by have h := hb.size; omega
  clear hb E8 hR12
  go_wp2_with (first | ((with_reducible refine gate_ (.store 25 (.tmp 34) (.tmp 33)) rfl ?_); refine put rfl rfl 25 _ _ rfl (.slice B12 x.f8.length d12) [.slice B12 x.f8.length d12] rfl rfl rfl (by kernel_rfl) rfl BO.out (Nat.le_of_ble_eq_true rfl) ?_; intro V9 q1 q2; simp only [putSeg, List.setIfInBounds_toArray, List.set_cons_zero, List.set_cons_succ] at q1; replace BO := Aside0.mk q1; replace BR := Aside0.mk (blk_on BR.out q2 (by omega)); replace BX := Aside0.mk (blk_on BX.out q2 (by omega)); replace G6 := Aside0.mk (Kd.R_grown G6.out q2 (fun k hk => by simp only [ne_eq, Option.some.injEq]; omega)); replace G8 := Aside0.mk (Kd.R_grown G8.out q2 (fun k hk => by simp only [ne_eq, Option.some.injEq]; omega)); replace G9 := Aside0.mk (Kd.R_grown G9.out q2 (fun k hk => by simp only [ne_eq, Option.some.injEq]; omega)); replace G10 := Aside0.mk (Kd.R_grown G10.out q2 (fun k hk => by simp only [ne_eq, Option.some.injEq]; omega)); replace G12 := Aside0.mk (Kd.R_grown G12.out q2 (fun k hk => by simp only [ne_eq, Option.some.injEq]; omega)); replace HB := Aside0.mk (on HB.out q2 (by omega)); replace hz0 : w.heap.size + 3 ≤ V9.heap.size := Nat.le_trans hz0 q2.size; clear q1 q2; obtain ⟨b0, b1, b2, b3, b4, b5, b6, b7, b8, b9, b10, b11, b12, b13⟩ := cells14 BX.out) | ((with_reducible refine gate_ (.store 9 (.tmp 37) (.tmp 36)) rfl ?_); refine put rfl rfl 9 _ _ rfl (.string x.f9) [.string x.f9] rfl rfl rfl (by kernel_rfl) rfl BO.out (Nat.le_of_ble_eq_true rfl) ?_; intro V10 q1 q2; simp only [putSeg, List.setIfInBounds_toArray, List.set_cons_zero, List.set_cons_succ] at q1; replace BO := Aside0.mk q1; replace BR := Aside0.mk (blk_on BR.out q2 (by omega)); replace BX := Aside0.mk (blk_on BX.out q2 (by omega)); replace G6 := Aside0.mk (Kd.R_grown G6.out q2 (fun k hk => by simp only [ne_eq, Option.some.injEq]; omega)); replace G8 := Aside0.mk (Kd.R_grown G8.out q2 (fun k hk => by simp only [ne_eq, Option.some.injEq]; omega)); replace G9 := Aside0.mk (Kd.R_grown G9.out q2 (fun k hk => by simp only [ne_eq, Option.some.injEq]; omega)); replace G10 := Aside0.mk (Kd.R_grown G10.out q2 (fun k hk => by simp only [ne_eq, Option.some.injEq]; omega)); replace G12 := Aside0.mk (Kd.R_grown G12.out q2 (fun k hk => by simp only [ne_eq, Option.some.injEq]; omega)); replace HB := Aside0.mk (on HB.out q2 (by omega)); replace hz0 : w.heap.size + 3 ≤ V10.heap.size := Nat.le_trans hz0 q2.size; clear q1 q2 b0 b1 b2 b3 b4 b5 b6 b7 b8 b9 b10 b11 b12 b13; obtain ⟨b0, b1, b2, b3, b4, b5, b6, b7, b8, b9, b10, b11, b12, b13⟩ := cells14 BX.out) | ((with_reducible refine gate_ (.load 68 (.tmp 3)) rfl ?_); refine wpList_load_row rfl 68 _ rfl _ rfl 68 #[.int .i64 (c64 x).f0, .int .i64 (c64 x).f1, .int .i64 (c64 x).f2, .string (c64 x).f3, .int .i64 (c64 x).f4.f0, .int .i64 (c64 x).f4.f1, .slice B6 (c64 x).f4.f2.length d6, .int .i64 (c64 x).f5.f0, .slice B8 (c64 x).f5.f1.length d8, .slice B9 (c64 x).f5.f2.length d9, .slice B10 x.f6.length d10, .bool (c64 x).f7, .slice B12 x.f8.length d12, .string (c64 x).f9] (0, 0) _ BO.out Try.underlying68 rfl (by kernel_rfl) ?_) | ((with_reducible refine gate_ (.store 68 (.tmp 2) (.tmp 38)) rfl ?_); refine put rfl rfl 68 _ _ rfl (.agg #[.int .i64 (c64 x).f0, .int .i64 (c64 x).f1, .int .i64 (c64 x).f2, .string (c64 x).f3, .int .i64 (c64 x).f4.f0, .int .i64 (c64 x).f4.f1, .slice B6 (c64 x).f4.f2.length d6, .int .i64 (c64 x).f5.f0, .slice B8 (c64 x).f5.f1.length d8, .slice B9 (c64 x).f5.f2.length d9, .slice B10 x.f6.length d10, .bool (c64 x).f7, .slice B12 x.f8.length d12, .string (c64 x).f9]) [.int .i64 (c64 x).f0, .int .i64 (c64 x).f1, .int .i64 (c64 x).f2, .string (c64 x).f3, .int .i64 (c64 x).f4.f0, .int .i64 (c64 x).f4.f1, .slice B6 (c64 x).f4.f2.length d6, .int .i64 (c64 x).f5.f0, .slice B8 (c64 x).f5.f1.length d8, .slice B9 (c64 x).f5.f2.length d9, .slice B10 x.f6.length d10, .bool (c64 x).f7, .slice B12 x.f8.length d12, .string (c64 x).f9] rfl rfl rfl (by kernel_rfl) rfl BR.out (Nat.le_of_ble_eq_true rfl) ?_; intro V11 q1 q2; simp only [putSeg, List.setIfInBounds_toArray, List.set_cons_zero, List.set_cons_succ] at q1; replace BR := Aside0.mk q1; replace BO := Aside0.mk (blk_on BO.out q2 (by omega)); replace G6 := Aside0.mk (Kd.R_grown G6.out q2 (fun k hk => by simp only [ne_eq, Option.some.injEq]; omega)); replace G8 := Aside0.mk (Kd.R_grown G8.out q2 (fun k hk => by simp only [ne_eq, Option.some.injEq]; omega)); replace G9 := Aside0.mk (Kd.R_grown G9.out q2 (fun k hk => by simp only [ne_eq, Option.some.injEq]; omega)); replace G10 := Aside0.mk (Kd.R_grown G10.out q2 (fun k hk => by simp only [ne_eq, Option.some.injEq]; omega)); replace G12 := Aside0.mk (Kd.R_grown G12.out q2 (fun k hk => by simp only [ne_eq, Option.some.injEq]; omega)); replace HB := Aside0.mk (on HB.out q2 (by omega)); clear q1 q2))
  refine bodyPost_ret (results_cell_row rfl _ _ _ 68 #[.int .i64 (c64 x).f0, .int .i64 (c64 x).f1, .int .i64 (c64 x).f2, .string (c64 x).f3, .int .i64 (c64 x).f4.f0, .int .i64 (c64 x).f4.f1, .slice B6 (c64 x).f4.f2.length d6, .int .i64 (c64 x).f5.f0, .slice B8 (c64 x).f5.f1.length d8, .slice B9 (c64 x).f5.f2.length d9, .slice B10 x.f6.length d10, .bool (c64 x).f7, .slice B12 x.f8.length d12, .string (c64 x).f9] (0, 0) _ rfl BR.out Try.underlying68 rfl (by kernel_rfl)) rfl ?_
  exact ⟨_, rfl, k68_mkM _ _ _ (c64 x) (Kd.R_mono G6.out (fun _ _ => trivial)) (Kd.R_mono G8.out (fun _ _ => trivial)) (Kd.R_mono G9.out (fun _ _ => trivial)) (Kd.R_mono G10.out (fun _ _ => trivial)) (Kd.R_mono G12.out (fun _ _ => trivial)), HB.out⟩

theorem small64 {x : S64} (h : hold64 x ≤ 1048576) : s64 x := by
  unfold hold64 at h
  have n3 : 0 ≤ (x.f3.size : Int) := (Int.natCast_nonneg _)
  have n4 : 0 ≤ (hold54 x.f4) := (hold54.nn x.f4)
  have n5 : 0 ≤ (hold33 x.f5) := (hold33.nn x.f5)
  have n6 : 0 ≤ ((x.f6.length : Int) + sums hold104 x.f6) := (Int.add_nonneg (Int.natCast_nonneg _) (sums_nn hold104.nn x.f6))
  have n8 : 0 ≤ ((x.f8.length : Int) + sums hold92 x.f8) := (Int.add_nonneg (Int.natCast_nonneg _) (sums_nn hold92.nn x.f8))
  have n9 : 0 ≤ (x.f9.size : Int) := (Int.natCast_nonneg _)
  exact ⟨small54 (by omega), small33 (by omega), (by have := sums_nn hold104.nn x.f6; omega), (by have := sums_nn hold92.nn x.f8; omega)⟩

theorem blockFit_of {x : S64} (h : w64 x) : blockFit (c64 x) := by
  refine ⟨h.2.2.2.1, h.2.2.2.2.1.2.2, h.2.2.2.2.2.1.2.1, h.2.2.2.2.2.1.2.2.1, ⟨by show (x.f6.map c104).length ≤ _; rw [List.length_map]; exact h.2.2.2.2.2.2.1.1, fun t ht => ?_⟩, ⟨by show (x.f8.map c92).length ≤ _; rw [List.length_map]; exact h.2.2.2.2.2.2.2.2.1.1, fun v hv => ?_⟩⟩
  · obtain ⟨y, hy, rfl⟩ := List.mem_map.1 ht
    exact ⟨(h.2.2.2.2.2.2.1.2 y hy).2.1, (h.2.2.2.2.2.2.1.2 y hy).2.2.1⟩
  · obtain ⟨y, hy, rfl⟩ := List.mem_map.1 hv
    exact (h.2.2.2.2.2.2.2.2.1.2 y hy).1

/-! ### laws_eqBlock: printed by compact.py -/
def l68 (x : S68) : Prop := l57 x.f4 ∧ l36 x.f5 ∧ (fun l : List S106 => l.length ≤ 9223372036854775807) x.f6 ∧ (fun l : List S93 => l.length ≤ 9223372036854775807) x.f8
set_option maxHeartbeats 2000000 in
set_option maxRecDepth 100000 in
theorem laws_eqBlock.same {x : S68} (hl : l68 x) {cs ds : List Value} {w : World} (hK : k68.K w x cs) (hL : k68.K w x ds) :
    Calls Try.prog 50 #[.agg cs.toArray, .agg ds.toArray] w fun e w' => e = .returned (.bool true) ∧ Below w.heap.size w w' := by
  obtain ⟨A6, a6, A8, a8, A9, a9, A10, a10, A12, a12, rfl, l6, g6, l8, g8, l9, g9, l10, g10, l12, g12⟩ := k68_open hK
  obtain ⟨D6, d6, D8, d8, D9, d9, D10, d10, D12, d12, rfl, m6, n6, m8, n8, m9, n9, m10, n10, m12, n12⟩ := k68_open hL
  have E4 := Aside0.mk (fun (W : World) (hb : Below w.heap.size w W) => laws_eqQc.same (w := W) (hl.1) (k57_mk W x.f4 l6 (Kd.C_below g6 hb)) (k57_mk W x.f4 m6 (Kd.C_below n6 hb)))
  have E5 := Aside0.mk (fun (W : World) (hb : Below w.heap.size w W) => laws_eqTc.same (w := W) (hl.2.1) (k36_mk W x.f5 l8 (Kd.C_below g8 hb) l9 (Kd.C_below g9 hb)) (k36_mk W x.f5 m8 (Kd.C_below n8 hb) m9 (Kd.C_below n9 hb)))
  have E6 := Aside0.mk (fun (W : World) (hb : Below w.heap.size w W) => laws_eqTxS.same (w := W) (hl.2.2.1) (Kd.C_below g10 hb) l10 (Kd.C_below n10 hb) m10)
  have E8 := Aside0.mk (fun (W : World) (hb : Below w.heap.size w W) => laws_eqValS.same (w := W) (hl.2.2.2) (Kd.C_below g12 hb) l12 (Kd.C_below n12 hb) m12)
  clear hl hK hL l6 g6 m6 n6 l8 g8 m8 n8 l9 g9 m9 n9 l10 g10 m10 n10 l12 g12 m12 n12
  go_enter Try.func50, Try.ntmps50
  go_wp2_with fail
  refine (E4.out _ (atop (atop (Below.refl _ _)))).mono ?_
  rintro _ W1 ⟨rfl, hb⟩
  have BX := Aside0.mk (boxA hb)
  have BY := Aside0.mk (boxB hb)
  have HB := Aside0.mk (off1 (off1 hb))
  clear hb E4
  obtain ⟨b0, b1, b2, b3, b4, b5, b6, b7, b8, b9, b10, b11, b12, b13⟩ := cells14 BX.out
  obtain ⟨y0, y1, y2, y3, y4, y5, y6, y7, y8, y9, y10, y11, y12, y13⟩ := cells14 BY.out
  go_wp2_with fail
  refine (E5.out _ HB.out).mono ?_
  rintro _ W1 ⟨rfl, hb⟩
  clear b0 y0 b1 y1 b2 y2 b3 y3 b4 y4 b5 y5 b6 y6 b7 y7 b8 y8 b9 y9 b10 y10 b11 y11 b12 y12 b13 y13
  replace BX := Aside0.mk (blk_below BX.out hb)
  replace BY := Aside0.mk (blk_below BY.out hb)
  replace HB := Aside0.mk (then_ HB.out hb)
  clear hb E5
  obtain ⟨b0, b1, b2, b3, b4, b5, b6, b7, b8, b9, b10, b11, b12, b13⟩ := cells14 BX.out
  obtain ⟨y0, y1, y2, y3, y4, y5, y6, y7, y8, y9, y10, y11, y12, y13⟩ := cells14 BY.out
  go_wp2_with fail
  refine (E6.out _ HB.out).mono ?_
  rintro _ W1 ⟨rfl, hb⟩
  clear b0 y0 b1 y1 b2 y2 b3 y3 b4 y4 b5 y5 b6 y6 b7 y7 b8 y8 b9 y9 b10 y10 b11 y11 b12 y12 b13 y13
  replace BX := Aside0.mk (blk_below BX.out hb)
  replace BY := Aside0.mk (blk_below BY.out hb)
  replace HB := Aside0.mk (then_ HB.out hb)
  clear hb E6
  obtain ⟨b0, b1, b2, b3, b4, b5, b6, b7, b8, b9, b10, b11, b12, b13⟩ := cells14 BX.out
  obtain ⟨y0, y1, y2, y3, y4, y5, y6, y7, y8, y9, y10, y11, y12, y13⟩ := cells14 BY.out
  go_wp2_with fail
  refine (E8.out _ HB.out).mono ?_
  rintro _ W1 ⟨rfl, hb⟩
  clear b0 y0 b1 y1 b2 y2 b3 y3 b4 y4 b5 y5 b6 y6 b7 y7 b8 y8 b9 y9 b10 y10 b11 y11 b12 y12 b13 y13
  replace BX := Aside0.mk (blk_below BX.out hb)
  replace BY := Aside0.mk (blk_below BY.out hb)
  replace HB := Aside0.mk (then_ HB.out hb)
  clear hb E8
  obtain ⟨b0, b1, b2, b3, b4, b5, b6, b7, b8, b9, b10, b11, b12, b13⟩ := cells14 BX.out
  obtain ⟨y0, y1, y2, y3, y4, y5, y6, y7, y8, y9, y10, y11, y12, y13⟩ := cells14 BY.out
  go_wp2
  go_ret
  exact ⟨rfl, HB.out⟩

theorem long64 {x : S64} (h : s64 x) : l68 (c64 x) := by
  exact ⟨long54 h.1, long33 h.2.1, (by show (x.f6.map c104).length ≤ _; rw [List.length_map]; exact Nat.le_trans h.2.2.1 (by decide)), (by show (x.f8.map c92).length ≤ _; rw [List.length_map]; exact Nat.le_trans h.2.2.2 (by decide))⟩

end Go.Proofs.Ytieecjilnaijkaa.F
