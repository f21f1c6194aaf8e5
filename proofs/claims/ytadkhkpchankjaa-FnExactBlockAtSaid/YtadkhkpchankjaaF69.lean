/-
Functions of the program, what they come to, and that Go comes to just that: laws_szStringS, laws_szQc, laws_szIntS, laws_szTc, laws_szBlock, laws_toStringS, laws_toQc, zlong_Qc, laws_toIntS, laws_toTc, zlong_Tc, laws_toBlock, zlong_Block, laws_markBlock.
Conditions: those that each theorem names.
-/
import Derived.Test.YtadkhkpchankjaaFAbs
import Derived.Test.YtadkhkpchankjaaF42
import Derived.Test.YtadkhkpchankjaaF45
import Derived.Test.YtadkhkpchankjaaF48
import Derived.Test.YtadkhkpchankjaaF54
import Derived.Test.YtadkhkpchankjaaF60
import Derived.Test.YtadkhkpchankjaaF61
import Derived.Test.YtadkhkpchankjaaF68
import Derived.Test.YtadkhkpchankjaaWApart
import Derived.Test.YtadkhkpchankjaaWKept
import Derived.Test.YtadkhkpchankjaaWMore
import Derived.Test.YtadkhkpchankjaaFam
set_option linter.unusedVariables false
set_option linter.unusedSimpArgs false
namespace Go.Proofs.Ytadkhkpchankjaa.F
open Go.RowKit Go.Proofs.YtadkhkpchankjaaW.PrintWords Go.Proofs.YtadkhkpchankjaaW.PrintLast Go.Proofs.Ytadkhkpchankjaa.Base Go.Proofs.Ytadkhkpchankjaa.BW
open Go.Proofs.Ytadkhkpchankjaa.FamW
open Go.Proofs.YtadkhkpchankjaaW.PrintMore
attribute [local go_sem] max2_int min2_int max_two min_two max_three min_three max_four min_four   -- for this text's walks alone

/-! ### laws_szStringS: printed by compact.py -/
set_option maxHeartbeats 1000000 in
set_option maxRecDepth 100000 in
theorem laws_szStringS.does {xs : List ByteArray} {left : Int} (hw : (fun l : List ByteArray => l.length ≤ maxLen ∧ ∀ x ∈ l, (fun s : ByteArray => s.size ≤ maxLen) x) xs) (h0 : 0 ≤ left) (h1 : left ≤ 1048576) {B : Option Addr} {c : Nat} {w : World} (hr : Kd.C Kd.string w B xs.length xs) (hc : xs.length ≤ c) :
    Calls Try.prog 192 #[.slice B xs.length c, .int .i64 left] w fun e w' => e = .returned (.int .i64 (szR ((xs.length : Int) + sums (fun x : ByteArray => (x.size : Int)) xs) left)) ∧ Below w.heap.size w w' := by
  have hlen : (xs.length : Int) ≤ 9223372036854775807 := by have h := hw.1; have : maxLen = 9223372036854775807 := rfl; omega
  have hnn := sums_nn (h := (fun x : ByteArray => (x.size : Int))) (fun x => Int.natCast_nonneg _) xs
  obtain ⟨r, hR⟩ : ∃ r, szR ((xs.length : Int) + sums (fun x : ByteArray => (x.size : Int)) xs) left = r := ⟨_, rfl⟩
  rw [hR]
  by_cases c0 : (xs.length : Int) ≤ left
  rotate_left
  · have H0 : r = -1 := hR ▸ szR_no (by omega)
    have c0' : decide (left - (xs.length : Int) < 0) = true := decide_eq_true (by omega)
    clear hw hr hc hR c0 hnn
    subst H0
    go_enter Try.func192, Try.ntmps192
    go_wp2
    go_ret
    exact ⟨rfl, Below.refl _ _⟩
  have c0' : decide (left - (xs.length : Int) < 0) = false := decide_eq_false (by omega)
  have HT := Aside0.mk (sz_first (h := (fun x : ByteArray => (x.size : Int))) (fun x => Int.natCast_nonneg _) hR c0)
  have HR := Aside0.mk hr
  have HW := Aside0.mk hw.2
  have hb0 : left - (xs.length : Int) ≤ 1048576 := by omega
  have hb1 : 0 ≤ left - (xs.length : Int) := by omega
  clear hw hr hR hnn
  go_enter Try.func192, Try.ntmps192
  go_wp2
  go_loopg [1, 5] xs.length (fun g v1 v5 w' => ∃ (s i : Int) (e : On w), v1 = .int .i64 s ∧ v5 = .int .i64 i ∧ w' = e.now ∧ 0 ≤ i ∧ i ≤ xs.length ∧ 0 ≤ s ∧ s ≤ 1048576 ∧ Aside0 ((xs.length : Int) - i ≤ g) ∧ Aside0 (szR (sums (fun x : ByteArray => (x.size : Int)) (xs.drop i.toNat)) s = r))
  case atStart => exact ⟨_, 0, On.here w, rfl, rfl, rfl, Int.le_refl _, by omega, hb1, hb0, ⟨by omega⟩, HT⟩
  case round =>
    clear HT c0 hb0 hb1 c0' h0 h1
    obtain ⟨s, i, e, rfl, rfl, rfl, hi0, hi1, hs0, hs1, HG, HT⟩ := hrel
    by_cases c1 : i < (xs.length : Int)
    rotate_left
    · have HF := Aside0.mk (sz_end (by omega) hs0 HT.out)
      go_wp2
      go_ret
      exact ⟨by obtain rfl := HF.out; rfl, e.ok⟩
    obtain ⟨ad, e1, h0⟩ := Kd.at_string HR.out i hi0 c1
    cases e1
    have R0 := On.cell h0
    obtain ⟨y, hy⟩ : ∃ y, rdOf ByteArray.empty xs i = y := ⟨_, rfl⟩
    have hz : xs.getD i.toNat ByteArray.empty = y := hy
    have hys : (y.size : Int) ≤ 9223372036854775807 := by have h := HW.out y (by rw [← hz]; exact getD_mem (by omega) _); have : maxLen = 9223372036854775807 := rfl; omega
    simp only [hy] at R0
    clear h0 hy
    by_cases c2 : (y.size : Int) ≤ s
    rotate_left
    · have H1 := Aside0.mk (sz_over (z := ByteArray.empty) (fun x => Int.natCast_nonneg _) hi0 c1 HT.out (by rw [hz]; omega))
      have c2' : decide (s - (y.size : Int) < 0) = true := decide_eq_true (by omega)
      clear hz c2
      go_wp2
      go_ret
      exact ⟨by obtain rfl := H1.out; rfl, e.ok⟩
    have H1 := Aside0.mk (sz_next (z := ByteArray.empty) (fun x => Int.natCast_nonneg _) hi0 c1 hs0 HT.out (by rw [hz]; omega))
    rw [hz] at H1
    have c2' : decide (s - (y.size : Int) < 0) = false := decide_eq_false (by omega)
    have hq : 0 ≤ s - (y.size : Int) := by omega
    have hq2 : s - (y.size : Int) ≤ 1048576 := by omega
    clear hz c2
    go_wp2
    go_roundg (xs.length - i.toNat - 1)
    case measure => have := HG.out; omega
    case rel => exact ⟨_, i + 1, e, rfl, rfl, rfl, by omega, by omega, hq, hq2, ⟨by omega⟩, H1⟩

/-! ### laws_szQc: printed by compact.py -/
/-- How much a value of struct type 105 holds. -/
def hold105 (x : S105) : Int := ((x.f2.length : Int) + sums (fun x : ByteArray => (x.size : Int)) x.f2) + (0)
theorem hold105.nn (x : S105) : 0 ≤ hold105 x := by
  unfold hold105
  have n2 := (show 0 ≤ ((x.f2.length : Int) + sums (fun x : ByteArray => (x.size : Int)) x.f2) from (Int.add_nonneg (Int.natCast_nonneg _) (sums_nn (fun x => Int.natCast_nonneg _) x.f2)))
  omega
set_option maxHeartbeats 2000000 in
set_option maxRecDepth 100000 in
theorem laws_szQc.does {x : S105} {left : Int} (hw : w105 x) (h0 : 0 ≤ left) (h1 : left ≤ 1048576) {cs : List Value} {w : World} (hK : k105.K w x cs) :
    Calls Try.prog 149 #[.agg cs.toArray, .int .i64 left] w fun e w' => e = .returned (.int .i64 (szR (hold105 x) left)) ∧ Below w.heap.size w w' := by
  have HK := Aside0.mk hK
  obtain ⟨A2, a2, rfl, l2, g2⟩ := k105_open hK
  obtain ⟨r, hR⟩ : ∃ r, szR (hold105 x) left = r := ⟨_, rfl⟩
  rw [hR]
  unfold hold105 at hR
  have n2 : 0 ≤ ((x.f2.length : Int) + sums (fun x : ByteArray => (x.size : Int)) x.f2) := (Int.add_nonneg (Int.natCast_nonneg _) (sums_nn (fun x => Int.natCast_nonneg _) x.f2))
  have E2 := Aside0.mk (fun (W : World) (s : Int) (hb : Below w.heap.size w W) (q0 : 0 ≤ s) (q1 : s ≤ 1048576) => laws_szStringS.does (w := W) hw.2.2 q0 q1 (Kd.C_below g2 hb) l2)
  generalize ((x.f2.length : Int) + sums (fun x : ByteArray => (x.size : Int)) x.f2) = m2 at hR n2 E2
  clear hw hK l2 g2
  have HR := Aside0.mk hR
  clear hR
  have HB := Aside0.mk (Below.refl w.heap.size w)
  go_enter Try.func149, Try.ntmps149
  by_cases d2 : m2 ≤ left
  rotate_left
  · have H1 : Aside0 (r = -1) := ⟨HR.out ▸ szR_no (by omega)⟩
    have E := Aside0.mk (fun (W : World) hb => E2.out W (left) hb (by omega) (by omega))
    rw [szR_no (by omega)] at E
    clear d2 HR
    go_wp2_with fail
    refine (E.out _ (atop HB.out)).mono ?_
    rintro _ W1 ⟨rfl, hb⟩
    replace HB := Aside0.mk (then_ HB.out (off1 hb))
    clear hb
    go_wp2
    go_ret
    exact ⟨by obtain rfl := H1.out; rfl, HB.out⟩
  have F2 := Aside0.mk (fun (W : World) hb => E2.out W (left) hb (by omega) (by omega))
  rw [szR_ge d2] at F2
  replace HR := Aside0.mk ((sz_part d2).symm.trans HR.out)
  have c_2 : decide (left - m2 < 0) = false := decide_eq_false (by omega)
  have p_2 : 0 ≤ left - m2 := by omega
  have q_2 : left - m2 ≤ 1048576 := by omega
  clear d2 E2
  go_wp2_with fail
  refine (F2.out _ (atop HB.out)).mono ?_
  rintro _ W2 ⟨rfl, hb⟩
  have BX := Aside0.mk (box hb)
  replace HB := Aside0.mk (then_ HB.out (off1 hb))
  clear hb F2
  have H1 := Aside0.mk (HR.out.symm.trans (szR_zero (by omega)))
  obtain ⟨b0, b1, b2⟩ := cells3 BX.out
  clear HR
  go_wp2
  go_ret
  exact ⟨by obtain rfl := H1.out; rfl, HB.out⟩

/-! ### laws_szIntS: printed by compact.py -/
set_option maxHeartbeats 1000000 in
set_option maxRecDepth 100000 in
theorem laws_szIntS.does {xs : List Int} {left : Int} (hw : (fun l : List Int => l.length ≤ maxLen ∧ ∀ x ∈ l, (fun n : Int => (Lit.int .i64 n).wf = true) x) xs) (h0 : 0 ≤ left) (h1 : left ≤ 1048576) {B : Option Addr} {c : Nat} {w : World} (hr : Kd.C (Kd.int .i64) w B xs.length xs) (hc : xs.length ≤ c) :
    Calls Try.prog 193 #[.slice B xs.length c, .int .i64 left] w fun e w' => e = .returned (.int .i64 (szR (xs.length : Int) left)) ∧ Below w.heap.size w w' := by
  have hlen : (xs.length : Int) ≤ 9223372036854775807 := by have h := hw.1; have : maxLen = 9223372036854775807 := rfl; omega
  obtain ⟨r, hR⟩ : ∃ r, szR (xs.length : Int) left = r := ⟨_, rfl⟩
  rw [hR]
  by_cases c0 : (xs.length : Int) ≤ left
  rotate_left
  · have H0 : r = -1 := hR ▸ szR_no (by omega)
    have c0' : decide (left - (xs.length : Int) < 0) = true := decide_eq_true (by omega)
    clear hw hr hc hR c0
    subst H0
    go_enter Try.func193, Try.ntmps193
    go_wp2
    go_ret
    exact ⟨rfl, Below.refl _ _⟩
  have c0' : decide (left - (xs.length : Int) < 0) = false := decide_eq_false (by omega)
  have H0 : r = left - (xs.length : Int) := hR ▸ szR_ge c0
  have H1 := Aside0.mk H0
  clear hw hr hc hR c0 H0
  go_enter Try.func193, Try.ntmps193
  go_wp2
  go_ret
  exact ⟨by obtain rfl := H1.out; rfl, Below.refl _ _⟩

/-! ### laws_szTc: printed by compact.py -/
/-- How much a value of struct type 106 holds. -/
def hold106 (x : S106) : Int := ((x.f1.length : Int) + sums (fun x : ByteArray => (x.size : Int)) x.f1) + ((x.f2.length : Int) + (0))
theorem hold106.nn (x : S106) : 0 ≤ hold106 x := by
  unfold hold106
  have n1 := (show 0 ≤ ((x.f1.length : Int) + sums (fun x : ByteArray => (x.size : Int)) x.f1) from (Int.add_nonneg (Int.natCast_nonneg _) (sums_nn (fun x => Int.natCast_nonneg _) x.f1)))
  have n2 := (show 0 ≤ (x.f2.length : Int) from (Int.natCast_nonneg _))
  omega
set_option maxHeartbeats 2000000 in
set_option maxRecDepth 100000 in
theorem laws_szTc.does {x : S106} {left : Int} (hw : w106 x) (h0 : 0 ≤ left) (h1 : left ≤ 1048576) {cs : List Value} {w : World} (hK : k106.K w x cs) :
    Calls Try.prog 150 #[.agg cs.toArray, .int .i64 left] w fun e w' => e = .returned (.int .i64 (szR (hold106 x) left)) ∧ Below w.heap.size w w' := by
  have HK := Aside0.mk hK
  obtain ⟨A1, a1, A2, a2, rfl, l1, g1, l2, g2⟩ := k106_open hK
  obtain ⟨r, hR⟩ : ∃ r, szR (hold106 x) left = r := ⟨_, rfl⟩
  rw [hR]
  unfold hold106 at hR
  have n1 : 0 ≤ ((x.f1.length : Int) + sums (fun x : ByteArray => (x.size : Int)) x.f1) := (Int.add_nonneg (Int.natCast_nonneg _) (sums_nn (fun x => Int.natCast_nonneg _) x.f1))
  have E1 := Aside0.mk (fun (W : World) (s : Int) (hb : Below w.heap.size w W) (q0 : 0 ≤ s) (q1 : s ≤ 1048576) => laws_szStringS.does (w := W) hw.2.1 q0 q1 (Kd.C_below g1 hb) l1)
  have n2 : 0 ≤ (x.f2.length : Int) := (Int.natCast_nonneg _)
  have E2 := Aside0.mk (fun (W : World) (s : Int) (hb : Below w.heap.size w W) (q0 : 0 ≤ s) (q1 : s ≤ 1048576) => laws_szIntS.does (w := W) hw.2.2 q0 q1 (Kd.C_below g2 hb) l2)
  generalize ((x.f1.length : Int) + sums (fun x : ByteArray => (x.size : Int)) x.f1) = m1 at hR n1 E1
  generalize (x.f2.length : Int) = m2 at hR n2 E2
  clear hw hK l1 g1 l2 g2
  have HR := Aside0.mk hR
  clear hR
  have HB := Aside0.mk (Below.refl w.heap.size w)
  go_enter Try.func150, Try.ntmps150
  by_cases d1 : m1 ≤ left
  rotate_left
  · have H1 : Aside0 (r = -1) := ⟨HR.out ▸ szR_no (by omega)⟩
    have E := Aside0.mk (fun (W : World) hb => E1.out W (left) hb (by omega) (by omega))
    rw [szR_no (by omega)] at E
    clear d1 HR
    go_wp2_with fail
    refine (E.out _ (atop HB.out)).mono ?_
    rintro _ W1 ⟨rfl, hb⟩
    replace HB := Aside0.mk (then_ HB.out (off1 hb))
    clear hb
    go_wp2
    go_ret
    exact ⟨by obtain rfl := H1.out; rfl, HB.out⟩
  have F1 := Aside0.mk (fun (W : World) hb => E1.out W (left) hb (by omega) (by omega))
  rw [szR_ge d1] at F1
  replace HR := Aside0.mk ((sz_part d1).symm.trans HR.out)
  have c_1 : decide (left - m1 < 0) = false := decide_eq_false (by omega)
  have p_1 : 0 ≤ left - m1 := by omega
  have q_1 : left - m1 ≤ 1048576 := by omega
  clear d1 E1
  go_wp2_with fail
  refine (F1.out _ (atop HB.out)).mono ?_
  rintro _ W1 ⟨rfl, hb⟩
  have BX := Aside0.mk (box hb)
  replace HB := Aside0.mk (then_ HB.out (off1 hb))
  clear hb F1
  by_cases d2 : m2 ≤ left - m1
  rotate_left
  · have H1 : Aside0 (r = -1) := ⟨HR.out ▸ szR_no (by omega)⟩
    have E := Aside0.mk (fun (W : World) hb => E2.out W (left - m1) hb (by omega) (by omega))
    rw [szR_no (by omega)] at E
    obtain ⟨b0, b1, b2⟩ := cells3 BX.out
    clear d2 HR
    go_wp2_with fail
    refine (E.out _ HB.out).mono ?_
    rintro _ W1 ⟨rfl, hb⟩
    replace HB := Aside0.mk (then_ HB.out hb)
    clear hb
    go_wp2
    go_ret
    exact ⟨by obtain rfl := H1.out; rfl, HB.out⟩
  have F2 := Aside0.mk (fun (W : World) hb => E2.out W (left - m1) hb (by omega) (by omega))
  rw [szR_ge d2] at F2
  obtain ⟨b0, b1, b2⟩ := cells3 BX.out
  replace HR := Aside0.mk ((sz_part d2).symm.trans HR.out)
  have c_2 : decide (left - m1 - m2 < 0) = false := decide_eq_false (by omega)
  have p_2 : 0 ≤ left - m1 - m2 := by omega
  have q_2 : left - m1 - m2 ≤ 1048576 := by omega
  clear d2 E2
  go_wp2_with fail
  refine (F2.out _ HB.out).mono ?_
  rintro _ W2 ⟨rfl, hb⟩
  replace BX := Aside0.mk (blk_below BX.out hb)
  replace HB := Aside0.mk (then_ HB.out hb)
  clear b0 b1 b2
  clear hb F2
  have H1 := Aside0.mk (HR.out.symm.trans (szR_zero (by omega)))
  obtain ⟨b0, b1, b2⟩ := cells3 BX.out
  clear HR
  go_wp2
  go_ret
  exact ⟨by obtain rfl := H1.out; rfl, HB.out⟩

/-! ### laws_szBlock: printed by compact.py -/
/-- How much a value of struct type 109 holds. -/
def hold109 (x : S109) : Int := (x.f3.size : Int) + ((hold105 x.f4) + ((hold106 x.f5) + (((x.f6.length : Int) + sums hold191 x.f6) + (((x.f8.length : Int) + sums hold159 x.f8) + ((x.f9.size : Int) + (0))))))
theorem hold109.nn (x : S109) : 0 ≤ hold109 x := by
  unfold hold109
  have n3 := (show 0 ≤ (x.f3.size : Int) from (Int.natCast_nonneg _))
  have n4 := (show 0 ≤ (hold105 x.f4) from (hold105.nn x.f4))
  have n5 := (show 0 ≤ (hold106 x.f5) from (hold106.nn x.f5))
  have n6 := (show 0 ≤ ((x.f6.length : Int) + sums hold191 x.f6) from (Int.add_nonneg (Int.natCast_nonneg _) (sums_nn hold191.nn x.f6)))
  have n8 := (show 0 ≤ ((x.f8.length : Int) + sums hold159 x.f8) from (Int.add_nonneg (Int.natCast_nonneg _) (sums_nn hold159.nn x.f8)))
  have n9 := (show 0 ≤ (x.f9.size : Int) from (Int.natCast_nonneg _))
  omega
set_option maxHeartbeats 2000000 in
set_option maxRecDepth 100000 in
theorem laws_szBlock.does {x : S109} {left : Int} (hw : w109 x) (h0 : 0 ≤ left) (h1 : left ≤ 1048576) {cs : List Value} {w : World} (hK : k109.K w x cs) :
    Calls Try.prog 67 #[.agg cs.toArray, .int .i64 left] w fun e w' => e = .returned (.int .i64 (szR (hold109 x) left)) ∧ Below w.heap.size w w' := by
  have HK := Aside0.mk hK
  obtain ⟨A6, a6, A8, a8, A9, a9, A10, a10, A12, a12, rfl, l6, g6, l8, g8, l9, g9, l10, g10, l12, g12⟩ := k109_open hK
  obtain ⟨r, hR⟩ : ∃ r, szR (hold109 x) left = r := ⟨_, rfl⟩
  rw [hR]
  unfold hold109 at hR
  have n3 : 0 ≤ (x.f3.size : Int) := (Int.natCast_nonneg _)
  have z3 : (x.f3.size : Int) ≤ 9223372036854775807 := by have h := hw.2.2.2.1; have : maxLen = 9223372036854775807 := rfl; omega
  have n4 : 0 ≤ (hold105 x.f4) := (hold105.nn x.f4)
  have E4 := Aside0.mk (fun (W : World) (s : Int) (hb : Below w.heap.size w W) (q0 : 0 ≤ s) (q1 : s ≤ 1048576) => laws_szQc.does (w := W) hw.2.2.2.2.1 q0 q1 (k105_mk W x.f4 l6 (Kd.C_below g6 hb)))
  have n5 : 0 ≤ (hold106 x.f5) := (hold106.nn x.f5)
  have E5 := Aside0.mk (fun (W : World) (s : Int) (hb : Below w.heap.size w W) (q0 : 0 ≤ s) (q1 : s ≤ 1048576) => laws_szTc.does (w := W) hw.2.2.2.2.2.1 q0 q1 (k106_mk W x.f5 l8 (Kd.C_below g8 hb) l9 (Kd.C_below g9 hb)))
  have n6 : 0 ≤ ((x.f6.length : Int) + sums hold191 x.f6) := (Int.add_nonneg (Int.natCast_nonneg _) (sums_nn hold191.nn x.f6))
  have E6 := Aside0.mk (fun (W : World) (s : Int) (hb : Below w.heap.size w W) (q0 : 0 ≤ s) (q1 : s ≤ 1048576) => laws_szTxS.does (w := W) hw.2.2.2.2.2.2.1 q0 q1 (Kd.C_below g10 hb) l10)
  have n8 : 0 ≤ ((x.f8.length : Int) + sums hold159 x.f8) := (Int.add_nonneg (Int.natCast_nonneg _) (sums_nn hold159.nn x.f8))
  have E8 := Aside0.mk (fun (W : World) (s : Int) (hb : Below w.heap.size w W) (q0 : 0 ≤ s) (q1 : s ≤ 1048576) => laws_szValS.does (w := W) hw.2.2.2.2.2.2.2.2.1 q0 q1 (Kd.C_below g12 hb) l12)
  have n9 : 0 ≤ (x.f9.size : Int) := (Int.natCast_nonneg _)
  have z9 : (x.f9.size : Int) ≤ 9223372036854775807 := by have h := hw.2.2.2.2.2.2.2.2.2; have : maxLen = 9223372036854775807 := rfl; omega
  obtain ⟨m3, hm3⟩ : ∃ m : Int, m = (x.f3.size : Int) := ⟨_, rfl⟩
  generalize (hold105 x.f4) = m4 at hR n4 E4
  generalize (hold106 x.f5) = m5 at hR n5 E5
  generalize ((x.f6.length : Int) + sums hold191 x.f6) = m6 at hR n6 E6
  generalize ((x.f8.length : Int) + sums hold159 x.f8) = m8 at hR n8 E8
  obtain ⟨m9, hm9⟩ : ∃ m : Int, m = (x.f9.size : Int) := ⟨_, rfl⟩
  rw [← hm3] at hR n3 z3
  rw [← hm9] at hR n9 z9
  clear hw hK l6 g6 l8 g8 l9 g9 l10 g10 l12 g12
  have HR := Aside0.mk hR
  clear hR
  have HM3 := Aside0.mk hm3
  clear hm3
  have HM9 := Aside0.mk hm9
  clear hm9
  have HB := Aside0.mk (Below.refl w.heap.size w)
  go_enter Try.func67, Try.ntmps67
  by_cases d3 : m3 ≤ left
  rotate_left
  · have H1 : Aside0 (r = -1) := ⟨HR.out ▸ szR_no (by omega)⟩
    have c_ : decide (left - ((x.f3.size : Int) : Int) < 0) = true := decide_eq_true (by have := HM3.out; omega)
    have z_ : (x.f3.size : Int) ≤ 9223372036854775807 := by have := HM3.out; omega
    clear d3 HR
    go_wp2
    go_ret
    exact ⟨by obtain rfl := H1.out; rfl, atop HB.out⟩
  replace HR := Aside0.mk ((sz_part d3).symm.trans HR.out)
  have HN3 := HM3.out
  subst HN3
  clear HM3
  have c_3 : decide (left - ((x.f3.size : Int)) < 0) = false := decide_eq_false (by omega)
  have p_3 : 0 ≤ left - (x.f3.size : Int) := by omega
  have q_3 : left - (x.f3.size : Int) ≤ 1048576 := by omega
  clear d3
  by_cases d4 : m4 ≤ left - (x.f3.size : Int)
  rotate_left
  · have H1 : Aside0 (r = -1) := ⟨HR.out ▸ szR_no (by omega)⟩
    have E := Aside0.mk (fun (W : World) hb => E4.out W (left - (x.f3.size : Int)) hb (by omega) (by omega))
    rw [szR_no (by omega)] at E
    clear d4 HR
    go_wp2_with fail
    refine (E.out _ (atop HB.out)).mono ?_
    rintro _ W1 ⟨rfl, hb⟩
    replace HB := Aside0.mk (then_ HB.out (off1 hb))
    clear hb
    go_wp2
    go_ret
    exact ⟨by obtain rfl := H1.out; rfl, HB.out⟩
  have F4 := Aside0.mk (fun (W : World) hb => E4.out W (left - (x.f3.size : Int)) hb (by omega) (by omega))
  rw [szR_ge d4] at F4
  replace HR := Aside0.mk ((sz_part d4).symm.trans HR.out)
  have c_4 : decide (left - (x.f3.size : Int) - m4 < 0) = false := decide_eq_false (by omega)
  have p_4 : 0 ≤ left - (x.f3.size : Int) - m4 := by omega
  have q_4 : left - (x.f3.size : Int) - m4 ≤ 1048576 := by omega
  clear d4 E4
  go_wp2_with fail
  refine (F4.out _ (atop HB.out)).mono ?_
  rintro _ W4 ⟨rfl, hb⟩
  have BX := Aside0.mk (box hb)
  replace HB := Aside0.mk (then_ HB.out (off1 hb))
  clear hb F4
  by_cases d5 : m5 ≤ left - (x.f3.size : Int) - m4
  rotate_left
  · have H1 : Aside0 (r = -1) := ⟨HR.out ▸ szR_no (by omega)⟩
    have E := Aside0.mk (fun (W : World) hb => E5.out W (left - (x.f3.size : Int) - m4) hb (by omega) (by omega))
    rw [szR_no (by omega)] at E
    obtain ⟨b0, b1, b2, b3, b4, b5, b6, b7, b8, b9, b10, b11, b12, b13⟩ := cells14 BX.out
    clear d5 HR
    go_wp2_with fail
    refine (E.out _ HB.out).mono ?_
    rintro _ W1 ⟨rfl, hb⟩
    replace HB := Aside0.mk (then_ HB.out hb)
    clear hb
    go_wp2
    go_ret
    exact ⟨by obtain rfl := H1.out; rfl, HB.out⟩
  have F5 := Aside0.mk (fun (W : World) hb => E5.out W (left - (x.f3.size : Int) - m4) hb (by omega) (by omega))
  rw [szR_ge d5] at F5
  obtain ⟨b0, b1, b2, b3, b4, b5, b6, b7, b8, b9, b10, b11, b12, b13⟩ := cells14 BX.out
  replace HR := Aside0.mk ((sz_part d5).symm.trans HR.out)
  have c_5 : decide (left - (x.f3.size : Int) - m4 - m5 < 0) = false := decide_eq_false (by omega)
  have p_5 : 0 ≤ left - (x.f3.size : Int) - m4 - m5 := by omega
  have q_5 : left - (x.f3.size : Int) - m4 - m5 ≤ 1048576 := by omega
  clear d5 E5
  go_wp2_with fail
  refine (F5.out _ HB.out).mono ?_
  rintro _ W5 ⟨rfl, hb⟩
  replace BX := Aside0.mk (blk_below BX.out hb)
  replace HB := Aside0.mk (then_ HB.out hb)
  clear b0 b1 b2 b3 b4 b5 b6 b7 b8 b9 b10 b11 b12 b13
  clear hb F5
  by_cases d6 : m6 ≤ left - (x.f3.size : Int) - m4 - m5
  rotate_left
  · have H1 : Aside0 (r = -1) := ⟨HR.out ▸ szR_no (by omega)⟩
    have E := Aside0.mk (fun (W : World) hb => E6.out W (left - (x.f3.size : Int) - m4 - m5) hb (by omega) (by omega))
    rw [szR_no (by omega)] at E
    obtain ⟨b0, b1, b2, b3, b4, b5, b6, b7, b8, b9, b10, b11, b12, b13⟩ := cells14 BX.out
    clear d6 HR
    go_wp2_with fail
    refine (E.out _ HB.out).mono ?_
    rintro _ W1 ⟨rfl, hb⟩
    replace HB := Aside0.mk (then_ HB.out hb)
    clear hb
    go_wp2
    go_ret
    exact ⟨by obtain rfl := H1.out; rfl, HB.out⟩
  have F6 := Aside0.mk (fun (W : World) hb => E6.out W (left - (x.f3.size : Int) - m4 - m5) hb (by omega) (by omega))
  rw [szR_ge d6] at F6
  obtain ⟨b0, b1, b2, b3, b4, b5, b6, b7, b8, b9, b10, b11, b12, b13⟩ := cells14 BX.out
  replace HR := Aside0.mk ((sz_part d6).symm.trans HR.out)
  have c_6 : decide (left - (x.f3.size : Int) - m4 - m5 - m6 < 0) = false := decide_eq_false (by omega)
  have p_6 : 0 ≤ left - (x.f3.size : Int) - m4 - m5 - m6 := by omega
  have q_6 : left - (x.f3.size : Int) - m4 - m5 - m6 ≤ 1048576 := by omega
  clear d6 E6
  go_wp2_with fail
  refine (F6.out _ HB.out).mono ?_
  rintro _ W6 ⟨rfl, hb⟩
  replace BX := Aside0.mk (blk_below BX.out hb)
  replace HB := Aside0.mk (then_ HB.out hb)
  clear b0 b1 b2 b3 b4 b5 b6 b7 b8 b9 b10 b11 b12 b13
  clear hb F6
  by_cases d8 : m8 ≤ left - (x.f3.size : Int) - m4 - m5 - m6
  rotate_left
  · have H1 : Aside0 (r = -1) := ⟨HR.out ▸ szR_no (by omega)⟩
    have E := Aside0.mk (fun (W : World) hb => E8.out W (left - (x.f3.size : Int) - m4 - m5 - m6) hb (by omega) (by omega))
    rw [szR_no (by omega)] at E
    obtain ⟨b0, b1, b2, b3, b4, b5, b6, b7, b8, b9, b10, b11, b12, b13⟩ := cells14 BX.out
    clear d8 HR
    go_wp2_with fail
    refine (E.out _ HB.out).mono ?_
    rintro _ W1 ⟨rfl, hb⟩
    replace HB := Aside0.mk (then_ HB.out hb)
    clear hb
    go_wp2
    go_ret
    exact ⟨by obtain rfl := H1.out; rfl, HB.out⟩
  have F8 := Aside0.mk (fun (W : World) hb => E8.out W (left - (x.f3.size : Int) - m4 - m5 - m6) hb (by omega) (by omega))
  rw [szR_ge d8] at F8
  obtain ⟨b0, b1, b2, b3, b4, b5, b6, b7, b8, b9, b10, b11, b12, b13⟩ := cells14 BX.out
  replace HR := Aside0.mk ((sz_part d8).symm.trans HR.out)
  have c_8 : decide (left - (x.f3.size : Int) - m4 - m5 - m6 - m8 < 0) = false := decide_eq_false (by omega)
  have p_8 : 0 ≤ left - (x.f3.size : Int) - m4 - m5 - m6 - m8 := by omega
  have q_8 : left - (x.f3.size : Int) - m4 - m5 - m6 - m8 ≤ 1048576 := by omega
  clear d8 E8
  go_wp2_with fail
  refine (F8.out _ HB.out).mono ?_
  rintro _ W8 ⟨rfl, hb⟩
  replace BX := Aside0.mk (blk_below BX.out hb)
  replace HB := Aside0.mk (then_ HB.out hb)
  clear b0 b1 b2 b3 b4 b5 b6 b7 b8 b9 b10 b11 b12 b13
  clear hb F8
  by_cases d9 : m9 ≤ left - (x.f3.size : Int) - m4 - m5 - m6 - m8
  rotate_left
  · have H1 : Aside0 (r = -1) := ⟨HR.out ▸ szR_no (by omega)⟩
    have c_ : decide (left - (x.f3.size : Int) - m4 - m5 - m6 - m8 - ((x.f9.size : Int) : Int) < 0) = true := decide_eq_true (by have := HM9.out; omega)
    obtain ⟨b0, b1, b2, b3, b4, b5, b6, b7, b8, b9, b10, b11, b12, b13⟩ := cells14 BX.out
    have z_ : (x.f9.size : Int) ≤ 9223372036854775807 := by have := HM9.out; omega
    clear d9 HR
    go_wp2
    go_ret
    exact ⟨by obtain rfl := H1.out; rfl, HB.out⟩
  replace HR := Aside0.mk ((sz_part d9).symm.trans HR.out)
  have HN9 := HM9.out
  subst HN9
  clear HM9
  have c_9 : decide (left - (x.f3.size : Int) - m4 - m5 - m6 - m8 - ((x.f9.size : Int)) < 0) = false := decide_eq_false (by omega)
  have p_9 : 0 ≤ left - (x.f3.size : Int) - m4 - m5 - m6 - m8 - (x.f9.size : Int) := by omega
  have q_9 : left - (x.f3.size : Int) - m4 - m5 - m6 - m8 - (x.f9.size : Int) ≤ 1048576 := by omega
  clear d9
  have H1 := Aside0.mk (HR.out.symm.trans (szR_zero (by omega)))
  obtain ⟨b0, b1, b2, b3, b4, b5, b6, b7, b8, b9, b10, b11, b12, b13⟩ := cells14 BX.out
  clear HR
  go_wp2
  go_ret
  exact ⟨by obtain rfl := H1.out; rfl, HB.out⟩

/-! ### laws_toStringS: function 199 -/
def laws_toStringS.l0 : Nat → List ByteArray → List ByteArray → Int → Option (List ByteArray)
  | 0, _, _, _ => none
  | k + 1, x0, x3, x4 => if x4 < (x0.length : Int) then (if 0 ≤ x4 then (if x4 < (x3.length : Int) then (laws_toStringS.l0 k x0 (x3.set (x4 : Int).toNat (rdOf ByteArray.empty x0 x4)) (wrap64 (x4 + 1))) else (none)) else (none)) else (some x3)
def laws_toStringS.f (k : Nat) (l0 : List ByteArray) : Option (List ByteArray) := if 0 ≤ (l0.length : Int) then (if ((l0.length : Int) : Int).toNat ≤ 17592186044416 then (laws_toStringS.l0 k l0 (List.replicate ((l0.length : Int) : Int).toNat (⟨#[]⟩ : ByteArray)) 0) else (none)) else (none)
theorem laws_toStringS.mono_l : ∀ k, (∀ y0 y1 y2, LeO (laws_toStringS.l0 k y0 y1 y2) (laws_toStringS.l0 (k + 1) y0 y1 y2))
  | 0 => fun _ _ _ r h => by simp [laws_toStringS.l0] at h
  | k + 1 => by
    have ih0 := laws_toStringS.mono_l k
    · intro y0 y1 y2
      unfold laws_toStringS.l0
      repeat' first
      | (with_reducible exact ih0 _ _ _)
      | (with_reducible exact LeO.refl _)
      | (with_reducible exact LeO.none _)
      | (with_reducible refine LeO.ite ?_ ?_)
      | (with_reducible refine LeO.bind ?_ (fun _ => ?_))
      | exact ih0 _ _ _
      | exact LeO.none _
      | refine LeO.ite ?_ ?_
      | refine LeO.bind ?_ (fun _ => ?_)
theorem laws_toStringS.mono : ∀ a0 k, LeO (laws_toStringS.f k a0) (laws_toStringS.f (k + 1) a0) := by
  intro a0 k
  have ih0 := laws_toStringS.mono_l k
  unfold laws_toStringS.f
  repeat' first
      | (with_reducible exact ih0 _ _ _)
      | (with_reducible exact LeO.refl _)
      | (with_reducible exact LeO.none _)
      | (with_reducible refine LeO.ite ?_ ?_)
      | (with_reducible refine LeO.bind ?_ (fun _ => ?_))
      | exact ih0 _ _ _
      | exact LeO.none _
      | refine LeO.ite ?_ ?_
      | refine LeO.bind ?_ (fun _ => ?_)
set_option maxHeartbeats 8000000 in
set_option maxRecDepth 100000 in
theorem laws_toStringS.calls (k : Nat) (A0 : Option Addr) (c0 : Nat) (l0 : List ByteArray) (r : List ByteArray) (w : World) (hr0 : Kd.C Kd.string w A0 l0.length l0) (hc0 : l0.length ≤ c0) (h : laws_toStringS.f k l0 = some r) :
    Calls Try.prog 199 #[.slice A0 l0.length c0] w fun e w' => ∃ v0_ : Value, e = .returned (v0_) ∧ Kd.R Kd.string 9 w' w.heap.size (fun _ => True) v0_ r ∧ Below w.heap.size w w' := by
  have HR0 := Aside0.mk hr0
  have HC0 := Aside0.mk hc0
  clear hr0 hc0
  have HB := Aside0.mk (Below.refl w.heap.size w)
  have H : (if 0 ≤ (l0.length : Int) then (if ((l0.length : Int) : Int).toNat ≤ 17592186044416 then (laws_toStringS.l0 k l0 (List.replicate ((l0.length : Int) : Int).toNat (⟨#[]⟩ : ByteArray)) 0) else (none)) else (none)) = some r := h
  clear h
  by_cases c2 : 0 ≤ (l0.length : Int)
  · rw [if_pos c2] at H
    have c2b0 := eq_true c2
    have c2b1 : decide (0 ≤ (l0.length : Int)) = true := decide_eq_true c2
    clear c2
    by_cases c3 : ((l0.length : Int) : Int).toNat ≤ 17592186044416
    · rw [if_pos c3] at H
      have c3b0 := eq_true c3
      have c3b1 : decide (((l0.length : Int) : Int).toNat ≤ 17592186044416) = true := decide_eq_true c3
      clear c3
      obtain ⟨y1565, hy1565⟩ : ∃ y_ : List ByteArray, y_ = (List.replicate ((l0.length : Int) : Int).toNat (⟨#[]⟩ : ByteArray)) := ⟨_, rfl⟩
      replace H : (laws_toStringS.l0 k l0 y1565 0) = some r := by first | (rw [hy1565]; with_reducible exact H) | (have H2_ := (Option.bind_some _ _).symm.trans H; rw [hy1565]; with_reducible exact H2_) | (have H2_ := (Option.bind_some _ _).symm.trans H; with_reducible exact H2_) | with_reducible exact H | (rw [hy1565]; exact H) | exact H
      have Ny1565 := Aside0.mk hy1565
      clear hy1565
      have H' := Aside0.mk H
      clear H
      go_enter Try.func199, Try.ntmps199
      go_wp2_with (first | ((with_reducible refine gate_dst (N := 7) rfl ?_); refine Kd.R_make Kd.string _ 9 rfl (N := 7) rfl 25 _ _ rfl (l0.length : Int) rfl rfl Try.underlying25 (.string ⟨#[]⟩) 16 info9 rfl (by decide) (by omega) (⟨#[]⟩ : ByteArray) (ok := fun _ => True) (okp := fun _ => True) rfl (fun _ hk => hk) trivial (of_decide_eq_true (by first | (with_reducible assumption) | assumption)) (Nat.le_trans (Nat.mul_le_mul_right _ (of_decide_eq_true (by first | (with_reducible assumption) | assumption) : (l0.length : Int).toNat ≤ 17592186044416)) (by omega)) (Below.refl _ _) (Nat.le_refl _) ?_; intro v1566 w4 ho5 hb hg_ hnew_; clear hg_ hnew_; (first | rw [← Ny1565.out] at ho5 | (simp only [Int.reduceToNat] at ho5; rw [← Ny1565.out] at ho5)); have n0_ := Aside0.mk (Kd.R_lower ho5 (below_size (by repeat (first | (with_reducible first | exact HB.out | apply below_alloc | apply pw_below_drewN | apply below_drew1) | exact HB.out)))); have n1_ := Aside0.mk (below_step (by repeat (first | (with_reducible first | exact HB.out | apply below_alloc | apply pw_below_drewN | apply below_drew1) | exact HB.out)) hb); clear HB; have HO1567 := n0_; have HB := n1_; clear n0_ n1_; clear hb ho5))
      go_loopg [4] k (fun kq v4 w' => ∃ (x3_1 : List ByteArray) (x4_1 : Int), v4 = .int .i64 x4_1 ∧ Aside0 (laws_toStringS.l0 kq l0 x3_1 x4_1 = some r) ∧ Aside0 (kq ≤ k) ∧ Aside0 (Kd.R Kd.string 9 w' w.heap.size (fun _ => True) v1566 x3_1) ∧ Aside0 (Below w.heap.size w w'))
      case atStart => exact ⟨(y1565), (0), (by first | rfl | (simp; done) | (simp [*]; done)), H', ⟨Nat.le_refl _⟩, ⟨by (with_reducible repeat (first | apply Kd.R_alloc | apply Kd.R_drewN | apply Kd.R_drew)); exact HO1567.out⟩, ⟨by repeat (first | (with_reducible first | exact HB.out | apply below_alloc | apply pw_below_drewN | apply below_drew1) | exact HB.out)⟩⟩
      case round =>
        clear H'
        try clear c1
        try clear c2
        try clear c2b0
        try clear c2b1
        try clear p2
        try clear c3
        try clear c3b0
        try clear c3b1
        obtain ⟨x3_1, x4_1, rfl, HA, HK1, HO_3, HB⟩ := hrel
        cases gk with
        | zero => exact absurd HA.out (by simp [laws_toStringS.l0])
        | succ k1 =>
          have H := HA.out
          clear HA
          simp only [laws_toStringS.l0] at H
          by_cases c6 : x4_1 < (l0.length : Int)
          · rw [if_pos c6] at H
            have c6b0 : decide (x4_1 < (l0.length : Int)) = true := decide_eq_true c6
            clear c6
            by_cases c7 : 0 ≤ x4_1
            · rw [if_pos c7] at H
              have c7b0 : decide (0 ≤ x4_1) = true := decide_eq_true c7
              clear c7
              by_cases c8 : x4_1 < (x3_1.length : Int)
              · rw [if_pos c8] at H
                have c8b0 : decide (x4_1 < (x3_1.length : Int)) = true := decide_eq_true c8
                clear c8
                obtain ⟨y1569, hy1569⟩ : ∃ y_ : List ByteArray, y_ = (x3_1.set (x4_1 : Int).toNat (rdOf ByteArray.empty l0 x4_1)) := ⟨_, rfl⟩
                replace H : (laws_toStringS.l0 k1 l0 y1569 (wrap64 (x4_1 + 1))) = some r := by first | (rw [hy1569]; with_reducible exact H) | (have H2_ := (Option.bind_some _ _).symm.trans H; rw [hy1569]; with_reducible exact H2_) | (have H2_ := (Option.bind_some _ _).symm.trans H; with_reducible exact H2_) | with_reducible exact H | (rw [hy1569]; exact H) | exact H
                have Ny1569 := Aside0.mk hy1569
                clear hy1569
                have H' := Aside0.mk H
                clear H
                have p1568 : 0 ≤ (x4_1 : Int) := of_decide_eq_true (by first | (with_reducible assumption) | assumption)
                have q1568 : x4_1 < (l0.length : Int) := of_decide_eq_true (by first | (with_reducible assumption) | assumption)
                obtain ⟨ad1568, e1568, hx1568_0⟩ := Kd.at_string HR0.out x4_1 p1568 q1568
                cases e1568
                replace hx1568_0 := (HB.out.cell (World.block_lt_of_cell? w _ hx1568_0)).trans hx1568_0
                replace p1568 := eq_true p1568
                replace q1568 := eq_true q1568
                have p9 : 0 ≤ (x4_1 : Int) := of_decide_eq_true (by first | (with_reducible assumption) | assumption)
                have q9 : (x4_1 : Int) < ((x3_1.length : Int) : Int) := of_decide_eq_true (by first | (with_reducible assumption) | assumption)
                obtain ⟨go9, co9, eo9, gb9, gl9, cl9, HG9⟩ := Kd.R_form HO_3.out (by omega)
                (first | cases eo9 | (injection eo9 with ea_ en_ ec_; (first | subst ea_ | (injection ea_ with ea_; subst ea_)); subst ec_; clear en_))
                have GB9 := Aside0.mk gb9
                have GG9 := Aside0.mk HG9
                clear gb9 gl9 HG9
                obtain ⟨hx9_0, hf9_0⟩ := Kd.R_celln (⟨#[]⟩ : ByteArray) HO_3.out (x4_1 : Int) p9 q9
                replace p9 := eq_true p9
                replace q9 := eq_true q9
                have HP10 := Kd.R_putg HO_3.out (x4_1 : Int) (rdOf ByteArray.empty l0 x4_1)
                go_wp2_with (first | ((with_reducible refine gate_store (t := 9) (p := 20) rfl ?_); refine store_event (t := 9) (p := 20) (v := ?vo_w11) (w1 := (wr.setCell ⟨go9, (x4_1 : Int).toNat, none⟩ (.string (rdOf ByteArray.empty l0 x4_1)))) ?hg ?ho ?hn ?hr ?_; (case ho => rfl); (case hg => rfl); (case hn => rfl); (case hr => first | (go_simp; done) | (go_simp; rfl)); intro w11 hw; have hg : wr.grownBy w11 (some go9) := (by rw [hw]; exact HP10.2); have hp_ : Kd.R Kd.string 9 w11 w.heap.size (fun _ => True) (.slice (some ⟨go9, 0, none⟩) x3_1.length co9) y1569 := (by rw [hw, Ny1569.out]; exact HP10.1); clear HP10; have n0_ := Aside0.mk (hp_); have n1_ := Aside0.mk ((by rw [hw]; exact below_set (HB.out) GB9.out : Below w.heap.size w w11)); clear HO_3; clear HB; have HO_3 := n0_; have HB := n1_; clear n0_ n1_; clear hg hw hp_))
                go_roundg k1
                case measure => have := HK1.out; omega
                case rel => exact ⟨(y1569), (wrap64 (x4_1 + 1)), (by first | rfl | (simp; done) | (simp [*]; done)), H', ⟨by have := HK1.out; omega⟩, ⟨by (with_reducible repeat (first | apply Kd.R_alloc | apply Kd.R_drewN | apply Kd.R_drew)); exact HO_3.out⟩, ⟨by repeat (first | (with_reducible first | exact HB.out | apply below_alloc | apply pw_below_drewN | apply below_drew1) | exact HB.out)⟩⟩
              · rw [if_neg c8] at H
                exact absurd H (by simp)
            · rw [if_neg c7] at H
              exact absurd H (by simp)
          · rw [if_neg c6] at H
            have c6b0 : decide (x4_1 < (l0.length : Int)) = false := decide_eq_false c6
            clear c6
            obtain rfl := Option.some.inj H
            go_wp2
            go_ret
            exact ⟨_, by first | rfl | (simp [errW_none, errW_some] <;> rfl) | (simp [*, errW_none, errW_some] <;> rfl), by (with_reducible repeat (first | apply Kd.R_alloc | apply Kd.R_drewN | apply Kd.R_drew)); exact HO_3.out, by repeat (first | (with_reducible first | exact HB.out | apply below_alloc | apply pw_below_drewN | apply below_drew1) | exact HB.out)⟩
    · rw [if_neg c3] at H
      exact absurd H (by simp)
  · rw [if_neg c2] at H
    exact absurd H (by simp)

theorem laws_toStringS.is {xs : List ByteArray} (hs : xs.length ≤ 1048576) : Ev (fun k => laws_toStringS.f k xs) xs := by
  unfold laws_toStringS.f
  exact to_slice0 (l := fun k out i => laws_toStringS.l0 k xs out i) (fun k out i => rfl) hs (by decide)

theorem laws_toStringS.does {xs : List ByteArray} (hs : (fun l : List ByteArray => l.length ≤ 1048576) xs) {B : Option Addr} {c : Nat} {w : World} (hr : Kd.C Kd.string w B xs.length xs) (hc : xs.length ≤ c) :
    Calls Try.prog 199 #[.slice B xs.length c] w fun e w' => ∃ A d, e = .returned (.slice A xs.length d) ∧ xs.length ≤ d ∧ Kd.C Kd.string w' A xs.length xs ∧ Below w.heap.size w w' := by
  obtain ⟨k, h⟩ := (laws_toStringS.is hs).rounds
  refine (laws_toStringS.calls k _ _ _ _ w hr hc h).mono fun e w' ⟨v, hv, hR, hb⟩ => ?_
  obtain ⟨A, d, rfl, h1, h2⟩ := Kd.R_reads hR
  exact ⟨A, d, hv, h1, h2, hb⟩

/-! ### laws_toQc: function 157 -/
def laws_toQc.f (k : Nat) (a0_0 : Int) (a0_1 : Int) (l0_2 : List ByteArray) : Option (Int × Int × List ByteArray) := (laws_toStringS.f k l0_2).bind fun t1573 => (some (a0_0, a0_1, t1573))
theorem laws_toQc.mono : ∀ a0 a1 a2 k, LeO (laws_toQc.f k a0 a1 a2) (laws_toQc.f (k + 1) a0 a1 a2) := by
  intro a0 a1 a2 k
  unfold laws_toQc.f
  repeat' first
      | (with_reducible exact laws_toStringS.mono _ _)
      | (with_reducible exact LeO.refl _)
      | (with_reducible exact LeO.none _)
      | (with_reducible refine LeO.ite ?_ ?_)
      | (with_reducible refine LeO.bind ?_ (fun _ => ?_))
      | exact laws_toStringS.mono _ _
      | exact LeO.none _
      | refine LeO.ite ?_ ?_
      | refine LeO.bind ?_ (fun _ => ?_)
set_option maxHeartbeats 8000000 in
set_option maxRecDepth 100000 in
theorem laws_toQc.calls (k : Nat) (a0_0 : Int) (a0_1 : Int) (A0_2 : Option Addr) (c0_2 : Nat) (l0_2 : List ByteArray) (r1 : Int) (r2 : Int) (r3 : List ByteArray) (w : World) (hr0_2 : Kd.C Kd.string w A0_2 l0_2.length l0_2) (hc0_2 : l0_2.length ≤ c0_2) (h : laws_toQc.f k a0_0 a0_1 l0_2 = some (r1, r2, r3)) :
    Calls Try.prog 157 #[.agg #[.int .i64 a0_0, .int .i64 a0_1, .slice A0_2 l0_2.length c0_2]] w fun e w' => ∃ v2_ : Value, e = .returned (.agg #[.int .i64 r1, .int .i64 r2, v2_]) ∧ Kd.R Kd.string 9 w' w.heap.size (fun _ => True) v2_ r3 ∧ Below w.heap.size w w' := by
  have hu105 := Try.underlying105
  have hu49 := Try.underlying49
  have HR0_2 := Aside0.mk hr0_2
  have HC0_2 := Aside0.mk hc0_2
  clear hr0_2 hc0_2
  have HB := Aside0.mk (Below.refl w.heap.size w)
  have H : ((laws_toStringS.f k l0_2).bind fun t1573 => (some (a0_0, a0_1, t1573))) = some (r1, r2, r3) := h
  clear h
  replace H := Option.bind_eq_some_iff.mp H
  obtain ⟨t1573, A20, H⟩ := H
  replace H : (some (a0_0, a0_1, t1573)) = some (r1, r2, r3) := H
  have A2 := Aside0.mk A20
  clear A20
  simp only [Option.some.injEq, Prod.mk.injEq] at H
  obtain ⟨rfl, rfl, rfl⟩ := H
  go_enter Try.func157, Try.ntmps157
  go_wp2_with (first | ((with_reducible refine gate_dst (N := 1) rfl ?_); refine box_event ?hg (N := 1) ?hd (cs := #[.int .i64 a0_0, .int .i64 a0_1, .slice A0_2 l0_2.length c0_2]) (t := 105) ?hr ?_; (case hd => rfl); (case hg => rfl); (case hr => first | (go_simp; done) | (go_simp; rfl)); intro gb1570 hg w3 hbox hb; have n0_ := Aside0.mk (below_step (by repeat (first | (with_reducible first | exact HB.out | apply below_alloc | apply pw_below_drewN | apply below_drew1) | exact HB.out)) hb); have n1_ := Aside0.mk (hbox); have n2_ := Aside0.mk ((by rw [hg]; exact (below_size (by repeat (first | (with_reducible first | exact HB.out | apply below_alloc | apply pw_below_drewN | apply below_drew1) | exact HB.out))) : w.heap.size ≤ gb1570)); have n3_ := n2_; clear HB; have HB := n0_; have BK1570 := n1_; have GW1570 := n2_; have GE1570 := n3_; clear n0_ n1_ n2_ n3_; clear hb hbox hg) | ((with_reducible refine gate_dst (N := 2) rfl ?_); refine box_event ?hg (N := 2) ?hd (cs := #[.int .i64 0, .int .i64 0, .slice none 0 0]) (t := 49) ?hr ?_; (case hd => rfl); (case hg => rfl); (case hr => first | (go_simp; done) | (go_simp; rfl)); intro gb1571 hg w4 hbox hb; have n0_ := Aside0.mk (blk_below (g := gb1570) (by (with_reducible repeat (first | refine blk_drewN ?_ _ | refine blk_drew ?_ | refine blk_alloc ?_ _)); exact BK1570.out) hb); have n1_ := Aside0.mk (below_step (by repeat (first | (with_reducible first | exact HB.out | apply below_alloc | apply pw_below_drewN | apply below_drew1 | refine below_set ?_ GE1570.out) | exact HB.out)) hb); have n2_ := Aside0.mk (hbox); have n3_ := Aside0.mk ((by rw [hg]; exact (below_size (by repeat (first | (with_reducible first | exact HB.out | apply below_alloc | apply pw_below_drewN | apply below_drew1 | refine below_set ?_ GE1570.out) | exact HB.out))) : w.heap.size ≤ gb1571)); have n4_ := Aside0.mk ((by rw [hg]; exact (below_size (by repeat (first | (with_reducible first | exact HB.out | apply below_alloc | apply pw_below_drewN | apply below_drew1 | refine below_set ?_ GE1570.out) | exact HB.out))) : w.heap.size ≤ gb1571)); have n5_ := Aside0.mk ((by rw [hg]; exact Nat.ne_of_lt (blk_lt (g := gb1570) (o := .cells #[.int .i64 a0_0, .int .i64 a0_1, .slice A0_2 l0_2.length c0_2] 105 (0, 0)) (by (with_reducible repeat (first | refine blk_drewN ?_ _ | refine blk_drew ?_ | refine blk_alloc ?_ _)); exact BK1570.out)) : gb1570 ≠ gb1571)); have n6_ := Aside0.mk ((by rw [hg]; exact Nat.ne_of_gt (blk_lt (g := gb1570) (o := .cells #[.int .i64 a0_0, .int .i64 a0_1, .slice A0_2 l0_2.length c0_2] 105 (0, 0)) (by (with_reducible repeat (first | refine blk_drewN ?_ _ | refine blk_drew ?_ | refine blk_alloc ?_ _)); exact BK1570.out)) : gb1571 ≠ gb1570)); clear BK1570; clear HB; have BK1570 := n0_; have HB := n1_; have BK1571 := n2_; have GW1571 := n3_; have GE1571 := n4_; have NB1570_1571 := n5_; have NB1571_1570 := n6_; clear n0_ n1_ n2_ n3_ n4_ n5_ n6_; clear hb hbox hg) | ((with_reducible refine gate_dst (N := 3) rfl ?_); refine box_event ?hg (N := 3) ?hd (cs := #[.int .i64 0, .int .i64 0, .slice none 0 0]) (t := 49) ?hr ?_; (case hd => rfl); (case hg => rfl); (case hr => first | (go_simp; done) | (go_simp; rfl)); intro gb1572 hg w5 hbox hb; have n0_ := Aside0.mk (blk_below (g := gb1570) (by (with_reducible repeat (first | refine blk_drewN ?_ _ | refine blk_drew ?_ | refine blk_alloc ?_ _)); exact BK1570.out) hb); have n1_ := Aside0.mk (blk_below (g := gb1571) (by (with_reducible repeat (first | refine blk_drewN ?_ _ | refine blk_drew ?_ | refine blk_alloc ?_ _)); exact BK1571.out) hb); have n2_ := Aside0.mk (below_step (by repeat (first | (with_reducible first | exact HB.out | apply below_alloc | apply pw_below_drewN | apply below_drew1 | refine below_set ?_ GE1570.out | refine below_set ?_ GE1571.out) | exact HB.out)) hb); have n3_ := Aside0.mk (hbox); have n4_ := Aside0.mk ((by rw [hg]; exact (below_size (by repeat (first | (with_reducible first | exact HB.out | apply below_alloc | apply pw_below_drewN | apply below_drew1 | refine below_set ?_ GE1570.out | refine below_set ?_ GE1571.out) | exact HB.out))) : w.heap.size ≤ gb1572)); have n5_ := Aside0.mk ((by rw [hg]; exact (below_size (by repeat (first | (with_reducible first | exact HB.out | apply below_alloc | apply pw_below_drewN | apply below_drew1 | refine below_set ?_ GE1570.out | refine below_set ?_ GE1571.out) | exact HB.out))) : w.heap.size ≤ gb1572)); have n6_ := Aside0.mk ((by rw [hg]; exact Nat.ne_of_lt (blk_lt (g := gb1570) (o := .cells #[.int .i64 a0_0, .int .i64 a0_1, .slice A0_2 l0_2.length c0_2] 105 (0, 0)) (by (with_reducible repeat (first | refine blk_drewN ?_ _ | refine blk_drew ?_ | refine blk_alloc ?_ _)); exact BK1570.out)) : gb1570 ≠ gb1572)); have n7_ := Aside0.mk ((by rw [hg]; exact Nat.ne_of_gt (blk_lt (g := gb1570) (o := .cells #[.int .i64 a0_0, .int .i64 a0_1, .slice A0_2 l0_2.length c0_2] 105 (0, 0)) (by (with_reducible repeat (first | refine blk_drewN ?_ _ | refine blk_drew ?_ | refine blk_alloc ?_ _)); exact BK1570.out)) : gb1572 ≠ gb1570)); have n8_ := Aside0.mk ((by rw [hg]; exact Nat.ne_of_lt (blk_lt (g := gb1571) (o := .cells #[.int .i64 0, .int .i64 0, .slice none 0 0] 49 (0, 0)) (by (with_reducible repeat (first | refine blk_drewN ?_ _ | refine blk_drew ?_ | refine blk_alloc ?_ _)); exact BK1571.out)) : gb1571 ≠ gb1572)); have n9_ := Aside0.mk ((by rw [hg]; exact Nat.ne_of_gt (blk_lt (g := gb1571) (o := .cells #[.int .i64 0, .int .i64 0, .slice none 0 0] 49 (0, 0)) (by (with_reducible repeat (first | refine blk_drewN ?_ _ | refine blk_drew ?_ | refine blk_alloc ?_ _)); exact BK1571.out)) : gb1572 ≠ gb1571)); clear BK1570; clear BK1571; clear HB; have BK1570 := n0_; have BK1571 := n1_; have HB := n2_; have BK1572 := n3_; have GW1572 := n4_; have GE1572 := n5_; have NB1570_1572 := n6_; have NB1572_1570 := n7_; have NB1571_1572 := n8_; have NB1572_1571 := n9_; clear n0_ n1_ n2_ n3_ n4_ n5_ n6_ n7_ n8_ n9_; clear hb hbox hg; have hnb6 := NB1570_1571.out; have hnc6 := NB1571_1570.out; have hnb7 := NB1570_1572.out; have hnc7 := NB1572_1570.out; obtain ⟨hcz8_0, hcz8_1, hcz8_2⟩ := cells3 BK1570.out; obtain ⟨hfz8_0, hfz8_1, hfz8_2⟩ := frozens3 BK1570.out; have hnb9 := NB1572_1571.out; have hnc9 := NB1571_1572.out; obtain ⟨hcz10_0, hcz10_1, hcz10_2⟩ := cells3 BK1572.out; obtain ⟨hfz10_0, hfz10_1, hfz10_2⟩ := frozens3 BK1572.out) | ((with_reducible refine gate_callee (f := 199) rfl ?_); refine goesL_ (some 12) rfl rfl Try.func199 (by kernel_rfl) rfl #[.slice A0_2 l0_2.length c0_2] rfl (by (try simp only [List.map_toArray, List.map_cons, List.map_nil]); first | done | rfl | (simp only [List.length_drop, List.length_take]; rfl)) ?_; (with_reducible refine (laws_toStringS.calls k _ _ l0_2 t1573 _ ?side1 ?side2 A2.out).mono ?_); (case side1 => exact Kd.C_below HR0_2.out (by repeat (first | (with_reducible first | exact HB.out | apply below_alloc | apply pw_below_drewN | apply below_drew1 | refine below_set ?_ GE1570.out | refine below_set ?_ GE1571.out | refine below_set ?_ GE1572.out) | exact HB.out))); (case side2 => exact HC0_2.out); rintro e w11 ⟨v1574, rfl, ho0, hb⟩; refine ⟨_, rfl, ?_⟩; have n0_ := Aside0.mk (Kd.R_lower ho0 (below_size (by repeat (first | (with_reducible first | exact HB.out | apply below_alloc | apply pw_below_drewN | apply below_drew1 | refine below_set ?_ GE1570.out | refine below_set ?_ GE1571.out | refine below_set ?_ GE1572.out) | exact HB.out)))); have n1_ := Aside0.mk (blk_below (g := gb1570) (o := .cells #[.int .i64 a0_0, .int .i64 a0_1, .slice A0_2 l0_2.length c0_2] 105 (0, 0)) (by (with_reducible repeat (first | refine blk_drewN ?_ _ | refine blk_drew ?_ | refine blk_alloc ?_ _)); refine blk_far ?_ NB1570_1572.out _; (with_reducible repeat (first | refine blk_drewN ?_ _ | refine blk_drew ?_ | refine blk_alloc ?_ _)); refine blk_far ?_ NB1570_1572.out _; (with_reducible repeat (first | refine blk_drewN ?_ _ | refine blk_drew ?_ | refine blk_alloc ?_ _)); exact BK1570.out) hb); have n2_ := Aside0.mk (blk_below (g := gb1571) (o := .cells #[.int .i64 0, .int .i64 0, .slice none 0 0] 49 (0, 0)) (by (with_reducible repeat (first | refine blk_drewN ?_ _ | refine blk_drew ?_ | refine blk_alloc ?_ _)); refine blk_far ?_ NB1571_1572.out _; (with_reducible repeat (first | refine blk_drewN ?_ _ | refine blk_drew ?_ | refine blk_alloc ?_ _)); refine blk_far ?_ NB1571_1572.out _; (with_reducible repeat (first | refine blk_drewN ?_ _ | refine blk_drew ?_ | refine blk_alloc ?_ _)); exact BK1571.out) hb); have n3_ := Aside0.mk (blk_below (g := gb1572) (o := .cells #[.int .i64 a0_0, .int .i64 a0_1, .slice none 0 0] 49 (0, 0)) (by (with_reducible repeat (first | refine blk_drewN ?_ _ | refine blk_drew ?_ | refine blk_alloc ?_ _)); refine blk_put (cs := #[.int .i64 a0_0, .int .i64 0, .slice none 0 0]) ?_ 1 _ rfl; (with_reducible repeat (first | refine blk_drewN ?_ _ | refine blk_drew ?_ | refine blk_alloc ?_ _)); refine blk_put (cs := #[.int .i64 0, .int .i64 0, .slice none 0 0]) ?_ 0 _ rfl; (with_reducible repeat (first | refine blk_drewN ?_ _ | refine blk_drew ?_ | refine blk_alloc ?_ _)); exact BK1572.out) hb); have n4_ := Aside0.mk (below_step (by repeat (first | (with_reducible first | exact HB.out | apply below_alloc | apply pw_below_drewN | apply below_drew1 | refine below_set ?_ GE1570.out | refine below_set ?_ GE1571.out | refine below_set ?_ GE1572.out) | exact HB.out)) hb); clear BK1570; clear BK1571; clear BK1572; clear HB; have HO1575 := n0_; have BK1570 := n1_; have BK1571 := n2_; have BK1572 := n3_; have HB := n4_; clear n0_ n1_ n2_ n3_ n4_; (try clear hb); (try clear hb2); (try clear hk); (try clear hi); (try clear ho0); obtain ⟨Ao12, co12, eo12⟩ := Kd.R_slice HO1575.out; subst eo12; obtain ⟨hcz13_0, hcz13_1, hcz13_2⟩ := cells3 BK1572.out; obtain ⟨hfz13_0, hfz13_1, hfz13_2⟩ := frozens3 BK1572.out; obtain ⟨hcz14_0, hcz14_1, hcz14_2⟩ := cells3 BK1571.out; obtain ⟨hfz14_0, hfz14_1, hfz14_2⟩ := frozens3 BK1571.out))
  refine bodyPost_ret (results_cell_row rfl _ _ gb1571 49 #[.int .i64 a0_0, .int .i64 a0_1, .slice Ao12 t1573.length co12] (0, 0) _ rfl (by (with_reducible repeat (first | refine blk_drewN ?_ _ | refine blk_drew ?_ | refine blk_alloc ?_ _)); refine blk_put (cs := #[.int .i64 a0_0, .int .i64 a0_1, .slice none 0 0]) ?_ 2 _ rfl; (with_reducible repeat (first | refine blk_drewN ?_ _ | refine blk_drew ?_ | refine blk_alloc ?_ _)); refine blk_put (cs := #[.int .i64 a0_0, .int .i64 0, .slice none 0 0]) ?_ 1 _ rfl; (with_reducible repeat (first | refine blk_drewN ?_ _ | refine blk_drew ?_ | refine blk_alloc ?_ _)); refine blk_put (cs := #[.int .i64 0, .int .i64 0, .slice none 0 0]) ?_ 0 _ rfl; (with_reducible repeat (first | refine blk_drewN ?_ _ | refine blk_drew ?_ | refine blk_alloc ?_ _)); refine blk_far ?_ NB1571_1572.out _; (with_reducible repeat (first | refine blk_drewN ?_ _ | refine blk_drew ?_ | refine blk_alloc ?_ _)); exact BK1571.out) Try.underlying49 rfl (by kernel_rfl)) rfl ?_
  exact ⟨_, by first | rfl | (simp [errW_none, errW_some] <;> rfl) | (simp [*, errW_none, errW_some] <;> rfl), by (with_reducible repeat (first | apply Kd.R_alloc | apply Kd.R_drewN | apply Kd.R_drew)); exact Kd.R_mono (Kd.R_far (p := ⟨gb1571, 2, none⟩) (Kd.R_far (p := ⟨gb1571, 1, none⟩) (Kd.R_far (p := ⟨gb1571, 0, none⟩) (Kd.R_far (p := ⟨gb1572, 2, none⟩) (Kd.R_types (Kd.R_types HO1575.out BK1572.out (by decide)) BK1571.out (by decide)) (fun _ hk => hk.1.2) (.slice Ao12 t1573.length co12)) (fun _ hk => hk.2) (.int .i64 a0_0)) (fun _ hk => hk.2) (.int .i64 a0_1)) (fun _ hk => hk.2) (.slice Ao12 t1573.length co12)) (fun _ hk => trivial), by repeat (first | (with_reducible first | exact HB.out | apply below_alloc | apply pw_below_drewN | apply below_drew1 | refine below_set ?_ GE1570.out | refine below_set ?_ GE1571.out | refine below_set ?_ GE1572.out) | exact HB.out)⟩

def c105 (x : S105) : S49 := ⟨x.f0, x.f1, x.f2⟩

def s105 (x : S105) : Prop := (fun l : List ByteArray => l.length ≤ 1048576) x.f2

theorem laws_toQc.is {x : S105} (hs : s105 x) : Ev (fun k => laws_toQc.f k x.f0 x.f1 x.f2) ((c105 x).f0, (c105 x).f1, (c105 x).f2) := by
  unfold laws_toQc.f
  refine Ev.bind (laws_toStringS.is hs) ?_
  exact Ev.now _

theorem laws_toQc.does {x : S105} (hs : s105 x) {cs : List Value} {w : World} (hK : k105.K w x cs) :
    Calls Try.prog 157 #[.agg cs.toArray] w fun e w' => ∃ ds : List Value, e = .returned (.agg ds.toArray) ∧ k49.K w' (c105 x) ds ∧ Below w.heap.size w w' := by
  obtain ⟨A2, cA2, rfl, lA2, gA2⟩ := k105_open hK
  obtain ⟨k, h⟩ := (laws_toQc.is hs).rounds
  refine (laws_toQc.calls k x.f0 x.f1 A2 cA2 x.f2 _ _ _ w gA2 lA2 h).mono fun e w' ⟨v2, hv, r2, hb⟩ => ?_
  obtain ⟨B2, d2, rfl, m2, n2⟩ := Kd.R_reads r2
  exact ⟨_, hv, k49_mk w' (c105 x) m2 n2, hb⟩

theorem small105 {x : S105} (h : hold105 x ≤ 1048576) : s105 x := by
  unfold hold105 at h
  have n2 : 0 ≤ ((x.f2.length : Int) + sums (fun x : ByteArray => (x.size : Int)) x.f2) := (Int.add_nonneg (Int.natCast_nonneg _) (sums_nn (fun x => Int.natCast_nonneg _) x.f2))
  unfold s105
  dsimp only
  exact (by have := sums_nn (h := fun x : ByteArray => (x.size : Int)) (fun x => Int.natCast_nonneg _) x.f2; omega)

theorem long105 {x : S105} (h : s105 x) : l49 (c105 x) := by
  exact Nat.le_trans h (by decide)

/-! ### laws_toIntS: function 200 -/
def laws_toIntS.l0 : Nat → List Int → List Int → Int → Option (List Int)
  | 0, _, _, _ => none
  | k + 1, x0, x3, x4 => if x4 < (x0.length : Int) then (if 0 ≤ x4 then (if x4 < (x3.length : Int) then (laws_toIntS.l0 k x0 (x3.set (x4 : Int).toNat (rd x0 x4)) (wrap64 (x4 + 1))) else (none)) else (none)) else (some x3)
def laws_toIntS.f (k : Nat) (l0 : List Int) : Option (List Int) := if 0 ≤ (l0.length : Int) then (if ((l0.length : Int) : Int).toNat ≤ 35184372088832 then (laws_toIntS.l0 k l0 (List.replicate ((l0.length : Int) : Int).toNat 0) 0) else (none)) else (none)
theorem laws_toIntS.mono_l : ∀ k, (∀ y0 y1 y2, LeO (laws_toIntS.l0 k y0 y1 y2) (laws_toIntS.l0 (k + 1) y0 y1 y2))
  | 0 => fun _ _ _ r h => by simp [laws_toIntS.l0] at h
  | k + 1 => by
    have ih0 := laws_toIntS.mono_l k
    · intro y0 y1 y2
      unfold laws_toIntS.l0
      repeat' first
      | (with_reducible exact ih0 _ _ _)
      | (with_reducible exact LeO.refl _)
      | (with_reducible exact LeO.none _)
      | (with_reducible refine LeO.ite ?_ ?_)
      | (with_reducible refine LeO.bind ?_ (fun _ => ?_))
      | exact ih0 _ _ _
      | exact LeO.none _
      | refine LeO.ite ?_ ?_
      | refine LeO.bind ?_ (fun _ => ?_)
theorem laws_toIntS.mono : ∀ a0 k, LeO (laws_toIntS.f k a0) (laws_toIntS.f (k + 1) a0) := by
  intro a0 k
  have ih0 := laws_toIntS.mono_l k
  unfold laws_toIntS.f
  repeat' first
      | (with_reducible exact ih0 _ _ _)
      | (with_reducible exact LeO.refl _)
      | (with_reducible exact LeO.none _)
      | (with_reducible refine LeO.ite ?_ ?_)
      | (with_reducible refine LeO.bind ?_ (fun _ => ?_))
      | exact ih0 _ _ _
      | exact LeO.none _
      | refine LeO.ite ?_ ?_
      | refine LeO.bind ?_ (fun _ => ?_)
set_option maxHeartbeats 8000000 in
set_option maxRecDepth 100000 in
theorem laws_toIntS.calls (k : Nat) (A0 : Option Addr) (c0 : Nat) (l0 : List Int) (r : List Int) (w : World) (hr0 : Kd.C (Kd.int .i64) w A0 l0.length l0) (hc0 : l0.length ≤ c0) (h : laws_toIntS.f k l0 = some r) :
    Calls Try.prog 200 #[.slice A0 l0.length c0] w fun e w' => ∃ v0_ : Value, e = .returned (v0_) ∧ Kd.R (Kd.int .i64) 3 w' w.heap.size (fun _ => True) v0_ r ∧ Below w.heap.size w w' := by
  have HR0 := Aside0.mk hr0
  have HC0 := Aside0.mk hc0
  clear hr0 hc0
  have HB := Aside0.mk (Below.refl w.heap.size w)
  have H : (if 0 ≤ (l0.length : Int) then (if ((l0.length : Int) : Int).toNat ≤ 35184372088832 then (laws_toIntS.l0 k l0 (List.replicate ((l0.length : Int) : Int).toNat 0) 0) else (none)) else (none)) = some r := h
  clear h
  by_cases c2 : 0 ≤ (l0.length : Int)
  · rw [if_pos c2] at H
    have c2b0 := eq_true c2
    have c2b1 : decide (0 ≤ (l0.length : Int)) = true := decide_eq_true c2
    clear c2
    by_cases c3 : ((l0.length : Int) : Int).toNat ≤ 35184372088832
    · rw [if_pos c3] at H
      have c3b0 := eq_true c3
      have c3b1 : decide (((l0.length : Int) : Int).toNat ≤ 35184372088832) = true := decide_eq_true c3
      clear c3
      obtain ⟨y1576, hy1576⟩ : ∃ y_ : List Int, y_ = (List.replicate ((l0.length : Int) : Int).toNat 0) := ⟨_, rfl⟩
      replace H : (laws_toIntS.l0 k l0 y1576 0) = some r := by first | (rw [hy1576]; with_reducible exact H) | (have H2_ := (Option.bind_some _ _).symm.trans H; rw [hy1576]; with_reducible exact H2_) | (have H2_ := (Option.bind_some _ _).symm.trans H; with_reducible exact H2_) | with_reducible exact H | (rw [hy1576]; exact H) | exact H
      have Ny1576 := Aside0.mk hy1576
      clear hy1576
      have H' := Aside0.mk H
      clear H
      go_enter Try.func200, Try.ntmps200
      go_wp2_with (first | ((with_reducible refine gate_dst (N := 7) rfl ?_); refine Kd.R_make (Kd.int .i64) _ 3 rfl (N := 7) rfl 58 _ _ rfl (l0.length : Int) rfl rfl Try.underlying58 (.int .i64 0) 8 info3 rfl (by decide) (by omega) 0 (ok := fun _ => True) (okp := fun _ => True) rfl (fun _ hk => hk) trivial (of_decide_eq_true (by first | (with_reducible assumption) | assumption)) (Nat.le_trans (Nat.mul_le_mul_right _ (of_decide_eq_true (by first | (with_reducible assumption) | assumption) : (l0.length : Int).toNat ≤ 35184372088832)) (by omega)) (Below.refl _ _) (Nat.le_refl _) ?_; intro v1577 w4 ho5 hb hg_ hnew_; clear hg_ hnew_; (first | rw [← Ny1576.out] at ho5 | (simp only [Int.reduceToNat] at ho5; rw [← Ny1576.out] at ho5)); have n0_ := Aside0.mk (Kd.R_lower ho5 (below_size (by repeat (first | (with_reducible first | exact HB.out | apply below_alloc | apply pw_below_drewN | apply below_drew1) | exact HB.out)))); have n1_ := Aside0.mk (below_step (by repeat (first | (with_reducible first | exact HB.out | apply below_alloc | apply pw_below_drewN | apply below_drew1) | exact HB.out)) hb); clear HB; have HO1578 := n0_; have HB := n1_; clear n0_ n1_; clear hb ho5))
      go_loopg [4] k (fun kq v4 w' => ∃ (x3_1 : List Int) (x4_1 : Int), v4 = .int .i64 x4_1 ∧ Aside0 (laws_toIntS.l0 kq l0 x3_1 x4_1 = some r) ∧ Aside0 (kq ≤ k) ∧ Aside0 (Kd.R (Kd.int .i64) 3 w' w.heap.size (fun _ => True) v1577 x3_1) ∧ Aside0 (Below w.heap.size w w'))
      case atStart => exact ⟨(y1576), (0), (by first | rfl | (simp; done) | (simp [*]; done)), H', ⟨Nat.le_refl _⟩, ⟨by (with_reducible repeat (first | apply Kd.R_alloc | apply Kd.R_drewN | apply Kd.R_drew)); exact HO1578.out⟩, ⟨by repeat (first | (with_reducible first | exact HB.out | apply below_alloc | apply pw_below_drewN | apply below_drew1) | exact HB.out)⟩⟩
      case round =>
        clear H'
        try clear c2
        try clear c2b0
        try clear c2b1
        try clear p2
        try clear c3
        try clear c3b0
        try clear c3b1
        obtain ⟨x3_1, x4_1, rfl, HA, HK1, HO_3, HB⟩ := hrel
        cases gk with
        | zero => exact absurd HA.out (by simp [laws_toIntS.l0])
        | succ k1 =>
          have H := HA.out
          clear HA
          simp only [laws_toIntS.l0] at H
          by_cases c6 : x4_1 < (l0.length : Int)
          · rw [if_pos c6] at H
            have c6b0 : decide (x4_1 < (l0.length : Int)) = true := decide_eq_true c6
            clear c6
            by_cases c7 : 0 ≤ x4_1
            · rw [if_pos c7] at H
              have c7b0 : decide (0 ≤ x4_1) = true := decide_eq_true c7
              clear c7
              by_cases c8 : x4_1 < (x3_1.length : Int)
              · rw [if_pos c8] at H
                have c8b0 : decide (x4_1 < (x3_1.length : Int)) = true := decide_eq_true c8
                clear c8
                obtain ⟨y1580, hy1580⟩ : ∃ y_ : List Int, y_ = (x3_1.set (x4_1 : Int).toNat (rd l0 x4_1)) := ⟨_, rfl⟩
                replace H : (laws_toIntS.l0 k1 l0 y1580 (wrap64 (x4_1 + 1))) = some r := by first | (rw [hy1580]; with_reducible exact H) | (have H2_ := (Option.bind_some _ _).symm.trans H; rw [hy1580]; with_reducible exact H2_) | (have H2_ := (Option.bind_some _ _).symm.trans H; with_reducible exact H2_) | with_reducible exact H | (rw [hy1580]; exact H) | exact H
                have Ny1580 := Aside0.mk hy1580
                clear hy1580
                have H' := Aside0.mk H
                clear H
                have p1579 : 0 ≤ (x4_1 : Int) := of_decide_eq_true (by first | (with_reducible assumption) | assumption)
                have q1579 : x4_1 < (l0.length : Int) := of_decide_eq_true (by first | (with_reducible assumption) | assumption)
                obtain ⟨ad1579, e1579, hx1579_0⟩ := Kd.at_int HR0.out x4_1 p1579 q1579
                cases e1579
                replace hx1579_0 := (HB.out.cell (World.block_lt_of_cell? w _ hx1579_0)).trans hx1579_0
                replace p1579 := eq_true p1579
                replace q1579 := eq_true q1579
                have p9 : 0 ≤ (x4_1 : Int) := of_decide_eq_true (by first | (with_reducible assumption) | assumption)
                have q9 : (x4_1 : Int) < ((x3_1.length : Int) : Int) := of_decide_eq_true (by first | (with_reducible assumption) | assumption)
                obtain ⟨go9, co9, eo9, gb9, gl9, cl9, HG9⟩ := Kd.R_form HO_3.out (by omega)
                (first | cases eo9 | (injection eo9 with ea_ en_ ec_; (first | subst ea_ | (injection ea_ with ea_; subst ea_)); subst ec_; clear en_))
                have GB9 := Aside0.mk gb9
                have GG9 := Aside0.mk HG9
                clear gb9 gl9 HG9
                obtain ⟨hx9_0, hf9_0⟩ := Kd.R_celln 0 HO_3.out (x4_1 : Int) p9 q9
                replace p9 := eq_true p9
                replace q9 := eq_true q9
                have HP10 := Kd.R_putg HO_3.out (x4_1 : Int) (rd l0 x4_1)
                go_wp2_with (first | ((with_reducible refine gate_store (t := 3) (p := 20) rfl ?_); refine store_event (t := 3) (p := 20) (v := ?vo_w11) (w1 := (wr.setCell ⟨go9, (x4_1 : Int).toNat, none⟩ (.int .i64 (rd l0 x4_1)))) ?hg ?ho ?hn ?hr ?_; (case ho => rfl); (case hg => rfl); (case hn => rfl); (case hr => first | (go_simp; done) | (go_simp; rfl)); intro w11 hw; have hg : wr.grownBy w11 (some go9) := (by rw [hw]; exact HP10.2); have hp_ : Kd.R (Kd.int .i64) 3 w11 w.heap.size (fun _ => True) (.slice (some ⟨go9, 0, none⟩) x3_1.length co9) y1580 := (by rw [hw, Ny1580.out]; exact HP10.1); clear HP10; have n0_ := Aside0.mk (hp_); have n1_ := Aside0.mk ((by rw [hw]; exact below_set (HB.out) GB9.out : Below w.heap.size w w11)); clear HO_3; clear HB; have HO_3 := n0_; have HB := n1_; clear n0_ n1_; clear hg hw hp_))
                go_roundg k1
                case measure => have := HK1.out; omega
                case rel => exact ⟨(y1580), (wrap64 (x4_1 + 1)), (by first | rfl | (simp; done) | (simp [*]; done)), H', ⟨by have := HK1.out; omega⟩, ⟨by (with_reducible repeat (first | apply Kd.R_alloc | apply Kd.R_drewN | apply Kd.R_drew)); exact HO_3.out⟩, ⟨by repeat (first | (with_reducible first | exact HB.out | apply below_alloc | apply pw_below_drewN | apply below_drew1) | exact HB.out)⟩⟩
              · rw [if_neg c8] at H
                exact absurd H (by simp)
            · rw [if_neg c7] at H
              exact absurd H (by simp)
          · rw [if_neg c6] at H
            have c6b0 : decide (x4_1 < (l0.length : Int)) = false := decide_eq_false c6
            clear c6
            obtain rfl := Option.some.inj H
            go_wp2
            go_ret
            exact ⟨_, by first | rfl | (simp [errW_none, errW_some] <;> rfl) | (simp [*, errW_none, errW_some] <;> rfl), by (with_reducible repeat (first | apply Kd.R_alloc | apply Kd.R_drewN | apply Kd.R_drew)); exact HO_3.out, by repeat (first | (with_reducible first | exact HB.out | apply below_alloc | apply pw_below_drewN | apply below_drew1) | exact HB.out)⟩
    · rw [if_neg c3] at H
      exact absurd H (by simp)
  · rw [if_neg c2] at H
    exact absurd H (by simp)

theorem laws_toIntS.is {xs : List Int} (hs : xs.length ≤ 1048576) : Ev (fun k => laws_toIntS.f k xs) xs := by
  unfold laws_toIntS.f
  exact to_slice0 (l := fun k out i => laws_toIntS.l0 k xs out i) (fun k out i => rfl) hs (by decide)

theorem laws_toIntS.does {xs : List Int} (hs : (fun l : List Int => l.length ≤ 1048576) xs) {B : Option Addr} {c : Nat} {w : World} (hr : Kd.C (Kd.int .i64) w B xs.length xs) (hc : xs.length ≤ c) :
    Calls Try.prog 200 #[.slice B xs.length c] w fun e w' => ∃ A d, e = .returned (.slice A xs.length d) ∧ xs.length ≤ d ∧ Kd.C (Kd.int .i64) w' A xs.length xs ∧ Below w.heap.size w w' := by
  obtain ⟨k, h⟩ := (laws_toIntS.is hs).rounds
  refine (laws_toIntS.calls k _ _ _ _ w hr hc h).mono fun e w' ⟨v, hv, hR, hb⟩ => ?_
  obtain ⟨A, d, rfl, h1, h2⟩ := Kd.R_reads hR
  exact ⟨A, d, hv, h1, h2, hb⟩

/-! ### laws_toTc: function 158 -/
def laws_toTc.f (k : Nat) (a0_0 : Int) (l0_1 : List ByteArray) (l0_2 : List Int) : Option (Int × List ByteArray × List Int) := (laws_toStringS.f k l0_1).bind fun t1584 => ((laws_toIntS.f k l0_2).bind fun t1587 => (some (a0_0, t1584, t1587)))
theorem laws_toTc.mono : ∀ a0 a1 a2 k, LeO (laws_toTc.f k a0 a1 a2) (laws_toTc.f (k + 1) a0 a1 a2) := by
  intro a0 a1 a2 k
  unfold laws_toTc.f
  repeat' first
      | (with_reducible exact laws_toIntS.mono _ _)
      | (with_reducible exact laws_toStringS.mono _ _)
      | (with_reducible exact LeO.refl _)
      | (with_reducible exact LeO.none _)
      | (with_reducible refine LeO.ite ?_ ?_)
      | (with_reducible refine LeO.bind ?_ (fun _ => ?_))
      | exact laws_toIntS.mono _ _
      | exact laws_toStringS.mono _ _
      | exact LeO.none _
      | refine LeO.ite ?_ ?_
      | refine LeO.bind ?_ (fun _ => ?_)
set_option maxHeartbeats 8000000 in
set_option maxRecDepth 100000 in
theorem laws_toTc.calls (k : Nat) (a0_0 : Int) (A0_1 : Option Addr) (c0_1 : Nat) (l0_1 : List ByteArray) (A0_2 : Option Addr) (c0_2 : Nat) (l0_2 : List Int) (r1 : Int) (r2 : List ByteArray) (r3 : List Int) (w : World) (hr0_1 : Kd.C Kd.string w A0_1 l0_1.length l0_1) (hc0_1 : l0_1.length ≤ c0_1) (hr0_2 : Kd.C (Kd.int .i64) w A0_2 l0_2.length l0_2) (hc0_2 : l0_2.length ≤ c0_2) (h : laws_toTc.f k a0_0 l0_1 l0_2 = some (r1, r2, r3)) :
    Calls Try.prog 158 #[.agg #[.int .i64 a0_0, .slice A0_1 l0_1.length c0_1, .slice A0_2 l0_2.length c0_2]] w fun e w' => ∃ v1_ v2_ : Value, e = .returned (.agg #[.int .i64 r1, v1_, v2_]) ∧ Kd.R Kd.string 9 w' w.heap.size (fun _ => True) v1_ r2 ∧ Kd.R (Kd.int .i64) 3 w' w.heap.size (fun _ => True) v2_ r3 ∧ Below w.heap.size w w' := by
  have hu106 := Try.underlying106
  have hu60 := Try.underlying60
  have HR0_1 := Aside0.mk hr0_1
  have HC0_1 := Aside0.mk hc0_1
  clear hr0_1 hc0_1
  have HR0_2 := Aside0.mk hr0_2
  have HC0_2 := Aside0.mk hc0_2
  clear hr0_2 hc0_2
  have HB := Aside0.mk (Below.refl w.heap.size w)
  have H : ((laws_toStringS.f k l0_1).bind fun t1584 => ((laws_toIntS.f k l0_2).bind fun t1587 => (some (a0_0, t1584, t1587)))) = some (r1, r2, r3) := h
  clear h
  replace H := Option.bind_eq_some_iff.mp H
  obtain ⟨t1584, A20, H⟩ := H
  replace H : ((laws_toIntS.f k l0_2).bind fun t1587 => (some (a0_0, t1584, t1587))) = some (r1, r2, r3) := H
  have A2 := Aside0.mk A20
  clear A20
  replace H := Option.bind_eq_some_iff.mp H
  obtain ⟨t1587, A30, H⟩ := H
  replace H : (some (a0_0, t1584, t1587)) = some (r1, r2, r3) := H
  have A3 := Aside0.mk A30
  clear A30
  simp only [Option.some.injEq, Prod.mk.injEq] at H
  obtain ⟨rfl, rfl, rfl⟩ := H
  go_enter Try.func158, Try.ntmps158
  go_wp2_with (first | ((with_reducible refine gate_dst (N := 1) rfl ?_); refine box_event ?hg (N := 1) ?hd (cs := #[.int .i64 a0_0, .slice A0_1 l0_1.length c0_1, .slice A0_2 l0_2.length c0_2]) (t := 106) ?hr ?_; (case hd => rfl); (case hg => rfl); (case hr => first | (go_simp; done) | (go_simp; rfl)); intro gb1581 hg w4 hbox hb; have n0_ := Aside0.mk (below_step (by repeat (first | (with_reducible first | exact HB.out | apply below_alloc | apply pw_below_drewN | apply below_drew1) | exact HB.out)) hb); have n1_ := Aside0.mk (hbox); have n2_ := Aside0.mk ((by rw [hg]; exact (below_size (by repeat (first | (with_reducible first | exact HB.out | apply below_alloc | apply pw_below_drewN | apply below_drew1) | exact HB.out))) : w.heap.size ≤ gb1581)); have n3_ := n2_; clear HB; have HB := n0_; have BK1581 := n1_; have GW1581 := n2_; have GE1581 := n3_; clear n0_ n1_ n2_ n3_; clear hb hbox hg) | ((with_reducible refine gate_dst (N := 2) rfl ?_); refine box_event ?hg (N := 2) ?hd (cs := #[.int .i64 0, .slice none 0 0, .slice none 0 0]) (t := 60) ?hr ?_; (case hd => rfl); (case hg => rfl); (case hr => first | (go_simp; done) | (go_simp; rfl)); intro gb1582 hg w5 hbox hb; have n0_ := Aside0.mk (blk_below (g := gb1581) (by (with_reducible repeat (first | refine blk_drewN ?_ _ | refine blk_drew ?_ | refine blk_alloc ?_ _)); exact BK1581.out) hb); have n1_ := Aside0.mk (below_step (by repeat (first | (with_reducible first | exact HB.out | apply below_alloc | apply pw_below_drewN | apply below_drew1 | refine below_set ?_ GE1581.out) | exact HB.out)) hb); have n2_ := Aside0.mk (hbox); have n3_ := Aside0.mk ((by rw [hg]; exact (below_size (by repeat (first | (with_reducible first | exact HB.out | apply below_alloc | apply pw_below_drewN | apply below_drew1 | refine below_set ?_ GE1581.out) | exact HB.out))) : w.heap.size ≤ gb1582)); have n4_ := Aside0.mk ((by rw [hg]; exact (below_size (by repeat (first | (with_reducible first | exact HB.out | apply below_alloc | apply pw_below_drewN | apply below_drew1 | refine below_set ?_ GE1581.out) | exact HB.out))) : w.heap.size ≤ gb1582)); have n5_ := Aside0.mk ((by rw [hg]; exact Nat.ne_of_lt (blk_lt (g := gb1581) (o := .cells #[.int .i64 a0_0, .slice A0_1 l0_1.length c0_1, .slice A0_2 l0_2.length c0_2] 106 (0, 0)) (by (with_reducible repeat (first | refine blk_drewN ?_ _ | refine blk_drew ?_ | refine blk_alloc ?_ _)); exact BK1581.out)) : gb1581 ≠ gb1582)); have n6_ := Aside0.mk ((by rw [hg]; exact Nat.ne_of_gt (blk_lt (g := gb1581) (o := .cells #[.int .i64 a0_0, .slice A0_1 l0_1.length c0_1, .slice A0_2 l0_2.length c0_2] 106 (0, 0)) (by (with_reducible repeat (first | refine blk_drewN ?_ _ | refine blk_drew ?_ | refine blk_alloc ?_ _)); exact BK1581.out)) : gb1582 ≠ gb1581)); clear BK1581; clear HB; have BK1581 := n0_; have HB := n1_; have BK1582 := n2_; have GW1582 := n3_; have GE1582 := n4_; have NB1581_1582 := n5_; have NB1582_1581 := n6_; clear n0_ n1_ n2_ n3_ n4_ n5_ n6_; clear hb hbox hg) | ((with_reducible refine gate_dst (N := 3) rfl ?_); refine box_event ?hg (N := 3) ?hd (cs := #[.int .i64 0, .slice none 0 0, .slice none 0 0]) (t := 60) ?hr ?_; (case hd => rfl); (case hg => rfl); (case hr => first | (go_simp; done) | (go_simp; rfl)); intro gb1583 hg w6 hbox hb; have n0_ := Aside0.mk (blk_below (g := gb1581) (by (with_reducible repeat (first | refine blk_drewN ?_ _ | refine blk_drew ?_ | refine blk_alloc ?_ _)); exact BK1581.out) hb); have n1_ := Aside0.mk (blk_below (g := gb1582) (by (with_reducible repeat (first | refine blk_drewN ?_ _ | refine blk_drew ?_ | refine blk_alloc ?_ _)); exact BK1582.out) hb); have n2_ := Aside0.mk (below_step (by repeat (first | (with_reducible first | exact HB.out | apply below_alloc | apply pw_below_drewN | apply below_drew1 | refine below_set ?_ GE1581.out | refine below_set ?_ GE1582.out) | exact HB.out)) hb); have n3_ := Aside0.mk (hbox); have n4_ := Aside0.mk ((by rw [hg]; exact (below_size (by repeat (first | (with_reducible first | exact HB.out | apply below_alloc | apply pw_below_drewN | apply below_drew1 | refine below_set ?_ GE1581.out | refine below_set ?_ GE1582.out) | exact HB.out))) : w.heap.size ≤ gb1583)); have n5_ := Aside0.mk ((by rw [hg]; exact (below_size (by repeat (first | (with_reducible first | exact HB.out | apply below_alloc | apply pw_below_drewN | apply below_drew1 | refine below_set ?_ GE1581.out | refine below_set ?_ GE1582.out) | exact HB.out))) : w.heap.size ≤ gb1583)); have n6_ := Aside0.mk ((by rw [hg]; exact Nat.ne_of_lt (blk_lt (g := gb1581) (o := .cells #[.int .i64 a0_0, .slice A0_1 l0_1.length c0_1, .slice A0_2 l0_2.length c0_2] 106 (0, 0)) (by (with_reducible repeat (first | refine blk_drewN ?_ _ | refine blk_drew ?_ | refine blk_alloc ?_ _)); exact BK1581.out)) : gb1581 ≠ gb1583)); have n7_ := Aside0.mk ((by rw [hg]; exact Nat.ne_of_gt (blk_lt (g := gb1581) (o := .cells #[.int .i64 a0_0, .slice A0_1 l0_1.length c0_1, .slice A0_2 l0_2.length c0_2] 106 (0, 0)) (by (with_reducible repeat (first | refine blk_drewN ?_ _ | refine blk_drew ?_ | refine blk_alloc ?_ _)); exact BK1581.out)) : gb1583 ≠ gb1581)); have n8_ := Aside0.mk ((by rw [hg]; exact Nat.ne_of_lt (blk_lt (g := gb1582) (o := .cells #[.int .i64 0, .slice none 0 0, .slice none 0 0] 60 (0, 0)) (by (with_reducible repeat (first | refine blk_drewN ?_ _ | refine blk_drew ?_ | refine blk_alloc ?_ _)); exact BK1582.out)) : gb1582 ≠ gb1583)); have n9_ := Aside0.mk ((by rw [hg]; exact Nat.ne_of_gt (blk_lt (g := gb1582) (o := .cells #[.int .i64 0, .slice none 0 0, .slice none 0 0] 60 (0, 0)) (by (with_reducible repeat (first | refine blk_drewN ?_ _ | refine blk_drew ?_ | refine blk_alloc ?_ _)); exact BK1582.out)) : gb1583 ≠ gb1582)); clear BK1581; clear BK1582; clear HB; have BK1581 := n0_; have BK1582 := n1_; have HB := n2_; have BK1583 := n3_; have GW1583 := n4_; have GE1583 := n5_; have NB1581_1583 := n6_; have NB1583_1581 := n7_; have NB1582_1583 := n8_; have NB1583_1582 := n9_; clear n0_ n1_ n2_ n3_ n4_ n5_ n6_ n7_ n8_ n9_; clear hb hbox hg; have hnb7 := NB1581_1582.out; have hnc7 := NB1582_1581.out; have hnb8 := NB1581_1583.out; have hnc8 := NB1583_1581.out; obtain ⟨hcz9_0, hcz9_1, hcz9_2⟩ := cells3 BK1581.out; obtain ⟨hfz9_0, hfz9_1, hfz9_2⟩ := frozens3 BK1581.out; have hnb10 := NB1583_1582.out; have hnc10 := NB1582_1583.out; obtain ⟨hcz11_0, hcz11_1, hcz11_2⟩ := cells3 BK1583.out; obtain ⟨hfz11_0, hfz11_1, hfz11_2⟩ := frozens3 BK1583.out) | ((with_reducible refine gate_callee (f := 199) rfl ?_); refine goesL_ (some 9) rfl rfl Try.func199 (by kernel_rfl) rfl #[.slice A0_1 l0_1.length c0_1] rfl (by (try simp only [List.map_toArray, List.map_cons, List.map_nil]); first | done | rfl | (simp only [List.length_drop, List.length_take]; rfl)) ?_; (with_reducible refine (laws_toStringS.calls k _ _ l0_1 t1584 _ ?side1 ?side2 A2.out).mono ?_); (case side1 => exact Kd.C_below HR0_1.out (by repeat (first | (with_reducible first | exact HB.out | apply below_alloc | apply pw_below_drewN | apply below_drew1 | refine below_set ?_ GE1581.out | refine below_set ?_ GE1582.out | refine below_set ?_ GE1583.out) | exact HB.out))); (case side2 => exact HC0_1.out); rintro e w12 ⟨v1585, rfl, ho0, hb⟩; refine ⟨_, rfl, ?_⟩; have n0_ := Aside0.mk (Kd.R_lower ho0 (below_size (by repeat (first | (with_reducible first | exact HB.out | apply below_alloc | apply pw_below_drewN | apply below_drew1 | refine below_set ?_ GE1581.out | refine below_set ?_ GE1582.out | refine below_set ?_ GE1583.out) | exact HB.out)))); have n1_ := Aside0.mk (blk_below (g := gb1581) (o := .cells #[.int .i64 a0_0, .slice A0_1 l0_1.length c0_1, .slice A0_2 l0_2.length c0_2] 106 (0, 0)) (by (with_reducible repeat (first | refine blk_drewN ?_ _ | refine blk_drew ?_ | refine blk_alloc ?_ _)); refine blk_far ?_ NB1581_1583.out _; (with_reducible repeat (first | refine blk_drewN ?_ _ | refine blk_drew ?_ | refine blk_alloc ?_ _)); exact BK1581.out) hb); have n2_ := Aside0.mk (blk_below (g := gb1582) (o := .cells #[.int .i64 0, .slice none 0 0, .slice none 0 0] 60 (0, 0)) (by (with_reducible repeat (first | refine blk_drewN ?_ _ | refine blk_drew ?_ | refine blk_alloc ?_ _)); refine blk_far ?_ NB1582_1583.out _; (with_reducible repeat (first | refine blk_drewN ?_ _ | refine blk_drew ?_ | refine blk_alloc ?_ _)); exact BK1582.out) hb); have n3_ := Aside0.mk (blk_below (g := gb1583) (o := .cells #[.int .i64 a0_0, .slice none 0 0, .slice none 0 0] 60 (0, 0)) (by (with_reducible repeat (first | refine blk_drewN ?_ _ | refine blk_drew ?_ | refine blk_alloc ?_ _)); refine blk_put (cs := #[.int .i64 0, .slice none 0 0, .slice none 0 0]) ?_ 0 _ rfl; (with_reducible repeat (first | refine blk_drewN ?_ _ | refine blk_drew ?_ | refine blk_alloc ?_ _)); exact BK1583.out) hb); have n4_ := Aside0.mk (below_step (by repeat (first | (with_reducible first | exact HB.out | apply below_alloc | apply pw_below_drewN | apply below_drew1 | refine below_set ?_ GE1581.out | refine below_set ?_ GE1582.out | refine below_set ?_ GE1583.out) | exact HB.out)) hb); clear BK1581; clear BK1582; clear BK1583; clear HB; have HO1586 := n0_; have BK1581 := n1_; have BK1582 := n2_; have BK1583 := n3_; have HB := n4_; clear n0_ n1_ n2_ n3_ n4_; (try clear hb); (try clear hb2); (try clear hk); (try clear hi); (try clear ho0); obtain ⟨Ao13, co13, eo13⟩ := Kd.R_slice HO1586.out; subst eo13; obtain ⟨hcz14_0, hcz14_1, hcz14_2⟩ := cells3 BK1583.out; obtain ⟨hfz14_0, hfz14_1, hfz14_2⟩ := frozens3 BK1583.out; obtain ⟨hcz15_0, hcz15_1, hcz15_2⟩ := cells3 BK1581.out; obtain ⟨hfz15_0, hfz15_1, hfz15_2⟩ := frozens3 BK1581.out) | ((with_reducible refine gate_callee (f := 200) rfl ?_); refine goesL_ (some 13) rfl rfl Try.func200 (by kernel_rfl) rfl #[.slice A0_2 l0_2.length c0_2] rfl (by (try simp only [List.map_toArray, List.map_cons, List.map_nil]); first | done | rfl | (simp only [List.length_drop, List.length_take]; rfl)) ?_; (with_reducible refine (laws_toIntS.calls k _ _ l0_2 t1587 _ ?side1 ?side2 A3.out).mono ?_); (case side1 => exact Kd.C_below HR0_2.out (by repeat (first | (with_reducible first | exact HB.out | apply below_alloc | apply pw_below_drewN | apply below_drew1 | refine below_set ?_ GE1581.out | refine below_set ?_ GE1582.out | refine below_set ?_ GE1583.out) | exact HB.out))); (case side2 => exact HC0_2.out); rintro e w16 ⟨v1588, rfl, ho0, hb⟩; refine ⟨_, rfl, ?_⟩; have n0_ := Aside0.mk (Kd.R_below (by (with_reducible repeat (first | apply Kd.R_alloc | apply Kd.R_drewN | apply Kd.R_drew)); exact (Kd.R_mono (Kd.R_far (p := ⟨gb1583, 1, none⟩) (Kd.R_types HO1586.out BK1583.out (by decide)) (fun _ hk => hk.2) (.slice Ao13 t1584.length co13)) (fun _ h_ => h_.1))) hb); have n1_ := Aside0.mk (Kd.R_lower ho0 (below_size (by repeat (first | (with_reducible first | exact HB.out | apply below_alloc | apply pw_below_drewN | apply below_drew1 | refine below_set ?_ GE1581.out | refine below_set ?_ GE1582.out | refine below_set ?_ GE1583.out) | exact HB.out)))); have n2_ := Aside0.mk (blk_below (g := gb1581) (o := .cells #[.int .i64 a0_0, .slice A0_1 l0_1.length c0_1, .slice A0_2 l0_2.length c0_2] 106 (0, 0)) (by (with_reducible repeat (first | refine blk_drewN ?_ _ | refine blk_drew ?_ | refine blk_alloc ?_ _)); refine blk_far ?_ NB1581_1583.out _; (with_reducible repeat (first | refine blk_drewN ?_ _ | refine blk_drew ?_ | refine blk_alloc ?_ _)); exact BK1581.out) hb); have n3_ := Aside0.mk (blk_below (g := gb1582) (o := .cells #[.int .i64 0, .slice none 0 0, .slice none 0 0] 60 (0, 0)) (by (with_reducible repeat (first | refine blk_drewN ?_ _ | refine blk_drew ?_ | refine blk_alloc ?_ _)); refine blk_far ?_ NB1582_1583.out _; (with_reducible repeat (first | refine blk_drewN ?_ _ | refine blk_drew ?_ | refine blk_alloc ?_ _)); exact BK1582.out) hb); have n4_ := Aside0.mk (blk_below (g := gb1583) (o := .cells #[.int .i64 a0_0, .slice Ao13 t1584.length co13, .slice none 0 0] 60 (0, 0)) (by (with_reducible repeat (first | refine blk_drewN ?_ _ | refine blk_drew ?_ | refine blk_alloc ?_ _)); refine blk_put (cs := #[.int .i64 a0_0, .slice none 0 0, .slice none 0 0]) ?_ 1 _ rfl; (with_reducible repeat (first | refine blk_drewN ?_ _ | refine blk_drew ?_ | refine blk_alloc ?_ _)); exact BK1583.out) hb); have n5_ := Aside0.mk (below_step (by repeat (first | (with_reducible first | exact HB.out | apply below_alloc | apply pw_below_drewN | apply below_drew1 | refine below_set ?_ GE1581.out | refine below_set ?_ GE1582.out | refine below_set ?_ GE1583.out) | exact HB.out)) hb); clear HO1586; clear BK1581; clear BK1582; clear BK1583; clear HB; have HO1586 := n0_; have HO1589 := n1_; have BK1581 := n2_; have BK1582 := n3_; have BK1583 := n4_; have HB := n5_; clear n0_ n1_ n2_ n3_ n4_ n5_; (try clear hb); (try clear hb2); (try clear hk); (try clear hi); (try clear ho0); obtain ⟨Ao17, co17, eo17⟩ := Kd.R_slice HO1589.out; subst eo17; obtain ⟨hcz18_0, hcz18_1, hcz18_2⟩ := cells3 BK1583.out; obtain ⟨hfz18_0, hfz18_1, hfz18_2⟩ := frozens3 BK1583.out; obtain ⟨hcz19_0, hcz19_1, hcz19_2⟩ := cells3 BK1582.out; obtain ⟨hfz19_0, hfz19_1, hfz19_2⟩ := frozens3 BK1582.out))
  refine bodyPost_ret (results_cell_row rfl _ _ gb1582 60 #[.int .i64 a0_0, .slice Ao13 t1584.length co13, .slice Ao17 t1587.length co17] (0, 0) _ rfl (by (with_reducible repeat (first | refine blk_drewN ?_ _ | refine blk_drew ?_ | refine blk_alloc ?_ _)); refine blk_put (cs := #[.int .i64 a0_0, .slice Ao13 t1584.length co13, .slice none 0 0]) ?_ 2 _ rfl; (with_reducible repeat (first | refine blk_drewN ?_ _ | refine blk_drew ?_ | refine blk_alloc ?_ _)); refine blk_put (cs := #[.int .i64 a0_0, .slice none 0 0, .slice none 0 0]) ?_ 1 _ rfl; (with_reducible repeat (first | refine blk_drewN ?_ _ | refine blk_drew ?_ | refine blk_alloc ?_ _)); refine blk_put (cs := #[.int .i64 0, .slice none 0 0, .slice none 0 0]) ?_ 0 _ rfl; (with_reducible repeat (first | refine blk_drewN ?_ _ | refine blk_drew ?_ | refine blk_alloc ?_ _)); refine blk_far ?_ NB1582_1583.out _; (with_reducible repeat (first | refine blk_drewN ?_ _ | refine blk_drew ?_ | refine blk_alloc ?_ _)); exact BK1582.out) Try.underlying60 rfl (by kernel_rfl)) rfl ?_
  exact ⟨_, _, by first | rfl | (simp [errW_none, errW_some] <;> rfl) | (simp [*, errW_none, errW_some] <;> rfl), by (with_reducible repeat (first | apply Kd.R_alloc | apply Kd.R_drewN | apply Kd.R_drew)); exact Kd.R_mono (Kd.R_far (p := ⟨gb1582, 2, none⟩) (Kd.R_far (p := ⟨gb1582, 1, none⟩) (Kd.R_far (p := ⟨gb1582, 0, none⟩) (Kd.R_far (p := ⟨gb1583, 2, none⟩) (Kd.R_types (Kd.R_types HO1586.out BK1583.out (by decide)) BK1582.out (by decide)) (fun _ hk => hk.1.2) (.slice Ao17 t1587.length co17)) (fun _ hk => hk.2) (.int .i64 a0_0)) (fun _ hk => hk.2) (.slice Ao13 t1584.length co13)) (fun _ hk => hk.2) (.slice Ao17 t1587.length co17)) (fun _ hk => trivial), by (with_reducible repeat (first | apply Kd.R_alloc | apply Kd.R_drewN | apply Kd.R_drew)); exact Kd.R_mono (Kd.R_far (p := ⟨gb1582, 2, none⟩) (Kd.R_far (p := ⟨gb1582, 1, none⟩) (Kd.R_far (p := ⟨gb1582, 0, none⟩) (Kd.R_far (p := ⟨gb1583, 2, none⟩) (Kd.R_types (Kd.R_types HO1589.out BK1583.out (by decide)) BK1582.out (by decide)) (fun _ hk => hk.1.2) (.slice Ao17 t1587.length co17)) (fun _ hk => hk.2) (.int .i64 a0_0)) (fun _ hk => hk.2) (.slice Ao13 t1584.length co13)) (fun _ hk => hk.2) (.slice Ao17 t1587.length co17)) (fun _ hk => trivial), by repeat (first | (with_reducible first | exact HB.out | apply below_alloc | apply pw_below_drewN | apply below_drew1 | refine below_set ?_ GE1581.out | refine below_set ?_ GE1582.out | refine below_set ?_ GE1583.out) | exact HB.out)⟩

def c106 (x : S106) : S60 := ⟨x.f0, x.f1, x.f2⟩

def s106 (x : S106) : Prop := (fun l : List ByteArray => l.length ≤ 1048576) x.f1 ∧ (fun l : List Int => l.length ≤ 1048576) x.f2

theorem laws_toTc.is {x : S106} (hs : s106 x) : Ev (fun k => laws_toTc.f k x.f0 x.f1 x.f2) ((c106 x).f0, (c106 x).f1, (c106 x).f2) := by
  unfold laws_toTc.f
  refine Ev.bind (laws_toStringS.is hs.1) ?_
  refine Ev.bind (laws_toIntS.is hs.2) ?_
  exact Ev.now _

theorem laws_toTc.does {x : S106} (hs : s106 x) {cs : List Value} {w : World} (hK : k106.K w x cs) :
    Calls Try.prog 158 #[.agg cs.toArray] w fun e w' => ∃ ds : List Value, e = .returned (.agg ds.toArray) ∧ k60.K w' (c106 x) ds ∧ Below w.heap.size w w' := by
  obtain ⟨A1, cA1, A2, cA2, rfl, lA1, gA1, lA2, gA2⟩ := k106_open hK
  obtain ⟨k, h⟩ := (laws_toTc.is hs).rounds
  refine (laws_toTc.calls k x.f0 A1 cA1 x.f1 A2 cA2 x.f2 _ _ _ w gA1 lA1 gA2 lA2 h).mono fun e w' ⟨v1, v2, hv, r1, r2, hb⟩ => ?_
  obtain ⟨B1, d1, rfl, m1, n1⟩ := Kd.R_reads r1
  obtain ⟨B2, d2, rfl, m2, n2⟩ := Kd.R_reads r2
  exact ⟨_, hv, k60_mk w' (c106 x) m1 n1 m2 n2, hb⟩

theorem small106 {x : S106} (h : hold106 x ≤ 1048576) : s106 x := by
  unfold hold106 at h
  have n1 : 0 ≤ ((x.f1.length : Int) + sums (fun x : ByteArray => (x.size : Int)) x.f1) := (Int.add_nonneg (Int.natCast_nonneg _) (sums_nn (fun x => Int.natCast_nonneg _) x.f1))
  have n2 : 0 ≤ (x.f2.length : Int) := (Int.natCast_nonneg _)
  exact ⟨(by have := sums_nn (h := fun x : ByteArray => (x.size : Int)) (fun x => Int.natCast_nonneg _) x.f1; omega), (by omega)⟩

theorem long106 {x : S106} (h : s106 x) : l60 (c106 x) := by
  exact ⟨Nat.le_trans h.1 (by decide), Nat.le_trans h.2 (by decide)⟩

/-! ### laws_toBlock: function 69 -/
def laws_toBlock.f (k : Nat) (a0_0 : Int) (a0_1 : Int) (a0_2 : Int) (a0_3 : ByteArray) (a0_4 : Int) (a0_5 : Int) (l0_6 : List ByteArray) (a0_7 : Int) (l0_8 : List ByteArray) (l0_9 : List Int) (l0_10 : List (S191)) (a0_11 : Bool) (l0_12 : List (S159)) (a0_13 : ByteArray) : Option (Int × Int × Int × ByteArray × Int × Int × List ByteArray × Int × List ByteArray × List Int × (List (S186)) × Bool × (List (S138)) × ByteArray) := (laws_toQc.f k a0_4 a0_5 l0_6).bind fun bt1593 => ((laws_toTc.f k a0_7 l0_8 l0_9).bind fun bt1598 => ((laws_toTxS.f k l0_10).bind fun t1605 => ((laws_toValS.f k l0_12).bind fun t1608 => (some (a0_0, a0_1, a0_2, a0_3, bt1593.1, bt1593.2.1, bt1593.2.2, bt1598.1, bt1598.2.1, bt1598.2.2, t1605, a0_11, t1608, a0_13)))))
theorem laws_toBlock.mono : ∀ a0 a1 a2 a3 a4 a5 a6 a7 a8 a9 a10 a11 a12 a13 k, LeO (laws_toBlock.f k a0 a1 a2 a3 a4 a5 a6 a7 a8 a9 a10 a11 a12 a13) (laws_toBlock.f (k + 1) a0 a1 a2 a3 a4 a5 a6 a7 a8 a9 a10 a11 a12 a13) := by
  intro a0 a1 a2 a3 a4 a5 a6 a7 a8 a9 a10 a11 a12 a13 k
  unfold laws_toBlock.f
  repeat' first
      | (with_reducible exact laws_toQc.mono _ _ _ _)
      | (with_reducible exact laws_toTc.mono _ _ _ _)
      | (with_reducible exact laws_toTxS.mono _ _)
      | (with_reducible exact laws_toValS.mono _ _)
      | (with_reducible exact LeO.refl _)
      | (with_reducible exact LeO.none _)
      | (with_reducible refine LeO.ite ?_ ?_)
      | (with_reducible refine LeO.bind ?_ (fun _ => ?_))
      | exact laws_toQc.mono _ _ _ _
      | exact laws_toTc.mono _ _ _ _
      | exact laws_toTxS.mono _ _
      | exact laws_toValS.mono _ _
      | exact LeO.none _
      | refine LeO.ite ?_ ?_
      | refine LeO.bind ?_ (fun _ => ?_)
set_option maxHeartbeats 8000000 in
set_option maxRecDepth 100000 in
theorem laws_toBlock.calls (k : Nat) (a0_0 : Int) (a0_1 : Int) (a0_2 : Int) (a0_3 : ByteArray) (a0_4 : Int) (a0_5 : Int) (A0_6 : Option Addr) (c0_6 : Nat) (l0_6 : List ByteArray) (a0_7 : Int) (A0_8 : Option Addr) (c0_8 : Nat) (l0_8 : List ByteArray) (A0_9 : Option Addr) (c0_9 : Nat) (l0_9 : List Int) (A0_10 : Option Addr) (c0_10 : Nat) (l0_10 : List (S191)) (a0_11 : Bool) (A0_12 : Option Addr) (c0_12 : Nat) (l0_12 : List (S159)) (a0_13 : ByteArray) (r1 : Int) (r2 : Int) (r3 : Int) (r4 : ByteArray) (r5 : Int) (r6 : Int) (r7 : List ByteArray) (r8 : Int) (r9 : List ByteArray) (r10 : List Int) (r11 : List (S186)) (r12 : Bool) (r13 : List (S138)) (r14 : ByteArray) (w : World) (hr0_6 : Kd.C Kd.string w A0_6 l0_6.length l0_6) (hc0_6 : l0_6.length ≤ c0_6) (hr0_8 : Kd.C Kd.string w A0_8 l0_8.length l0_8) (hc0_8 : l0_8.length ≤ c0_8) (hr0_9 : Kd.C (Kd.int .i64) w A0_9 l0_9.length l0_9) (hc0_9 : l0_9.length ≤ c0_9) (hr0_10 : Kd.C k191 w A0_10 l0_10.length l0_10) (hc0_10 : l0_10.length ≤ c0_10) (hr0_12 : Kd.C k159 w A0_12 l0_12.length l0_12) (hc0_12 : l0_12.length ≤ c0_12) (h : laws_toBlock.f k a0_0 a0_1 a0_2 a0_3 a0_4 a0_5 l0_6 a0_7 l0_8 l0_9 l0_10 a0_11 l0_12 a0_13 = some (r1, r2, r3, r4, r5, r6, r7, r8, r9, r10, r11, r12, r13, r14)) :
    Calls Try.prog 69 #[.agg #[.int .i64 a0_0, .int .i64 a0_1, .int .i64 a0_2, .string a0_3, .int .i64 a0_4, .int .i64 a0_5, .slice A0_6 l0_6.length c0_6, .int .i64 a0_7, .slice A0_8 l0_8.length c0_8, .slice A0_9 l0_9.length c0_9, .slice A0_10 l0_10.length c0_10, .bool a0_11, .slice A0_12 l0_12.length c0_12, .string a0_13]] w fun e w' => ∃ v6_ v8_ v9_ v10_ v12_ : Value, e = .returned (.agg #[.int .i64 r1, .int .i64 r2, .int .i64 r3, .string r4, .int .i64 r5, .int .i64 r6, v6_, .int .i64 r8, v8_, v9_, v10_, .bool r12, v12_, .string r14]) ∧ Kd.R Kd.string 9 w' w.heap.size (fun k_ => some k_ ≠ (v8_ : Value).ownBlock) v6_ r7 ∧ Kd.R Kd.string 9 w' w.heap.size (fun k_ => some k_ ≠ (v6_ : Value).ownBlock) v8_ r9 ∧ Kd.R (Kd.int .i64) 3 w' w.heap.size (fun _ => True) v9_ r10 ∧ Kd.R k186 186 w' w.heap.size (fun _ => True) v10_ r11 ∧ Kd.R k138 138 w' w.heap.size (fun _ => True) v12_ r13 ∧ Below w.heap.size w w' := by
  have hu109 := Try.underlying109
  have hu113 := Try.underlying113
  have hu105 := Try.underlying105
  have hu49 := Try.underlying49
  have hu106 := Try.underlying106
  have hu60 := Try.underlying60
  have HR0_6 := Aside0.mk hr0_6
  have HC0_6 := Aside0.mk hc0_6
  clear hr0_6 hc0_6
  have HR0_8 := Aside0.mk hr0_8
  have HC0_8 := Aside0.mk hc0_8
  clear hr0_8 hc0_8
  have HR0_9 := Aside0.mk hr0_9
  have HC0_9 := Aside0.mk hc0_9
  clear hr0_9 hc0_9
  have HR0_10 := Aside0.mk hr0_10
  have HC0_10 := Aside0.mk hc0_10
  clear hr0_10 hc0_10
  have HR0_12 := Aside0.mk hr0_12
  have HC0_12 := Aside0.mk hc0_12
  clear hr0_12 hc0_12
  have HB := Aside0.mk (Below.refl w.heap.size w)
  have H : ((laws_toQc.f k a0_4 a0_5 l0_6).bind fun bt1593 => ((laws_toTc.f k a0_7 l0_8 l0_9).bind fun bt1598 => ((laws_toTxS.f k l0_10).bind fun t1605 => ((laws_toValS.f k l0_12).bind fun t1608 => (some (a0_0, a0_1, a0_2, a0_3, bt1593.1, bt1593.2.1, bt1593.2.2, bt1598.1, bt1598.2.1, bt1598.2.2, t1605, a0_11, t1608, a0_13)))))) = some (r1, r2, r3, r4, r5, r6, r7, r8, r9, r10, r11, r12, r13, r14) := h
  clear h
  replace H := Option.bind_eq_some_iff.mp H
  obtain ⟨⟨t1593, t1594, t1595⟩, A20, H⟩ := H
  replace H : ((laws_toTc.f k a0_7 l0_8 l0_9).bind fun bt1598 => ((laws_toTxS.f k l0_10).bind fun t1605 => ((laws_toValS.f k l0_12).bind fun t1608 => (some (a0_0, a0_1, a0_2, a0_3, t1593, t1594, t1595, bt1598.1, bt1598.2.1, bt1598.2.2, t1605, a0_11, t1608, a0_13))))) = some (r1, r2, r3, r4, r5, r6, r7, r8, r9, r10, r11, r12, r13, r14) := H
  have A2 := Aside0.mk A20
  clear A20
  replace H := Option.bind_eq_some_iff.mp H
  obtain ⟨⟨t1598, t1599, t1602⟩, A30, H⟩ := H
  replace H : ((laws_toTxS.f k l0_10).bind fun t1605 => ((laws_toValS.f k l0_12).bind fun t1608 => (some (a0_0, a0_1, a0_2, a0_3, t1593, t1594, t1595, t1598, t1599, t1602, t1605, a0_11, t1608, a0_13)))) = some (r1, r2, r3, r4, r5, r6, r7, r8, r9, r10, r11, r12, r13, r14) := H
  have A3 := Aside0.mk A30
  clear A30
  replace H := Option.bind_eq_some_iff.mp H
  obtain ⟨t1605, A40, H⟩ := H
  replace H : ((laws_toValS.f k l0_12).bind fun t1608 => (some (a0_0, a0_1, a0_2, a0_3, t1593, t1594, t1595, t1598, t1599, t1602, t1605, a0_11, t1608, a0_13))) = some (r1, r2, r3, r4, r5, r6, r7, r8, r9, r10, r11, r12, r13, r14) := H
  have A4 := Aside0.mk A40
  clear A40
  replace H := Option.bind_eq_some_iff.mp H
  obtain ⟨t1608, A50, H⟩ := H
  replace H : (some (a0_0, a0_1, a0_2, a0_3, t1593, t1594, t1595, t1598, t1599, t1602, t1605, a0_11, t1608, a0_13)) = some (r1, r2, r3, r4, r5, r6, r7, r8, r9, r10, r11, r12, r13, r14) := H
  have A5 := Aside0.mk A50
  clear A50
  simp only [Option.some.injEq, Prod.mk.injEq] at H
  obtain ⟨rfl, rfl, rfl, rfl, rfl, rfl, rfl, rfl, rfl, rfl, rfl, rfl, rfl, rfl⟩ := H
  go_enter Try.func69, Try.ntmps69
  go_wp2_with (first | ((with_reducible refine gate_dst (N := 1) rfl ?_); refine box_event ?hg (N := 1) ?hd (cs := #[.int .i64 a0_0, .int .i64 a0_1, .int .i64 a0_2, .string a0_3, .int .i64 a0_4, .int .i64 a0_5, .slice A0_6 l0_6.length c0_6, .int .i64 a0_7, .slice A0_8 l0_8.length c0_8, .slice A0_9 l0_9.length c0_9, .slice A0_10 l0_10.length c0_10, .bool a0_11, .slice A0_12 l0_12.length c0_12, .string a0_13]) (t := 109) ?hr ?_; (case hd => rfl); (case hg => rfl); (case hr => first | (go_simp; done) | (go_simp; rfl)); intro gb1590 hg w6 hbox hb; have n0_ := Aside0.mk (below_step (by repeat (first | (with_reducible first | exact HB.out | apply below_alloc | apply pw_below_drewN | apply below_drew1) | exact HB.out)) hb); have n1_ := Aside0.mk (hbox); have n2_ := Aside0.mk ((by rw [hg]; exact (below_size (by repeat (first | (with_reducible first | exact HB.out | apply below_alloc | apply pw_below_drewN | apply below_drew1) | exact HB.out))) : w.heap.size ≤ gb1590)); have n3_ := n2_; clear HB; have HB := n0_; have BK1590 := n1_; have GW1590 := n2_; have GE1590 := n3_; clear n0_ n1_ n2_ n3_; clear hb hbox hg) | ((with_reducible refine gate_dst (N := 2) rfl ?_); refine box_event ?hg (N := 2) ?hd (cs := #[.int .i64 0, .int .i64 0, .int .i64 0, .string (⟨#[]⟩ : ByteArray), .int .i64 0, .int .i64 0, .slice none 0 0, .int .i64 0, .slice none 0 0, .slice none 0 0, .slice none 0 0, .bool false, .slice none 0 0, .string (⟨#[]⟩ : ByteArray)]) (t := 113) ?hr ?_; (case hd => rfl); (case hg => rfl); (case hr => first | (go_simp; done) | (go_simp; rfl)); intro gb1591 hg w7 hbox hb; have n0_ := Aside0.mk (blk_below (g := gb1590) (by (with_reducible repeat (first | refine blk_drewN ?_ _ | refine blk_drew ?_ | refine blk_alloc ?_ _)); exact BK1590.out) hb); have n1_ := Aside0.mk (below_step (by repeat (first | (with_reducible first | exact HB.out | apply below_alloc | apply pw_below_drewN | apply below_drew1 | refine below_set ?_ GE1590.out) | exact HB.out)) hb); have n2_ := Aside0.mk (hbox); have n3_ := Aside0.mk ((by rw [hg]; exact (below_size (by repeat (first | (with_reducible first | exact HB.out | apply below_alloc | apply pw_below_drewN | apply below_drew1 | refine below_set ?_ GE1590.out) | exact HB.out))) : w.heap.size ≤ gb1591)); have n4_ := Aside0.mk ((by rw [hg]; exact (below_size (by repeat (first | (with_reducible first | exact HB.out | apply below_alloc | apply pw_below_drewN | apply below_drew1 | refine below_set ?_ GE1590.out) | exact HB.out))) : w.heap.size ≤ gb1591)); have n5_ := Aside0.mk ((by rw [hg]; exact Nat.ne_of_lt (blk_lt (g := gb1590) (o := .cells #[.int .i64 a0_0, .int .i64 a0_1, .int .i64 a0_2, .string a0_3, .int .i64 a0_4, .int .i64 a0_5, .slice A0_6 l0_6.length c0_6, .int .i64 a0_7, .slice A0_8 l0_8.length c0_8, .slice A0_9 l0_9.length c0_9, .slice A0_10 l0_10.length c0_10, .bool a0_11, .slice A0_12 l0_12.length c0_12, .string a0_13] 109 (0, 0)) (by (with_reducible repeat (first | refine blk_drewN ?_ _ | refine blk_drew ?_ | refine blk_alloc ?_ _)); exact BK1590.out)) : gb1590 ≠ gb1591)); have n6_ := Aside0.mk ((by rw [hg]; exact Nat.ne_of_gt (blk_lt (g := gb1590) (o := .cells #[.int .i64 a0_0, .int .i64 a0_1, .int .i64 a0_2, .string a0_3, .int .i64 a0_4, .int .i64 a0_5, .slice A0_6 l0_6.length c0_6, .int .i64 a0_7, .slice A0_8 l0_8.length c0_8, .slice A0_9 l0_9.length c0_9, .slice A0_10 l0_10.length c0_10, .bool a0_11, .slice A0_12 l0_12.length c0_12, .string a0_13] 109 (0, 0)) (by (with_reducible repeat (first | refine blk_drewN ?_ _ | refine blk_drew ?_ | refine blk_alloc ?_ _)); exact BK1590.out)) : gb1591 ≠ gb1590)); clear BK1590; clear HB; have BK1590 := n0_; have HB := n1_; have BK1591 := n2_; have GW1591 := n3_; have GE1591 := n4_; have NB1590_1591 := n5_; have NB1591_1590 := n6_; clear n0_ n1_ n2_ n3_ n4_ n5_ n6_; clear hb hbox hg) | ((with_reducible refine gate_dst (N := 3) rfl ?_); refine box_event ?hg (N := 3) ?hd (cs := #[.int .i64 0, .int .i64 0, .int .i64 0, .string (⟨#[]⟩ : ByteArray), .int .i64 0, .int .i64 0, .slice none 0 0, .int .i64 0, .slice none 0 0, .slice none 0 0, .slice none 0 0, .bool false, .slice none 0 0, .string (⟨#[]⟩ : ByteArray)]) (t := 113) ?hr ?_; (case hd => rfl); (case hg => rfl); (case hr => first | (go_simp; done) | (go_simp; rfl)); intro gb1592 hg w8 hbox hb; have n0_ := Aside0.mk (blk_below (g := gb1590) (by (with_reducible repeat (first | refine blk_drewN ?_ _ | refine blk_drew ?_ | refine blk_alloc ?_ _)); exact BK1590.out) hb); have n1_ := Aside0.mk (blk_below (g := gb1591) (o := .cells #[.int .i64 0, .int .i64 0, .int .i64 0, .string (⟨#[]⟩ : ByteArray), .int .i64 0, .int .i64 0, .slice none 0 0, .int .i64 0, .slice none 0 0, .slice none 0 0, .slice none 0 0, .bool false, .slice none 0 0, .string (⟨#[]⟩ : ByteArray)] 113 (0, 0)) (by (with_reducible repeat (first | refine blk_drewN ?_ _ | refine blk_drew ?_ | refine blk_alloc ?_ _)); exact BK1591.out) hb); have n2_ := Aside0.mk (below_step (by repeat (first | (with_reducible first | exact HB.out | apply below_alloc | apply pw_below_drewN | apply below_drew1 | refine below_set ?_ GE1590.out | refine below_set ?_ GE1591.out) | exact HB.out)) hb); have n3_ := Aside0.mk (hbox); have n4_ := Aside0.mk ((by rw [hg]; exact (below_size (by repeat (first | (with_reducible first | exact HB.out | apply below_alloc | apply pw_below_drewN | apply below_drew1 | refine below_set ?_ GE1590.out | refine below_set ?_ GE1591.out) | exact HB.out))) : w.heap.size ≤ gb1592)); have n5_ := Aside0.mk ((by rw [hg]; exact (below_size (by repeat (first | (with_reducible first | exact HB.out | apply below_alloc | apply pw_below_drewN | apply below_drew1 | refine below_set ?_ GE1590.out | refine below_set ?_ GE1591.out) | exact HB.out))) : w.heap.size ≤ gb1592)); have n6_ := Aside0.mk ((by rw [hg]; exact Nat.ne_of_lt (blk_lt (g := gb1590) (o := .cells #[.int .i64 a0_0, .int .i64 a0_1, .int .i64 a0_2, .string a0_3, .int .i64 a0_4, .int .i64 a0_5, .slice A0_6 l0_6.length c0_6, .int .i64 a0_7, .slice A0_8 l0_8.length c0_8, .slice A0_9 l0_9.length c0_9, .slice A0_10 l0_10.length c0_10, .bool a0_11, .slice A0_12 l0_12.length c0_12, .string a0_13] 109 (0, 0)) (by (with_reducible repeat (first | refine blk_drewN ?_ _ | refine blk_drew ?_ | refine blk_alloc ?_ _)); exact BK1590.out)) : gb1590 ≠ gb1592)); have n7_ := Aside0.mk ((by rw [hg]; exact Nat.ne_of_gt (blk_lt (g := gb1590) (o := .cells #[.int .i64 a0_0, .int .i64 a0_1, .int .i64 a0_2, .string a0_3, .int .i64 a0_4, .int .i64 a0_5, .slice A0_6 l0_6.length c0_6, .int .i64 a0_7, .slice A0_8 l0_8.length c0_8, .slice A0_9 l0_9.length c0_9, .slice A0_10 l0_10.length c0_10, .bool a0_11, .slice A0_12 l0_12.length c0_12, .string a0_13] 109 (0, 0)) (by (with_reducible repeat (first | refine blk_drewN ?_ _ | refine blk_drew ?_ | refine blk_alloc ?_ _)); exact BK1590.out)) : gb1592 ≠ gb1590)); have n8_ := Aside0.mk ((by rw [hg]; exact Nat.ne_of_lt (blk_lt (g := gb1591) (o := .cells #[.int .i64 0, .int .i64 0, .int .i64 0, .string (⟨#[]⟩ : ByteArray), .int .i64 0, .int .i64 0, .slice none 0 0, .int .i64 0, .slice none 0 0, .slice none 0 0, .slice none 0 0, .bool false, .slice none 0 0, .string (⟨#[]⟩ : ByteArray)] 113 (0, 0)) (by (with_reducible repeat (first | refine blk_drewN ?_ _ | refine blk_drew ?_ | refine blk_alloc ?_ _)); exact BK1591.out)) : gb1591 ≠ gb1592)); have n9_ := Aside0.mk ((by rw [hg]; exact Nat.ne_of_gt (blk_lt (g := gb1591) (o := .cells #[.int .i64 0, .int .i64 0, .int .i64 0, .string (⟨#[]⟩ : ByteArray), .int .i64 0, .int .i64 0, .slice none 0 0, .int .i64 0, .slice none 0 0, .slice none 0 0, .slice none 0 0, .bool false, .slice none 0 0, .string (⟨#[]⟩ : ByteArray)] 113 (0, 0)) (by (with_reducible repeat (first | refine blk_drewN ?_ _ | refine blk_drew ?_ | refine blk_alloc ?_ _)); exact BK1591.out)) : gb1592 ≠ gb1591)); clear BK1590; clear BK1591; clear HB; have BK1590 := n0_; have BK1591 := n1_; have HB := n2_; have BK1592 := n3_; have GW1592 := n4_; have GE1592 := n5_; have NB1590_1592 := n6_; have NB1592_1590 := n7_; have NB1591_1592 := n8_; have NB1592_1591 := n9_; clear n0_ n1_ n2_ n3_ n4_ n5_ n6_ n7_ n8_ n9_; clear hb hbox hg; have hnb9 := NB1590_1591.out; have hnc9 := NB1591_1590.out; have hnb10 := NB1590_1592.out; have hnc10 := NB1592_1590.out; obtain ⟨hcz11_0, hcz11_1, hcz11_2, hcz11_3, hcz11_4, hcz11_5, hcz11_6, hcz11_7, hcz11_8, hcz11_9, hcz11_10, hcz11_11, hcz11_12, hcz11_13⟩ := cells14 BK1590.out; obtain ⟨hfz11_0, hfz11_1, hfz11_2, hfz11_3, hfz11_4, hfz11_5, hfz11_6, hfz11_7, hfz11_8, hfz11_9, hfz11_10, hfz11_11, hfz11_12, hfz11_13⟩ := frozens14 BK1590.out; have hnb12 := NB1592_1591.out; have hnc12 := NB1591_1592.out; obtain ⟨hcz13_0, hcz13_1, hcz13_2, hcz13_3, hcz13_4, hcz13_5, hcz13_6, hcz13_7, hcz13_8, hcz13_9, hcz13_10, hcz13_11, hcz13_12, hcz13_13⟩ := cells14 BK1592.out; obtain ⟨hfz13_0, hfz13_1, hfz13_2, hfz13_3, hfz13_4, hfz13_5, hfz13_6, hfz13_7, hfz13_8, hfz13_9, hfz13_10, hfz13_11, hfz13_12, hfz13_13⟩ := frozens14 BK1592.out) | ((with_reducible refine gate_callee (f := 157) rfl ?_); refine goesL_ (some 18) rfl rfl Try.func157 (by kernel_rfl) rfl #[.agg #[.int .i64 a0_4, .int .i64 a0_5, .slice A0_6 l0_6.length c0_6]] rfl (by (try simp only [List.map_toArray, List.map_cons, List.map_nil]); first | done | rfl | (simp only [List.length_drop, List.length_take]; rfl)) ?_; (with_reducible refine (laws_toQc.calls k a0_4 a0_5 _ _ l0_6 t1593 t1594 t1595 _ ?side1 ?side2 A2.out).mono ?_); (case side1 => exact Kd.C_below HR0_6.out (by repeat (first | (with_reducible first | exact HB.out | apply below_alloc | apply pw_below_drewN | apply below_drew1 | refine below_set ?_ GE1590.out | refine below_set ?_ GE1591.out | refine below_set ?_ GE1592.out) | exact HB.out))); (case side2 => exact HC0_6.out); rintro e w14 ⟨v1596, rfl, ho0, hb⟩; refine ⟨_, rfl, ?_⟩; have n0_ := Aside0.mk (Kd.R_lower ho0 (below_size (by repeat (first | (with_reducible first | exact HB.out | apply below_alloc | apply pw_below_drewN | apply below_drew1 | refine below_set ?_ GE1590.out | refine below_set ?_ GE1591.out | refine below_set ?_ GE1592.out) | exact HB.out)))); have n1_ := Aside0.mk (blk_below (g := gb1590) (o := .cells #[.int .i64 a0_0, .int .i64 a0_1, .int .i64 a0_2, .string a0_3, .int .i64 a0_4, .int .i64 a0_5, .slice A0_6 l0_6.length c0_6, .int .i64 a0_7, .slice A0_8 l0_8.length c0_8, .slice A0_9 l0_9.length c0_9, .slice A0_10 l0_10.length c0_10, .bool a0_11, .slice A0_12 l0_12.length c0_12, .string a0_13] 109 (0, 0)) (by (with_reducible repeat (first | refine blk_drewN ?_ _ | refine blk_drew ?_ | refine blk_alloc ?_ _)); refine blk_far ?_ NB1590_1592.out _; (with_reducible repeat (first | refine blk_drewN ?_ _ | refine blk_drew ?_ | refine blk_alloc ?_ _)); refine blk_far ?_ NB1590_1592.out _; (with_reducible repeat (first | refine blk_drewN ?_ _ | refine blk_drew ?_ | refine blk_alloc ?_ _)); refine blk_far ?_ NB1590_1592.out _; (with_reducible repeat (first | refine blk_drewN ?_ _ | refine blk_drew ?_ | refine blk_alloc ?_ _)); refine blk_far ?_ NB1590_1592.out _; (with_reducible repeat (first | refine blk_drewN ?_ _ | refine blk_drew ?_ | refine blk_alloc ?_ _)); exact BK1590.out) hb); have n2_ := Aside0.mk (blk_below (g := gb1591) (o := .cells #[.int .i64 0, .int .i64 0, .int .i64 0, .string (⟨#[]⟩ : ByteArray), .int .i64 0, .int .i64 0, .slice none 0 0, .int .i64 0, .slice none 0 0, .slice none 0 0, .slice none 0 0, .bool false, .slice none 0 0, .string (⟨#[]⟩ : ByteArray)] 113 (0, 0)) (by (with_reducible repeat (first | refine blk_drewN ?_ _ | refine blk_drew ?_ | refine blk_alloc ?_ _)); refine blk_far ?_ NB1591_1592.out _; (with_reducible repeat (first | refine blk_drewN ?_ _ | refine blk_drew ?_ | refine blk_alloc ?_ _)); refine blk_far ?_ NB1591_1592.out _; (with_reducible repeat (first | refine blk_drewN ?_ _ | refine blk_drew ?_ | refine blk_alloc ?_ _)); refine blk_far ?_ NB1591_1592.out _; (with_reducible repeat (first | refine blk_drewN ?_ _ | refine blk_drew ?_ | refine blk_alloc ?_ _)); refine blk_far ?_ NB1591_1592.out _; (with_reducible repeat (first | refine blk_drewN ?_ _ | refine blk_drew ?_ | refine blk_alloc ?_ _)); exact BK1591.out) hb); have n3_ := Aside0.mk (blk_below (g := gb1592) (o := .cells #[.int .i64 a0_0, .int .i64 a0_1, .int .i64 a0_2, .string a0_3, .int .i64 0, .int .i64 0, .slice none 0 0, .int .i64 0, .slice none 0 0, .slice none 0 0, .slice none 0 0, .bool false, .slice none 0 0, .string (⟨#[]⟩ : ByteArray)] 113 (0, 0)) (by (with_reducible repeat (first | refine blk_drewN ?_ _ | refine blk_drew ?_ | refine blk_alloc ?_ _)); refine blk_put (cs := #[.int .i64 a0_0, .int .i64 a0_1, .int .i64 a0_2, .string (⟨#[]⟩ : ByteArray), .int .i64 0, .int .i64 0, .slice none 0 0, .int .i64 0, .slice none 0 0, .slice none 0 0, .slice none 0 0, .bool false, .slice none 0 0, .string (⟨#[]⟩ : ByteArray)]) ?_ 3 _ rfl; (with_reducible repeat (first | refine blk_drewN ?_ _ | refine blk_drew ?_ | refine blk_alloc ?_ _)); refine blk_put (cs := #[.int .i64 a0_0, .int .i64 a0_1, .int .i64 0, .string (⟨#[]⟩ : ByteArray), .int .i64 0, .int .i64 0, .slice none 0 0, .int .i64 0, .slice none 0 0, .slice none 0 0, .slice none 0 0, .bool false, .slice none 0 0, .string (⟨#[]⟩ : ByteArray)]) ?_ 2 _ rfl; (with_reducible repeat (first | refine blk_drewN ?_ _ | refine blk_drew ?_ | refine blk_alloc ?_ _)); refine blk_put (cs := #[.int .i64 a0_0, .int .i64 0, .int .i64 0, .string (⟨#[]⟩ : ByteArray), .int .i64 0, .int .i64 0, .slice none 0 0, .int .i64 0, .slice none 0 0, .slice none 0 0, .slice none 0 0, .bool false, .slice none 0 0, .string (⟨#[]⟩ : ByteArray)]) ?_ 1 _ rfl; (with_reducible repeat (first | refine blk_drewN ?_ _ | refine blk_drew ?_ | refine blk_alloc ?_ _)); refine blk_put (cs := #[.int .i64 0, .int .i64 0, .int .i64 0, .string (⟨#[]⟩ : ByteArray), .int .i64 0, .int .i64 0, .slice none 0 0, .int .i64 0, .slice none 0 0, .slice none 0 0, .slice none 0 0, .bool false, .slice none 0 0, .string (⟨#[]⟩ : ByteArray)]) ?_ 0 _ rfl; (with_reducible repeat (first | refine blk_drewN ?_ _ | refine blk_drew ?_ | refine blk_alloc ?_ _)); exact BK1592.out) hb); have n4_ := Aside0.mk (below_step (by repeat (first | (with_reducible first | exact HB.out | apply below_alloc | apply pw_below_drewN | apply below_drew1 | refine below_set ?_ GE1590.out | refine below_set ?_ GE1591.out | refine below_set ?_ GE1592.out) | exact HB.out)) hb); clear BK1590; clear BK1591; clear BK1592; clear HB; have HO1597 := n0_; have BK1590 := n1_; have BK1591 := n2_; have BK1592 := n3_; have HB := n4_; clear n0_ n1_ n2_ n3_ n4_; (try clear hb); (try clear hb2); (try clear hk); (try clear hi); (try clear ho0); obtain ⟨hcz15_0, hcz15_1, hcz15_2, hcz15_3, hcz15_4, hcz15_5, hcz15_6, hcz15_7, hcz15_8, hcz15_9, hcz15_10, hcz15_11, hcz15_12, hcz15_13⟩ := cells14 BK1592.out; obtain ⟨hfz15_0, hfz15_1, hfz15_2, hfz15_3, hfz15_4, hfz15_5, hfz15_6, hfz15_7, hfz15_8, hfz15_9, hfz15_10, hfz15_11, hfz15_12, hfz15_13⟩ := frozens14 BK1592.out; obtain ⟨Ao16, co16, eo16⟩ := Kd.R_slice HO1597.out; subst eo16; obtain ⟨hcz17_0, hcz17_1, hcz17_2, hcz17_3, hcz17_4, hcz17_5, hcz17_6, hcz17_7, hcz17_8, hcz17_9, hcz17_10, hcz17_11, hcz17_12, hcz17_13⟩ := cells14 BK1590.out; obtain ⟨hfz17_0, hfz17_1, hfz17_2, hfz17_3, hfz17_4, hfz17_5, hfz17_6, hfz17_7, hfz17_8, hfz17_9, hfz17_10, hfz17_11, hfz17_12, hfz17_13⟩ := frozens14 BK1590.out) | ((with_reducible refine gate_callee (f := 158) rfl ?_); refine goesL_ (some 22) rfl rfl Try.func158 (by kernel_rfl) rfl #[.agg #[.int .i64 a0_7, .slice A0_8 l0_8.length c0_8, .slice A0_9 l0_9.length c0_9]] rfl (by (try simp only [List.map_toArray, List.map_cons, List.map_nil]); first | done | rfl | (simp only [List.length_drop, List.length_take]; rfl)) ?_; (with_reducible refine (laws_toTc.calls k a0_7 _ _ l0_8 _ _ l0_9 t1598 t1599 t1602 _ ?side1 ?side2 ?side3 ?side4 A3.out).mono ?_); (case side1 => exact Kd.C_below HR0_8.out (by repeat (first | (with_reducible first | exact HB.out | apply below_alloc | apply pw_below_drewN | apply below_drew1 | refine below_set ?_ GE1590.out | refine below_set ?_ GE1591.out | refine below_set ?_ GE1592.out) | exact HB.out))); (case side2 => exact HC0_8.out); (case side3 => exact Kd.C_below HR0_9.out (by repeat (first | (with_reducible first | exact HB.out | apply below_alloc | apply pw_below_drewN | apply below_drew1 | refine below_set ?_ GE1590.out | refine below_set ?_ GE1591.out | refine below_set ?_ GE1592.out) | exact HB.out))); (case side4 => exact HC0_9.out); rintro e w18 ⟨v1600, v1603, rfl, ho0, ho1, hb⟩; refine ⟨_, rfl, ?_⟩; have n0_ := Aside0.mk (Kd.R_elder' (by (with_reducible repeat (first | apply Kd.R_alloc | apply Kd.R_drewN | apply Kd.R_drew)); exact (Kd.R_mono (Kd.R_far (p := ⟨gb1592, 6, none⟩) (Kd.R_far (p := ⟨gb1592, 5, none⟩) (Kd.R_far (p := ⟨gb1592, 4, none⟩) (Kd.R_types HO1597.out BK1592.out (by decide)) (fun _ hk => hk.2) (.int .i64 t1593)) (fun _ hk => hk.2) (.int .i64 t1594)) (fun _ hk => hk.2) (.slice Ao16 t1595.length co16)) (fun _ h_ => h_.1))) (Kd.R_base ho0) hb); have n1_ := Aside0.mk (Kd.R_lower (Kd.R_new' ho0 (Kd.R_lt (by (with_reducible repeat (first | apply Kd.R_alloc | apply Kd.R_drewN | apply Kd.R_drew)); exact (Kd.R_mono (Kd.R_far (p := ⟨gb1592, 6, none⟩) (Kd.R_far (p := ⟨gb1592, 5, none⟩) (Kd.R_far (p := ⟨gb1592, 4, none⟩) (Kd.R_types HO1597.out BK1592.out (by decide)) (fun _ hk => hk.2) (.int .i64 t1593)) (fun _ hk => hk.2) (.int .i64 t1594)) (fun _ hk => hk.2) (.slice Ao16 t1595.length co16)) (fun _ h_ => h_.1))))) (below_size (by repeat (first | (with_reducible first | exact HB.out | apply below_alloc | apply pw_below_drewN | apply below_drew1 | refine below_set ?_ GE1590.out | refine below_set ?_ GE1591.out | refine below_set ?_ GE1592.out) | exact HB.out)))); have n2_ := Aside0.mk (Kd.R_lower ho1 (below_size (by repeat (first | (with_reducible first | exact HB.out | apply below_alloc | apply pw_below_drewN | apply below_drew1 | refine below_set ?_ GE1590.out | refine below_set ?_ GE1591.out | refine below_set ?_ GE1592.out) | exact HB.out)))); have n3_ := Aside0.mk (blk_below (g := gb1590) (o := .cells #[.int .i64 a0_0, .int .i64 a0_1, .int .i64 a0_2, .string a0_3, .int .i64 a0_4, .int .i64 a0_5, .slice A0_6 l0_6.length c0_6, .int .i64 a0_7, .slice A0_8 l0_8.length c0_8, .slice A0_9 l0_9.length c0_9, .slice A0_10 l0_10.length c0_10, .bool a0_11, .slice A0_12 l0_12.length c0_12, .string a0_13] 109 (0, 0)) (by (with_reducible repeat (first | refine blk_drewN ?_ _ | refine blk_drew ?_ | refine blk_alloc ?_ _)); refine blk_far ?_ NB1590_1592.out _; (with_reducible repeat (first | refine blk_drewN ?_ _ | refine blk_drew ?_ | refine blk_alloc ?_ _)); refine blk_far ?_ NB1590_1592.out _; (with_reducible repeat (first | refine blk_drewN ?_ _ | refine blk_drew ?_ | refine blk_alloc ?_ _)); refine blk_far ?_ NB1590_1592.out _; (with_reducible repeat (first | refine blk_drewN ?_ _ | refine blk_drew ?_ | refine blk_alloc ?_ _)); exact BK1590.out) hb); have n4_ := Aside0.mk (blk_below (g := gb1591) (o := .cells #[.int .i64 0, .int .i64 0, .int .i64 0, .string (⟨#[]⟩ : ByteArray), .int .i64 0, .int .i64 0, .slice none 0 0, .int .i64 0, .slice none 0 0, .slice none 0 0, .slice none 0 0, .bool false, .slice none 0 0, .string (⟨#[]⟩ : ByteArray)] 113 (0, 0)) (by (with_reducible repeat (first | refine blk_drewN ?_ _ | refine blk_drew ?_ | refine blk_alloc ?_ _)); refine blk_far ?_ NB1591_1592.out _; (with_reducible repeat (first | refine blk_drewN ?_ _ | refine blk_drew ?_ | refine blk_alloc ?_ _)); refine blk_far ?_ NB1591_1592.out _; (with_reducible repeat (first | refine blk_drewN ?_ _ | refine blk_drew ?_ | refine blk_alloc ?_ _)); refine blk_far ?_ NB1591_1592.out _; (with_reducible repeat (first | refine blk_drewN ?_ _ | refine blk_drew ?_ | refine blk_alloc ?_ _)); exact BK1591.out) hb); have n5_ := Aside0.mk (blk_below (g := gb1592) (o := .cells #[.int .i64 a0_0, .int .i64 a0_1, .int .i64 a0_2, .string a0_3, .int .i64 t1593, .int .i64 t1594, .slice Ao16 t1595.length co16, .int .i64 0, .slice none 0 0, .slice none 0 0, .slice none 0 0, .bool false, .slice none 0 0, .string (⟨#[]⟩ : ByteArray)] 113 (0, 0)) (by (with_reducible repeat (first | refine blk_drewN ?_ _ | refine blk_drew ?_ | refine blk_alloc ?_ _)); refine blk_put (cs := #[.int .i64 a0_0, .int .i64 a0_1, .int .i64 a0_2, .string a0_3, .int .i64 t1593, .int .i64 t1594, .slice none 0 0, .int .i64 0, .slice none 0 0, .slice none 0 0, .slice none 0 0, .bool false, .slice none 0 0, .string (⟨#[]⟩ : ByteArray)]) ?_ 6 _ rfl; (with_reducible repeat (first | refine blk_drewN ?_ _ | refine blk_drew ?_ | refine blk_alloc ?_ _)); refine blk_put (cs := #[.int .i64 a0_0, .int .i64 a0_1, .int .i64 a0_2, .string a0_3, .int .i64 t1593, .int .i64 0, .slice none 0 0, .int .i64 0, .slice none 0 0, .slice none 0 0, .slice none 0 0, .bool false, .slice none 0 0, .string (⟨#[]⟩ : ByteArray)]) ?_ 5 _ rfl; (with_reducible repeat (first | refine blk_drewN ?_ _ | refine blk_drew ?_ | refine blk_alloc ?_ _)); refine blk_put (cs := #[.int .i64 a0_0, .int .i64 a0_1, .int .i64 a0_2, .string a0_3, .int .i64 0, .int .i64 0, .slice none 0 0, .int .i64 0, .slice none 0 0, .slice none 0 0, .slice none 0 0, .bool false, .slice none 0 0, .string (⟨#[]⟩ : ByteArray)]) ?_ 4 _ rfl; (with_reducible repeat (first | refine blk_drewN ?_ _ | refine blk_drew ?_ | refine blk_alloc ?_ _)); exact BK1592.out) hb); have n6_ := Aside0.mk (below_step (by repeat (first | (with_reducible first | exact HB.out | apply below_alloc | apply pw_below_drewN | apply below_drew1 | refine below_set ?_ GE1590.out | refine below_set ?_ GE1591.out | refine below_set ?_ GE1592.out) | exact HB.out)) hb); clear HO1597; clear BK1590; clear BK1591; clear BK1592; clear HB; have HO1597 := n0_; have HO1601 := n1_; have HO1604 := n2_; have BK1590 := n3_; have BK1591 := n4_; have BK1592 := n5_; have HB := n6_; clear n0_ n1_ n2_ n3_ n4_ n5_ n6_; (try clear hb); (try clear hb2); (try clear hk); (try clear hi); (try clear ho0); (try clear ho1); obtain ⟨hcz19_0, hcz19_1, hcz19_2, hcz19_3, hcz19_4, hcz19_5, hcz19_6, hcz19_7, hcz19_8, hcz19_9, hcz19_10, hcz19_11, hcz19_12, hcz19_13⟩ := cells14 BK1592.out; obtain ⟨hfz19_0, hfz19_1, hfz19_2, hfz19_3, hfz19_4, hfz19_5, hfz19_6, hfz19_7, hfz19_8, hfz19_9, hfz19_10, hfz19_11, hfz19_12, hfz19_13⟩ := frozens14 BK1592.out; obtain ⟨Ao20, co20, eo20⟩ := Kd.R_slice HO1601.out; subst eo20; obtain ⟨Ao21, co21, eo21⟩ := Kd.R_slice HO1604.out; subst eo21; obtain ⟨hcz22_0, hcz22_1, hcz22_2, hcz22_3, hcz22_4, hcz22_5, hcz22_6, hcz22_7, hcz22_8, hcz22_9, hcz22_10, hcz22_11, hcz22_12, hcz22_13⟩ := cells14 BK1590.out; obtain ⟨hfz22_0, hfz22_1, hfz22_2, hfz22_3, hfz22_4, hfz22_5, hfz22_6, hfz22_7, hfz22_8, hfz22_9, hfz22_10, hfz22_11, hfz22_12, hfz22_13⟩ := frozens14 BK1590.out) | ((with_reducible refine gate_callee (f := 85) rfl ?_); refine goesL_ (some 26) rfl rfl Try.func85 (by kernel_rfl) rfl #[.slice A0_10 l0_10.length c0_10] rfl (by (try simp only [List.map_toArray, List.map_cons, List.map_nil]); first | done | rfl | (simp only [List.length_drop, List.length_take]; rfl)) ?_; (with_reducible refine (laws_toTxS.calls k _ _ l0_10 t1605 _ ?side1 ?side2 A4.out).mono ?_); (case side1 => exact Kd.C_below HR0_10.out (by repeat (first | (with_reducible first | exact HB.out | apply below_alloc | apply pw_below_drewN | apply below_drew1 | refine below_set ?_ GE1590.out | refine below_set ?_ GE1591.out | refine below_set ?_ GE1592.out) | exact HB.out))); (case side2 => exact HC0_10.out); rintro e w23 ⟨v1606, rfl, ho0, hb⟩; refine ⟨_, rfl, ?_⟩; have n0_ := Aside0.mk (Kd.R_below (by (with_reducible repeat (first | apply Kd.R_alloc | apply Kd.R_drewN | apply Kd.R_drew)); exact (Kd.R_mono (Kd.R_far (p := ⟨gb1592, 9, none⟩) (Kd.R_far (p := ⟨gb1592, 8, none⟩) (Kd.R_far (p := ⟨gb1592, 7, none⟩) (Kd.R_types HO1597.out BK1592.out (by decide)) (fun _ hk => hk.2) (.int .i64 t1598)) (fun _ hk => hk.2) (.slice Ao20 t1599.length co20)) (fun _ hk => hk.2) (.slice Ao21 t1602.length co21)) (fun _ h_ => h_.1))) hb); have n1_ := Aside0.mk (Kd.R_below (by (with_reducible repeat (first | apply Kd.R_alloc | apply Kd.R_drewN | apply Kd.R_drew)); exact (Kd.R_mono (Kd.R_far (p := ⟨gb1592, 9, none⟩) (Kd.R_far (p := ⟨gb1592, 8, none⟩) (Kd.R_far (p := ⟨gb1592, 7, none⟩) (Kd.R_types HO1601.out BK1592.out (by decide)) (fun _ hk => hk.2) (.int .i64 t1598)) (fun _ hk => hk.2) (.slice Ao20 t1599.length co20)) (fun _ hk => hk.2) (.slice Ao21 t1602.length co21)) (fun _ h_ => h_.1))) hb); have n2_ := Aside0.mk (Kd.R_below (by (with_reducible repeat (first | apply Kd.R_alloc | apply Kd.R_drewN | apply Kd.R_drew)); exact (Kd.R_mono (Kd.R_far (p := ⟨gb1592, 9, none⟩) (Kd.R_far (p := ⟨gb1592, 8, none⟩) (Kd.R_far (p := ⟨gb1592, 7, none⟩) (Kd.R_types HO1604.out BK1592.out (by decide)) (fun _ hk => hk.2) (.int .i64 t1598)) (fun _ hk => hk.2) (.slice Ao20 t1599.length co20)) (fun _ hk => hk.2) (.slice Ao21 t1602.length co21)) (fun _ h_ => h_.1))) hb); have n3_ := Aside0.mk (Kd.R_lower ho0 (below_size (by repeat (first | (with_reducible first | exact HB.out | apply below_alloc | apply pw_below_drewN | apply below_drew1 | refine below_set ?_ GE1590.out | refine below_set ?_ GE1591.out | refine below_set ?_ GE1592.out) | exact HB.out)))); have n4_ := Aside0.mk (blk_below (g := gb1590) (o := .cells #[.int .i64 a0_0, .int .i64 a0_1, .int .i64 a0_2, .string a0_3, .int .i64 a0_4, .int .i64 a0_5, .slice A0_6 l0_6.length c0_6, .int .i64 a0_7, .slice A0_8 l0_8.length c0_8, .slice A0_9 l0_9.length c0_9, .slice A0_10 l0_10.length c0_10, .bool a0_11, .slice A0_12 l0_12.length c0_12, .string a0_13] 109 (0, 0)) (by (with_reducible repeat (first | refine blk_drewN ?_ _ | refine blk_drew ?_ | refine blk_alloc ?_ _)); refine blk_far ?_ NB1590_1592.out _; (with_reducible repeat (first | refine blk_drewN ?_ _ | refine blk_drew ?_ | refine blk_alloc ?_ _)); refine blk_far ?_ NB1590_1592.out _; (with_reducible repeat (first | refine blk_drewN ?_ _ | refine blk_drew ?_ | refine blk_alloc ?_ _)); refine blk_far ?_ NB1590_1592.out _; (with_reducible repeat (first | refine blk_drewN ?_ _ | refine blk_drew ?_ | refine blk_alloc ?_ _)); exact BK1590.out) hb); have n5_ := Aside0.mk (blk_below (g := gb1591) (o := .cells #[.int .i64 0, .int .i64 0, .int .i64 0, .string (⟨#[]⟩ : ByteArray), .int .i64 0, .int .i64 0, .slice none 0 0, .int .i64 0, .slice none 0 0, .slice none 0 0, .slice none 0 0, .bool false, .slice none 0 0, .string (⟨#[]⟩ : ByteArray)] 113 (0, 0)) (by (with_reducible repeat (first | refine blk_drewN ?_ _ | refine blk_drew ?_ | refine blk_alloc ?_ _)); refine blk_far ?_ NB1591_1592.out _; (with_reducible repeat (first | refine blk_drewN ?_ _ | refine blk_drew ?_ | refine blk_alloc ?_ _)); refine blk_far ?_ NB1591_1592.out _; (with_reducible repeat (first | refine blk_drewN ?_ _ | refine blk_drew ?_ | refine blk_alloc ?_ _)); refine blk_far ?_ NB1591_1592.out _; (with_reducible repeat (first | refine blk_drewN ?_ _ | refine blk_drew ?_ | refine blk_alloc ?_ _)); exact BK1591.out) hb); have n6_ := Aside0.mk (blk_below (g := gb1592) (o := .cells #[.int .i64 a0_0, .int .i64 a0_1, .int .i64 a0_2, .string a0_3, .int .i64 t1593, .int .i64 t1594, .slice Ao16 t1595.length co16, .int .i64 t1598, .slice Ao20 t1599.length co20, .slice Ao21 t1602.length co21, .slice none 0 0, .bool false, .slice none 0 0, .string (⟨#[]⟩ : ByteArray)] 113 (0, 0)) (by (with_reducible repeat (first | refine blk_drewN ?_ _ | refine blk_drew ?_ | refine blk_alloc ?_ _)); refine blk_put (cs := #[.int .i64 a0_0, .int .i64 a0_1, .int .i64 a0_2, .string a0_3, .int .i64 t1593, .int .i64 t1594, .slice Ao16 t1595.length co16, .int .i64 t1598, .slice Ao20 t1599.length co20, .slice none 0 0, .slice none 0 0, .bool false, .slice none 0 0, .string (⟨#[]⟩ : ByteArray)]) ?_ 9 _ rfl; (with_reducible repeat (first | refine blk_drewN ?_ _ | refine blk_drew ?_ | refine blk_alloc ?_ _)); refine blk_put (cs := #[.int .i64 a0_0, .int .i64 a0_1, .int .i64 a0_2, .string a0_3, .int .i64 t1593, .int .i64 t1594, .slice Ao16 t1595.length co16, .int .i64 t1598, .slice none 0 0, .slice none 0 0, .slice none 0 0, .bool false, .slice none 0 0, .string (⟨#[]⟩ : ByteArray)]) ?_ 8 _ rfl; (with_reducible repeat (first | refine blk_drewN ?_ _ | refine blk_drew ?_ | refine blk_alloc ?_ _)); refine blk_put (cs := #[.int .i64 a0_0, .int .i64 a0_1, .int .i64 a0_2, .string a0_3, .int .i64 t1593, .int .i64 t1594, .slice Ao16 t1595.length co16, .int .i64 0, .slice none 0 0, .slice none 0 0, .slice none 0 0, .bool false, .slice none 0 0, .string (⟨#[]⟩ : ByteArray)]) ?_ 7 _ rfl; (with_reducible repeat (first | refine blk_drewN ?_ _ | refine blk_drew ?_ | refine blk_alloc ?_ _)); exact BK1592.out) hb); have n7_ := Aside0.mk (below_step (by repeat (first | (with_reducible first | exact HB.out | apply below_alloc | apply pw_below_drewN | apply below_drew1 | refine below_set ?_ GE1590.out | refine below_set ?_ GE1591.out | refine below_set ?_ GE1592.out) | exact HB.out)) hb); clear HO1597; clear HO1601; clear HO1604; clear BK1590; clear BK1591; clear BK1592; clear HB; have HO1597 := n0_; have HO1601 := n1_; have HO1604 := n2_; have HO1607 := n3_; have BK1590 := n4_; have BK1591 := n5_; have BK1592 := n6_; have HB := n7_; clear n0_ n1_ n2_ n3_ n4_ n5_ n6_ n7_; (try clear hb); (try clear hb2); (try clear hk); (try clear hi); (try clear ho0); obtain ⟨Ao24, co24, eo24⟩ := Kd.R_slice HO1607.out; subst eo24; obtain ⟨hcz25_0, hcz25_1, hcz25_2, hcz25_3, hcz25_4, hcz25_5, hcz25_6, hcz25_7, hcz25_8, hcz25_9, hcz25_10, hcz25_11, hcz25_12, hcz25_13⟩ := cells14 BK1592.out; obtain ⟨hfz25_0, hfz25_1, hfz25_2, hfz25_3, hfz25_4, hfz25_5, hfz25_6, hfz25_7, hfz25_8, hfz25_9, hfz25_10, hfz25_11, hfz25_12, hfz25_13⟩ := frozens14 BK1592.out; obtain ⟨hcz26_0, hcz26_1, hcz26_2, hcz26_3, hcz26_4, hcz26_5, hcz26_6, hcz26_7, hcz26_8, hcz26_9, hcz26_10, hcz26_11, hcz26_12, hcz26_13⟩ := cells14 BK1590.out; obtain ⟨hfz26_0, hfz26_1, hfz26_2, hfz26_3, hfz26_4, hfz26_5, hfz26_6, hfz26_7, hfz26_8, hfz26_9, hfz26_10, hfz26_11, hfz26_12, hfz26_13⟩ := frozens14 BK1590.out) | ((with_reducible refine gate_callee (f := 48) rfl ?_); refine goesL_ (some 33) rfl rfl Try.func48 (by kernel_rfl) rfl #[.slice A0_12 l0_12.length c0_12] rfl (by (try simp only [List.map_toArray, List.map_cons, List.map_nil]); first | done | rfl | (simp only [List.length_drop, List.length_take]; rfl)) ?_; (with_reducible refine (laws_toValS.calls k _ _ l0_12 t1608 _ ?side1 ?side2 A5.out).mono ?_); (case side1 => exact Kd.C_below HR0_12.out (by repeat (first | (with_reducible first | exact HB.out | apply below_alloc | apply pw_below_drewN | apply below_drew1 | refine below_set ?_ GE1590.out | refine below_set ?_ GE1591.out | refine below_set ?_ GE1592.out) | exact HB.out))); (case side2 => exact HC0_12.out); rintro e w27 ⟨v1609, rfl, ho0, hb⟩; refine ⟨_, rfl, ?_⟩; have n0_ := Aside0.mk (Kd.R_below (by (with_reducible repeat (first | apply Kd.R_alloc | apply Kd.R_drewN | apply Kd.R_drew)); exact (Kd.R_mono (Kd.R_far (p := ⟨gb1592, 11, none⟩) (Kd.R_far (p := ⟨gb1592, 10, none⟩) (Kd.R_types HO1597.out BK1592.out (by decide)) (fun _ hk => hk.2) (.slice Ao24 t1605.length co24)) (fun _ hk => hk.2) (.bool a0_11)) (fun _ h_ => h_.1))) hb); have n1_ := Aside0.mk (Kd.R_below (by (with_reducible repeat (first | apply Kd.R_alloc | apply Kd.R_drewN | apply Kd.R_drew)); exact (Kd.R_mono (Kd.R_far (p := ⟨gb1592, 11, none⟩) (Kd.R_far (p := ⟨gb1592, 10, none⟩) (Kd.R_types HO1601.out BK1592.out (by decide)) (fun _ hk => hk.2) (.slice Ao24 t1605.length co24)) (fun _ hk => hk.2) (.bool a0_11)) (fun _ h_ => h_.1))) hb); have n2_ := Aside0.mk (Kd.R_below (by (with_reducible repeat (first | apply Kd.R_alloc | apply Kd.R_drewN | apply Kd.R_drew)); exact (Kd.R_mono (Kd.R_far (p := ⟨gb1592, 11, none⟩) (Kd.R_far (p := ⟨gb1592, 10, none⟩) (Kd.R_types HO1604.out BK1592.out (by decide)) (fun _ hk => hk.2) (.slice Ao24 t1605.length co24)) (fun _ hk => hk.2) (.bool a0_11)) (fun _ h_ => h_.1))) hb); have n3_ := Aside0.mk (Kd.R_below (by (with_reducible repeat (first | apply Kd.R_alloc | apply Kd.R_drewN | apply Kd.R_drew)); exact (Kd.R_mono (Kd.R_far (p := ⟨gb1592, 11, none⟩) (Kd.R_far (p := ⟨gb1592, 10, none⟩) (Kd.R_types HO1607.out BK1592.out (by decide)) (fun _ hk => hk.2) (.slice Ao24 t1605.length co24)) (fun _ hk => hk.2) (.bool a0_11)) (fun _ h_ => h_.1))) hb); have n4_ := Aside0.mk (Kd.R_lower ho0 (below_size (by repeat (first | (with_reducible first | exact HB.out | apply below_alloc | apply pw_below_drewN | apply below_drew1 | refine below_set ?_ GE1590.out | refine below_set ?_ GE1591.out | refine below_set ?_ GE1592.out) | exact HB.out)))); have n5_ := Aside0.mk (blk_below (g := gb1590) (o := .cells #[.int .i64 a0_0, .int .i64 a0_1, .int .i64 a0_2, .string a0_3, .int .i64 a0_4, .int .i64 a0_5, .slice A0_6 l0_6.length c0_6, .int .i64 a0_7, .slice A0_8 l0_8.length c0_8, .slice A0_9 l0_9.length c0_9, .slice A0_10 l0_10.length c0_10, .bool a0_11, .slice A0_12 l0_12.length c0_12, .string a0_13] 109 (0, 0)) (by (with_reducible repeat (first | refine blk_drewN ?_ _ | refine blk_drew ?_ | refine blk_alloc ?_ _)); refine blk_far ?_ NB1590_1592.out _; (with_reducible repeat (first | refine blk_drewN ?_ _ | refine blk_drew ?_ | refine blk_alloc ?_ _)); refine blk_far ?_ NB1590_1592.out _; (with_reducible repeat (first | refine blk_drewN ?_ _ | refine blk_drew ?_ | refine blk_alloc ?_ _)); exact BK1590.out) hb); have n6_ := Aside0.mk (blk_below (g := gb1591) (o := .cells #[.int .i64 0, .int .i64 0, .int .i64 0, .string (⟨#[]⟩ : ByteArray), .int .i64 0, .int .i64 0, .slice none 0 0, .int .i64 0, .slice none 0 0, .slice none 0 0, .slice none 0 0, .bool false, .slice none 0 0, .string (⟨#[]⟩ : ByteArray)] 113 (0, 0)) (by (with_reducible repeat (first | refine blk_drewN ?_ _ | refine blk_drew ?_ | refine blk_alloc ?_ _)); refine blk_far ?_ NB1591_1592.out _; (with_reducible repeat (first | refine blk_drewN ?_ _ | refine blk_drew ?_ | refine blk_alloc ?_ _)); refine blk_far ?_ NB1591_1592.out _; (with_reducible repeat (first | refine blk_drewN ?_ _ | refine blk_drew ?_ | refine blk_alloc ?_ _)); exact BK1591.out) hb); have n7_ := Aside0.mk (blk_below (g := gb1592) (o := .cells #[.int .i64 a0_0, .int .i64 a0_1, .int .i64 a0_2, .string a0_3, .int .i64 t1593, .int .i64 t1594, .slice Ao16 t1595.length co16, .int .i64 t1598, .slice Ao20 t1599.length co20, .slice Ao21 t1602.length co21, .slice Ao24 t1605.length co24, .bool a0_11, .slice none 0 0, .string (⟨#[]⟩ : ByteArray)] 113 (0, 0)) (by (with_reducible repeat (first | refine blk_drewN ?_ _ | refine blk_drew ?_ | refine blk_alloc ?_ _)); refine blk_put (cs := #[.int .i64 a0_0, .int .i64 a0_1, .int .i64 a0_2, .string a0_3, .int .i64 t1593, .int .i64 t1594, .slice Ao16 t1595.length co16, .int .i64 t1598, .slice Ao20 t1599.length co20, .slice Ao21 t1602.length co21, .slice Ao24 t1605.length co24, .bool false, .slice none 0 0, .string (⟨#[]⟩ : ByteArray)]) ?_ 11 _ rfl; (with_reducible repeat (first | refine blk_drewN ?_ _ | refine blk_drew ?_ | refine blk_alloc ?_ _)); refine blk_put (cs := #[.int .i64 a0_0, .int .i64 a0_1, .int .i64 a0_2, .string a0_3, .int .i64 t1593, .int .i64 t1594, .slice Ao16 t1595.length co16, .int .i64 t1598, .slice Ao20 t1599.length co20, .slice Ao21 t1602.length co21, .slice none 0 0, .bool false, .slice none 0 0, .string (⟨#[]⟩ : ByteArray)]) ?_ 10 _ rfl; (with_reducible repeat (first | refine blk_drewN ?_ _ | refine blk_drew ?_ | refine blk_alloc ?_ _)); exact BK1592.out) hb); have n8_ := Aside0.mk (below_step (by repeat (first | (with_reducible first | exact HB.out | apply below_alloc | apply pw_below_drewN | apply below_drew1 | refine below_set ?_ GE1590.out | refine below_set ?_ GE1591.out | refine below_set ?_ GE1592.out) | exact HB.out)) hb); clear HO1597; clear HO1601; clear HO1604; clear HO1607; clear BK1590; clear BK1591; clear BK1592; clear HB; have HO1597 := n0_; have HO1601 := n1_; have HO1604 := n2_; have HO1607 := n3_; have HO1610 := n4_; have BK1590 := n5_; have BK1591 := n6_; have BK1592 := n7_; have HB := n8_; clear n0_ n1_ n2_ n3_ n4_ n5_ n6_ n7_ n8_; (try clear hb); (try clear hb2); (try clear hk); (try clear hi); (try clear ho0); obtain ⟨Ao28, co28, eo28⟩ := Kd.R_slice HO1610.out; subst eo28; obtain ⟨hcz29_0, hcz29_1, hcz29_2, hcz29_3, hcz29_4, hcz29_5, hcz29_6, hcz29_7, hcz29_8, hcz29_9, hcz29_10, hcz29_11, hcz29_12, hcz29_13⟩ := cells14 BK1592.out; obtain ⟨hfz29_0, hfz29_1, hfz29_2, hfz29_3, hfz29_4, hfz29_5, hfz29_6, hfz29_7, hfz29_8, hfz29_9, hfz29_10, hfz29_11, hfz29_12, hfz29_13⟩ := frozens14 BK1592.out; obtain ⟨hcz30_0, hcz30_1, hcz30_2, hcz30_3, hcz30_4, hcz30_5, hcz30_6, hcz30_7, hcz30_8, hcz30_9, hcz30_10, hcz30_11, hcz30_12, hcz30_13⟩ := cells14 BK1590.out; obtain ⟨hfz30_0, hfz30_1, hfz30_2, hfz30_3, hfz30_4, hfz30_5, hfz30_6, hfz30_7, hfz30_8, hfz30_9, hfz30_10, hfz30_11, hfz30_12, hfz30_13⟩ := frozens14 BK1590.out; obtain ⟨hcz31_0, hcz31_1, hcz31_2, hcz31_3, hcz31_4, hcz31_5, hcz31_6, hcz31_7, hcz31_8, hcz31_9, hcz31_10, hcz31_11, hcz31_12, hcz31_13⟩ := cells14 BK1591.out; obtain ⟨hfz31_0, hfz31_1, hfz31_2, hfz31_3, hfz31_4, hfz31_5, hfz31_6, hfz31_7, hfz31_8, hfz31_9, hfz31_10, hfz31_11, hfz31_12, hfz31_13⟩ := frozens14 BK1591.out))
  refine bodyPost_ret (results_cell_row rfl _ _ gb1591 113 #[.int .i64 a0_0, .int .i64 a0_1, .int .i64 a0_2, .string a0_3, .int .i64 t1593, .int .i64 t1594, .slice Ao16 t1595.length co16, .int .i64 t1598, .slice Ao20 t1599.length co20, .slice Ao21 t1602.length co21, .slice Ao24 t1605.length co24, .bool a0_11, .slice Ao28 t1608.length co28, .string a0_13] (0, 0) _ rfl (by (with_reducible repeat (first | refine blk_drewN ?_ _ | refine blk_drew ?_ | refine blk_alloc ?_ _)); refine blk_put (cs := #[.int .i64 a0_0, .int .i64 a0_1, .int .i64 a0_2, .string a0_3, .int .i64 t1593, .int .i64 t1594, .slice Ao16 t1595.length co16, .int .i64 t1598, .slice Ao20 t1599.length co20, .slice Ao21 t1602.length co21, .slice Ao24 t1605.length co24, .bool a0_11, .slice Ao28 t1608.length co28, .string (⟨#[]⟩ : ByteArray)]) ?_ 13 _ rfl; (with_reducible repeat (first | refine blk_drewN ?_ _ | refine blk_drew ?_ | refine blk_alloc ?_ _)); refine blk_put (cs := #[.int .i64 a0_0, .int .i64 a0_1, .int .i64 a0_2, .string a0_3, .int .i64 t1593, .int .i64 t1594, .slice Ao16 t1595.length co16, .int .i64 t1598, .slice Ao20 t1599.length co20, .slice Ao21 t1602.length co21, .slice Ao24 t1605.length co24, .bool a0_11, .slice none 0 0, .string (⟨#[]⟩ : ByteArray)]) ?_ 12 _ rfl; (with_reducible repeat (first | refine blk_drewN ?_ _ | refine blk_drew ?_ | refine blk_alloc ?_ _)); refine blk_put (cs := #[.int .i64 a0_0, .int .i64 a0_1, .int .i64 a0_2, .string a0_3, .int .i64 t1593, .int .i64 t1594, .slice Ao16 t1595.length co16, .int .i64 t1598, .slice Ao20 t1599.length co20, .slice Ao21 t1602.length co21, .slice Ao24 t1605.length co24, .bool false, .slice none 0 0, .string (⟨#[]⟩ : ByteArray)]) ?_ 11 _ rfl; (with_reducible repeat (first | refine blk_drewN ?_ _ | refine blk_drew ?_ | refine blk_alloc ?_ _)); refine blk_put (cs := #[.int .i64 a0_0, .int .i64 a0_1, .int .i64 a0_2, .string a0_3, .int .i64 t1593, .int .i64 t1594, .slice Ao16 t1595.length co16, .int .i64 t1598, .slice Ao20 t1599.length co20, .slice Ao21 t1602.length co21, .slice none 0 0, .bool false, .slice none 0 0, .string (⟨#[]⟩ : ByteArray)]) ?_ 10 _ rfl; (with_reducible repeat (first | refine blk_drewN ?_ _ | refine blk_drew ?_ | refine blk_alloc ?_ _)); refine blk_put (cs := #[.int .i64 a0_0, .int .i64 a0_1, .int .i64 a0_2, .string a0_3, .int .i64 t1593, .int .i64 t1594, .slice Ao16 t1595.length co16, .int .i64 t1598, .slice Ao20 t1599.length co20, .slice none 0 0, .slice none 0 0, .bool false, .slice none 0 0, .string (⟨#[]⟩ : ByteArray)]) ?_ 9 _ rfl; (with_reducible repeat (first | refine blk_drewN ?_ _ | refine blk_drew ?_ | refine blk_alloc ?_ _)); refine blk_put (cs := #[.int .i64 a0_0, .int .i64 a0_1, .int .i64 a0_2, .string a0_3, .int .i64 t1593, .int .i64 t1594, .slice Ao16 t1595.length co16, .int .i64 t1598, .slice none 0 0, .slice none 0 0, .slice none 0 0, .bool false, .slice none 0 0, .string (⟨#[]⟩ : ByteArray)]) ?_ 8 _ rfl; (with_reducible repeat (first | refine blk_drewN ?_ _ | refine blk_drew ?_ | refine blk_alloc ?_ _)); refine blk_put (cs := #[.int .i64 a0_0, .int .i64 a0_1, .int .i64 a0_2, .string a0_3, .int .i64 t1593, .int .i64 t1594, .slice Ao16 t1595.length co16, .int .i64 0, .slice none 0 0, .slice none 0 0, .slice none 0 0, .bool false, .slice none 0 0, .string (⟨#[]⟩ : ByteArray)]) ?_ 7 _ rfl; (with_reducible repeat (first | refine blk_drewN ?_ _ | refine blk_drew ?_ | refine blk_alloc ?_ _)); refine blk_put (cs := #[.int .i64 a0_0, .int .i64 a0_1, .int .i64 a0_2, .string a0_3, .int .i64 t1593, .int .i64 t1594, .slice none 0 0, .int .i64 0, .slice none 0 0, .slice none 0 0, .slice none 0 0, .bool false, .slice none 0 0, .string (⟨#[]⟩ : ByteArray)]) ?_ 6 _ rfl; (with_reducible repeat (first | refine blk_drewN ?_ _ | refine blk_drew ?_ | refine blk_alloc ?_ _)); refine blk_put (cs := #[.int .i64 a0_0, .int .i64 a0_1, .int .i64 a0_2, .string a0_3, .int .i64 t1593, .int .i64 0, .slice none 0 0, .int .i64 0, .slice none 0 0, .slice none 0 0, .slice none 0 0, .bool false, .slice none 0 0, .string (⟨#[]⟩ : ByteArray)]) ?_ 5 _ rfl; (with_reducible repeat (first | refine blk_drewN ?_ _ | refine blk_drew ?_ | refine blk_alloc ?_ _)); refine blk_put (cs := #[.int .i64 a0_0, .int .i64 a0_1, .int .i64 a0_2, .string a0_3, .int .i64 0, .int .i64 0, .slice none 0 0, .int .i64 0, .slice none 0 0, .slice none 0 0, .slice none 0 0, .bool false, .slice none 0 0, .string (⟨#[]⟩ : ByteArray)]) ?_ 4 _ rfl; (with_reducible repeat (first | refine blk_drewN ?_ _ | refine blk_drew ?_ | refine blk_alloc ?_ _)); refine blk_put (cs := #[.int .i64 a0_0, .int .i64 a0_1, .int .i64 a0_2, .string (⟨#[]⟩ : ByteArray), .int .i64 0, .int .i64 0, .slice none 0 0, .int .i64 0, .slice none 0 0, .slice none 0 0, .slice none 0 0, .bool false, .slice none 0 0, .string (⟨#[]⟩ : ByteArray)]) ?_ 3 _ rfl; (with_reducible repeat (first | refine blk_drewN ?_ _ | refine blk_drew ?_ | refine blk_alloc ?_ _)); refine blk_put (cs := #[.int .i64 a0_0, .int .i64 a0_1, .int .i64 0, .string (⟨#[]⟩ : ByteArray), .int .i64 0, .int .i64 0, .slice none 0 0, .int .i64 0, .slice none 0 0, .slice none 0 0, .slice none 0 0, .bool false, .slice none 0 0, .string (⟨#[]⟩ : ByteArray)]) ?_ 2 _ rfl; (with_reducible repeat (first | refine blk_drewN ?_ _ | refine blk_drew ?_ | refine blk_alloc ?_ _)); refine blk_put (cs := #[.int .i64 a0_0, .int .i64 0, .int .i64 0, .string (⟨#[]⟩ : ByteArray), .int .i64 0, .int .i64 0, .slice none 0 0, .int .i64 0, .slice none 0 0, .slice none 0 0, .slice none 0 0, .bool false, .slice none 0 0, .string (⟨#[]⟩ : ByteArray)]) ?_ 1 _ rfl; (with_reducible repeat (first | refine blk_drewN ?_ _ | refine blk_drew ?_ | refine blk_alloc ?_ _)); refine blk_put (cs := #[.int .i64 0, .int .i64 0, .int .i64 0, .string (⟨#[]⟩ : ByteArray), .int .i64 0, .int .i64 0, .slice none 0 0, .int .i64 0, .slice none 0 0, .slice none 0 0, .slice none 0 0, .bool false, .slice none 0 0, .string (⟨#[]⟩ : ByteArray)]) ?_ 0 _ rfl; (with_reducible repeat (first | refine blk_drewN ?_ _ | refine blk_drew ?_ | refine blk_alloc ?_ _)); refine blk_far ?_ NB1591_1592.out _; (with_reducible repeat (first | refine blk_drewN ?_ _ | refine blk_drew ?_ | refine blk_alloc ?_ _)); refine blk_far ?_ NB1591_1592.out _; (with_reducible repeat (first | refine blk_drewN ?_ _ | refine blk_drew ?_ | refine blk_alloc ?_ _)); exact BK1591.out) Try.underlying113 rfl (by kernel_rfl)) rfl ?_
  exact ⟨_, _, _, _, _, by first | rfl | (simp [errW_none, errW_some] <;> rfl) | (simp [*, errW_none, errW_some] <;> rfl), by (with_reducible repeat (first | apply Kd.R_alloc | apply Kd.R_drewN | apply Kd.R_drew)); exact Kd.R_mono (Kd.R_far (p := ⟨gb1591, 13, none⟩) (Kd.R_far (p := ⟨gb1591, 12, none⟩) (Kd.R_far (p := ⟨gb1591, 11, none⟩) (Kd.R_far (p := ⟨gb1591, 10, none⟩) (Kd.R_far (p := ⟨gb1591, 9, none⟩) (Kd.R_far (p := ⟨gb1591, 8, none⟩) (Kd.R_far (p := ⟨gb1591, 7, none⟩) (Kd.R_far (p := ⟨gb1591, 6, none⟩) (Kd.R_far (p := ⟨gb1591, 5, none⟩) (Kd.R_far (p := ⟨gb1591, 4, none⟩) (Kd.R_far (p := ⟨gb1591, 3, none⟩) (Kd.R_far (p := ⟨gb1591, 2, none⟩) (Kd.R_far (p := ⟨gb1591, 1, none⟩) (Kd.R_far (p := ⟨gb1591, 0, none⟩) (Kd.R_far (p := ⟨gb1592, 13, none⟩) (Kd.R_far (p := ⟨gb1592, 12, none⟩) (Kd.R_types (Kd.R_types HO1597.out BK1592.out (by decide)) BK1591.out (by decide)) (fun _ hk => hk.1.2) (.slice Ao28 t1608.length co28)) (fun _ hk => hk.1.2) (.string a0_13)) (fun _ hk => hk.2) (.int .i64 a0_0)) (fun _ hk => hk.2) (.int .i64 a0_1)) (fun _ hk => hk.2) (.int .i64 a0_2)) (fun _ hk => hk.2) (.string a0_3)) (fun _ hk => hk.2) (.int .i64 t1593)) (fun _ hk => hk.2) (.int .i64 t1594)) (fun _ hk => hk.2) (.slice Ao16 t1595.length co16)) (fun _ hk => hk.2) (.int .i64 t1598)) (fun _ hk => hk.2) (.slice Ao20 t1599.length co20)) (fun _ hk => hk.2) (.slice Ao21 t1602.length co21)) (fun _ hk => hk.2) (.slice Ao24 t1605.length co24)) (fun _ hk => hk.2) (.bool a0_11)) (fun _ hk => hk.2) (.slice Ao28 t1608.length co28)) (fun _ hk => hk.2) (.string a0_13)) (fun _ hk => hk.1.1.2), by (with_reducible repeat (first | apply Kd.R_alloc | apply Kd.R_drewN | apply Kd.R_drew)); exact Kd.R_mono (Kd.R_far (p := ⟨gb1591, 13, none⟩) (Kd.R_far (p := ⟨gb1591, 12, none⟩) (Kd.R_far (p := ⟨gb1591, 11, none⟩) (Kd.R_far (p := ⟨gb1591, 10, none⟩) (Kd.R_far (p := ⟨gb1591, 9, none⟩) (Kd.R_far (p := ⟨gb1591, 8, none⟩) (Kd.R_far (p := ⟨gb1591, 7, none⟩) (Kd.R_far (p := ⟨gb1591, 6, none⟩) (Kd.R_far (p := ⟨gb1591, 5, none⟩) (Kd.R_far (p := ⟨gb1591, 4, none⟩) (Kd.R_far (p := ⟨gb1591, 3, none⟩) (Kd.R_far (p := ⟨gb1591, 2, none⟩) (Kd.R_far (p := ⟨gb1591, 1, none⟩) (Kd.R_far (p := ⟨gb1591, 0, none⟩) (Kd.R_far (p := ⟨gb1592, 13, none⟩) (Kd.R_far (p := ⟨gb1592, 12, none⟩) (Kd.R_types (Kd.R_types HO1601.out BK1592.out (by decide)) BK1591.out (by decide)) (fun _ hk => hk.1.2) (.slice Ao28 t1608.length co28)) (fun _ hk => hk.1.2) (.string a0_13)) (fun _ hk => hk.2) (.int .i64 a0_0)) (fun _ hk => hk.2) (.int .i64 a0_1)) (fun _ hk => hk.2) (.int .i64 a0_2)) (fun _ hk => hk.2) (.string a0_3)) (fun _ hk => hk.2) (.int .i64 t1593)) (fun _ hk => hk.2) (.int .i64 t1594)) (fun _ hk => hk.2) (.slice Ao16 t1595.length co16)) (fun _ hk => hk.2) (.int .i64 t1598)) (fun _ hk => hk.2) (.slice Ao20 t1599.length co20)) (fun _ hk => hk.2) (.slice Ao21 t1602.length co21)) (fun _ hk => hk.2) (.slice Ao24 t1605.length co24)) (fun _ hk => hk.2) (.bool a0_11)) (fun _ hk => hk.2) (.slice Ao28 t1608.length co28)) (fun _ hk => hk.2) (.string a0_13)) (fun _ hk => hk.1.1.2), by (with_reducible repeat (first | apply Kd.R_alloc | apply Kd.R_drewN | apply Kd.R_drew)); exact Kd.R_mono (Kd.R_far (p := ⟨gb1591, 13, none⟩) (Kd.R_far (p := ⟨gb1591, 12, none⟩) (Kd.R_far (p := ⟨gb1591, 11, none⟩) (Kd.R_far (p := ⟨gb1591, 10, none⟩) (Kd.R_far (p := ⟨gb1591, 9, none⟩) (Kd.R_far (p := ⟨gb1591, 8, none⟩) (Kd.R_far (p := ⟨gb1591, 7, none⟩) (Kd.R_far (p := ⟨gb1591, 6, none⟩) (Kd.R_far (p := ⟨gb1591, 5, none⟩) (Kd.R_far (p := ⟨gb1591, 4, none⟩) (Kd.R_far (p := ⟨gb1591, 3, none⟩) (Kd.R_far (p := ⟨gb1591, 2, none⟩) (Kd.R_far (p := ⟨gb1591, 1, none⟩) (Kd.R_far (p := ⟨gb1591, 0, none⟩) (Kd.R_far (p := ⟨gb1592, 13, none⟩) (Kd.R_far (p := ⟨gb1592, 12, none⟩) (Kd.R_types (Kd.R_types HO1604.out BK1592.out (by decide)) BK1591.out (by decide)) (fun _ hk => hk.1.2) (.slice Ao28 t1608.length co28)) (fun _ hk => hk.1.2) (.string a0_13)) (fun _ hk => hk.2) (.int .i64 a0_0)) (fun _ hk => hk.2) (.int .i64 a0_1)) (fun _ hk => hk.2) (.int .i64 a0_2)) (fun _ hk => hk.2) (.string a0_3)) (fun _ hk => hk.2) (.int .i64 t1593)) (fun _ hk => hk.2) (.int .i64 t1594)) (fun _ hk => hk.2) (.slice Ao16 t1595.length co16)) (fun _ hk => hk.2) (.int .i64 t1598)) (fun _ hk => hk.2) (.slice Ao20 t1599.length co20)) (fun _ hk => hk.2) (.slice Ao21 t1602.length co21)) (fun _ hk => hk.2) (.slice Ao24 t1605.length co24)) (fun _ hk => hk.2) (.bool a0_11)) (fun _ hk => hk.2) (.slice Ao28 t1608.length co28)) (fun _ hk => hk.2) (.string a0_13)) (fun _ hk => trivial), by (with_reducible repeat (first | apply Kd.R_alloc | apply Kd.R_drewN | apply Kd.R_drew)); exact Kd.R_mono (Kd.R_far (p := ⟨gb1591, 13, none⟩) (Kd.R_far (p := ⟨gb1591, 12, none⟩) (Kd.R_far (p := ⟨gb1591, 11, none⟩) (Kd.R_far (p := ⟨gb1591, 10, none⟩) (Kd.R_far (p := ⟨gb1591, 9, none⟩) (Kd.R_far (p := ⟨gb1591, 8, none⟩) (Kd.R_far (p := ⟨gb1591, 7, none⟩) (Kd.R_far (p := ⟨gb1591, 6, none⟩) (Kd.R_far (p := ⟨gb1591, 5, none⟩) (Kd.R_far (p := ⟨gb1591, 4, none⟩) (Kd.R_far (p := ⟨gb1591, 3, none⟩) (Kd.R_far (p := ⟨gb1591, 2, none⟩) (Kd.R_far (p := ⟨gb1591, 1, none⟩) (Kd.R_far (p := ⟨gb1591, 0, none⟩) (Kd.R_far (p := ⟨gb1592, 13, none⟩) (Kd.R_far (p := ⟨gb1592, 12, none⟩) (Kd.R_types (Kd.R_types HO1607.out BK1592.out (by decide)) BK1591.out (by decide)) (fun _ hk => hk.1.2) (.slice Ao28 t1608.length co28)) (fun _ hk => hk.1.2) (.string a0_13)) (fun _ hk => hk.2) (.int .i64 a0_0)) (fun _ hk => hk.2) (.int .i64 a0_1)) (fun _ hk => hk.2) (.int .i64 a0_2)) (fun _ hk => hk.2) (.string a0_3)) (fun _ hk => hk.2) (.int .i64 t1593)) (fun _ hk => hk.2) (.int .i64 t1594)) (fun _ hk => hk.2) (.slice Ao16 t1595.length co16)) (fun _ hk => hk.2) (.int .i64 t1598)) (fun _ hk => hk.2) (.slice Ao20 t1599.length co20)) (fun _ hk => hk.2) (.slice Ao21 t1602.length co21)) (fun _ hk => hk.2) (.slice Ao24 t1605.length co24)) (fun _ hk => hk.2) (.bool a0_11)) (fun _ hk => hk.2) (.slice Ao28 t1608.length co28)) (fun _ hk => hk.2) (.string a0_13)) (fun _ hk => trivial), by (with_reducible repeat (first | apply Kd.R_alloc | apply Kd.R_drewN | apply Kd.R_drew)); exact Kd.R_mono (Kd.R_far (p := ⟨gb1591, 13, none⟩) (Kd.R_far (p := ⟨gb1591, 12, none⟩) (Kd.R_far (p := ⟨gb1591, 11, none⟩) (Kd.R_far (p := ⟨gb1591, 10, none⟩) (Kd.R_far (p := ⟨gb1591, 9, none⟩) (Kd.R_far (p := ⟨gb1591, 8, none⟩) (Kd.R_far (p := ⟨gb1591, 7, none⟩) (Kd.R_far (p := ⟨gb1591, 6, none⟩) (Kd.R_far (p := ⟨gb1591, 5, none⟩) (Kd.R_far (p := ⟨gb1591, 4, none⟩) (Kd.R_far (p := ⟨gb1591, 3, none⟩) (Kd.R_far (p := ⟨gb1591, 2, none⟩) (Kd.R_far (p := ⟨gb1591, 1, none⟩) (Kd.R_far (p := ⟨gb1591, 0, none⟩) (Kd.R_far (p := ⟨gb1592, 13, none⟩) (Kd.R_far (p := ⟨gb1592, 12, none⟩) (Kd.R_types (Kd.R_types HO1610.out BK1592.out (by decide)) BK1591.out (by decide)) (fun _ hk => hk.1.2) (.slice Ao28 t1608.length co28)) (fun _ hk => hk.1.2) (.string a0_13)) (fun _ hk => hk.2) (.int .i64 a0_0)) (fun _ hk => hk.2) (.int .i64 a0_1)) (fun _ hk => hk.2) (.int .i64 a0_2)) (fun _ hk => hk.2) (.string a0_3)) (fun _ hk => hk.2) (.int .i64 t1593)) (fun _ hk => hk.2) (.int .i64 t1594)) (fun _ hk => hk.2) (.slice Ao16 t1595.length co16)) (fun _ hk => hk.2) (.int .i64 t1598)) (fun _ hk => hk.2) (.slice Ao20 t1599.length co20)) (fun _ hk => hk.2) (.slice Ao21 t1602.length co21)) (fun _ hk => hk.2) (.slice Ao24 t1605.length co24)) (fun _ hk => hk.2) (.bool a0_11)) (fun _ hk => hk.2) (.slice Ao28 t1608.length co28)) (fun _ hk => hk.2) (.string a0_13)) (fun _ hk => trivial), by repeat (first | (with_reducible first | exact HB.out | apply below_alloc | apply pw_below_drewN | apply below_drew1 | refine below_set ?_ GE1590.out | refine below_set ?_ GE1591.out | refine below_set ?_ GE1592.out) | exact HB.out)⟩

def c109 (x : S109) : S113 := ⟨x.f0, x.f1, x.f2, x.f3, (c105 x.f4), (c106 x.f5), (x.f6.map c191), x.f7, (x.f8.map c159), x.f9⟩

def s109 (x : S109) : Prop := s105 x.f4 ∧ s106 x.f5 ∧ (fun l : List S191 => l.length ≤ 1048576) x.f6 ∧ (fun l : List S159 => l.length ≤ 1048576) x.f8

theorem laws_toBlock.is {x : S109} (hs : s109 x) : Ev (fun k => laws_toBlock.f k x.f0 x.f1 x.f2 x.f3 x.f4.f0 x.f4.f1 x.f4.f2 x.f5.f0 x.f5.f1 x.f5.f2 x.f6 x.f7 x.f8 x.f9) ((c109 x).f0, (c109 x).f1, (c109 x).f2, (c109 x).f3, (c109 x).f4.f0, (c109 x).f4.f1, (c109 x).f4.f2, (c109 x).f5.f0, (c109 x).f5.f1, (c109 x).f5.f2, (c109 x).f6, (c109 x).f7, (c109 x).f8, (c109 x).f9) := by
  unfold laws_toBlock.f
  refine Ev.bind (laws_toQc.is hs.1) ?_
  refine Ev.bind (laws_toTc.is hs.2.1) ?_
  refine Ev.bind (laws_toTxS.is hs.2.2.1) ?_
  refine Ev.bind (laws_toValS.is hs.2.2.2) ?_
  exact Ev.now _

theorem laws_toBlock.does {x : S109} (hs : s109 x) {cs : List Value} {w : World} (hK : k109.K w x cs) :
    Calls Try.prog 69 #[.agg cs.toArray] w fun e w' => ∃ ds : List Value, e = .returned (.agg ds.toArray) ∧ k113.K w' (c109 x) ds ∧ Below w.heap.size w w' := by
  obtain ⟨A6, cA6, A8, cA8, A9, cA9, A10, cA10, A12, cA12, rfl, lA6, gA6, lA8, gA8, lA9, gA9, lA10, gA10, lA12, gA12⟩ := k109_open hK
  obtain ⟨k, h⟩ := (laws_toBlock.is hs).rounds
  refine (laws_toBlock.calls k x.f0 x.f1 x.f2 x.f3 x.f4.f0 x.f4.f1 A6 cA6 x.f4.f2 x.f5.f0 A8 cA8 x.f5.f1 A9 cA9 x.f5.f2 A10 cA10 x.f6 x.f7 A12 cA12 x.f8 x.f9 _ _ _ _ _ _ _ _ _ _ _ _ _ _ w gA6 lA6 gA8 lA8 gA9 lA9 gA10 lA10 gA12 lA12 h).mono fun e w' ⟨v6, v8, v9, v10, v12, hv, r6, r8, r9, r10, r12, hb⟩ => ?_
  obtain ⟨B6, d6, rfl, m6, n6⟩ := Kd.R_reads r6
  obtain ⟨B8, d8, rfl, m8, n8⟩ := Kd.R_reads r8
  obtain ⟨B9, d9, rfl, m9, n9⟩ := Kd.R_reads r9
  obtain ⟨B10, d10, rfl, m10, n10⟩ := Kd.R_reads r10
  obtain ⟨B12, d12, rfl, m12, n12⟩ := Kd.R_reads r12
  exact ⟨_, hv, k113_mk w' (c109 x) m6 n6 m8 n8 m9 n9 m10 n10 m12 n12, hb⟩

theorem small109 {x : S109} (h : hold109 x ≤ 1048576) : s109 x := by
  unfold hold109 at h
  have n3 : 0 ≤ (x.f3.size : Int) := (Int.natCast_nonneg _)
  have n4 : 0 ≤ (hold105 x.f4) := (hold105.nn x.f4)
  have n5 : 0 ≤ (hold106 x.f5) := (hold106.nn x.f5)
  have n6 : 0 ≤ ((x.f6.length : Int) + sums hold191 x.f6) := (Int.add_nonneg (Int.natCast_nonneg _) (sums_nn hold191.nn x.f6))
  have n8 : 0 ≤ ((x.f8.length : Int) + sums hold159 x.f8) := (Int.add_nonneg (Int.natCast_nonneg _) (sums_nn hold159.nn x.f8))
  have n9 : 0 ≤ (x.f9.size : Int) := (Int.natCast_nonneg _)
  exact ⟨small105 (by omega), small106 (by omega), (by have := sums_nn hold191.nn x.f6; omega), (by have := sums_nn hold159.nn x.f8; omega)⟩

theorem long109 {x : S109} (h : s109 x) : l113 (c109 x) := by
  exact ⟨long105 h.1, long106 h.2.1, (by show (x.f6.map c191).length ≤ _; rw [List.length_map]; exact Nat.le_trans h.2.2.1 (by decide)), (by show (x.f8.map c159).length ≤ _; rw [List.length_map]; exact Nat.le_trans h.2.2.2 (by decide))⟩

/-! ### laws_markBlock: function 73 -/
def laws_markBlock.f (k : Nat) (a0_0 : Int) (a0_1 : Int) (a0_2 : Int) (a0_3 : ByteArray) (a0_4 : Int) (a0_5 : Int) (l0_6 : List ByteArray) (a0_7 : Int) (l0_8 : List ByteArray) (l0_9 : List Int) (l0_10 : List (S186)) (a0_11 : Bool) (l0_12 : List (S138)) (a0_13 : ByteArray) (a1 : Int) : Option (Int × List ByteArray × List ByteArray × List Int × (List (S186)) × (List (S138))) := (laws_markQc.f k a0_4 a0_5 l0_6 a1).bind fun bt1729 => ((laws_markTc.f k a0_7 l0_8 l0_9 bt1729.1).bind fun bt1731 => ((laws_markTxS.f k l0_10 bt1731.1).bind fun bt1734 => ((laws_markValS.f k l0_12 bt1734.1).bind fun bt1736 => (some (bt1736.1, bt1729.2, bt1731.2.1, bt1731.2.2, bt1734.2, bt1736.2)))))
theorem laws_markBlock.mono : ∀ a0 a1 a2 a3 a4 a5 a6 a7 a8 a9 a10 a11 a12 a13 a14 k, LeO (laws_markBlock.f k a0 a1 a2 a3 a4 a5 a6 a7 a8 a9 a10 a11 a12 a13 a14) (laws_markBlock.f (k + 1) a0 a1 a2 a3 a4 a5 a6 a7 a8 a9 a10 a11 a12 a13 a14) := by
  intro a0 a1 a2 a3 a4 a5 a6 a7 a8 a9 a10 a11 a12 a13 a14 k
  unfold laws_markBlock.f
  repeat' first
      | (with_reducible exact laws_markQc.mono _ _ _ _ _)
      | (with_reducible exact laws_markTc.mono _ _ _ _ _)
      | (with_reducible exact laws_markTxS.mono _ _ _)
      | (with_reducible exact laws_markValS.mono _ _ _)
      | (with_reducible exact LeO.refl _)
      | (with_reducible exact LeO.none _)
      | (with_reducible refine LeO.ite ?_ ?_)
      | (with_reducible refine LeO.bind ?_ (fun _ => ?_))
      | exact laws_markQc.mono _ _ _ _ _
      | exact laws_markTc.mono _ _ _ _ _
      | exact laws_markTxS.mono _ _ _
      | exact laws_markValS.mono _ _ _
      | exact LeO.none _
      | refine LeO.ite ?_ ?_
      | refine LeO.bind ?_ (fun _ => ?_)
set_option maxHeartbeats 8000000 in
set_option maxRecDepth 100000 in
theorem laws_markBlock.calls (k : Nat) (a0_0 : Int) (a0_1 : Int) (a0_2 : Int) (a0_3 : ByteArray) (a0_4 : Int) (a0_5 : Int) (P0_6_ : Nat → Prop) (u9000_ : Value) (l0_6 : List ByteArray) (a0_7 : Int) (P0_8_ : Nat → Prop) (u9001_ : Value) (l0_8 : List ByteArray) (P0_9_ : Nat → Prop) (u9002_ : Value) (l0_9 : List Int) (P0_10_ : Nat → Prop) (u9003_ : Value) (l0_10 : List (S186)) (a0_11 : Bool) (P0_12_ : Nat → Prop) (u9004_ : Value) (l0_12 : List (S138)) (a0_13 : ByteArray) (a1 : Int) (r1 : Int) (r2 : List ByteArray) (r3 : List ByteArray) (r4 : List Int) (r5 : List (S186)) (r6 : List (S138)) (w0 w : World) (hB : Below w0.heap.size w0 w) (ho0_6 : Kd.R Kd.string 9 w w0.heap.size P0_6_ u9000_ l0_6) (hp0_6_0_8 : ∀ k_, P0_6_ k_ → ¬ P0_8_ k_) (ho0_8 : Kd.R Kd.string 9 w w0.heap.size P0_8_ u9001_ l0_8) (hp0_8_0_6 : ∀ k_, P0_8_ k_ → ¬ P0_6_ k_) (ho0_9 : Kd.R (Kd.int .i64) 3 w w0.heap.size P0_9_ u9002_ l0_9) (ho0_10 : Kd.R k186 186 w w0.heap.size P0_10_ u9003_ l0_10) (ho0_12 : Kd.R k138 138 w w0.heap.size P0_12_ u9004_ l0_12) (h : laws_markBlock.f k a0_0 a0_1 a0_2 a0_3 a0_4 a0_5 l0_6 a0_7 l0_8 l0_9 l0_10 a0_11 l0_12 a0_13 a1 = some (r1, r2, r3, r4, r5, r6)) :
    Calls Try.prog 73 #[.agg #[.int .i64 a0_0, .int .i64 a0_1, .int .i64 a0_2, .string a0_3, .int .i64 a0_4, .int .i64 a0_5, u9000_, .int .i64 a0_7, u9001_, u9002_, u9003_, .bool a0_11, u9004_, .string a0_13], .int .i64 a1] w fun e w' => e = .returned (.int .i64 r1) ∧ Kd.R Kd.string 9 w' w0.heap.size (fun k_ => ((P0_6_ k_ ∨ P0_8_ k_ ∨ P0_9_ k_ ∨ P0_10_ k_ ∨ P0_12_ k_) ∨ w.heap.size ≤ k_)) u9000_ r2 ∧ Kd.R Kd.string 9 w' w0.heap.size (fun k_ => ((P0_6_ k_ ∨ P0_8_ k_ ∨ P0_9_ k_ ∨ P0_10_ k_ ∨ P0_12_ k_) ∨ w.heap.size ≤ k_)) u9001_ r3 ∧ Kd.R (Kd.int .i64) 3 w' w0.heap.size (fun k_ => ((P0_6_ k_ ∨ P0_8_ k_ ∨ P0_9_ k_ ∨ P0_10_ k_ ∨ P0_12_ k_) ∨ w.heap.size ≤ k_)) u9002_ r4 ∧ Kd.R k186 186 w' w0.heap.size (fun k_ => ((P0_6_ k_ ∨ P0_8_ k_ ∨ P0_9_ k_ ∨ P0_10_ k_ ∨ P0_12_ k_) ∨ w.heap.size ≤ k_)) u9003_ r5 ∧ Kd.R k138 138 w' w0.heap.size (fun k_ => ((P0_6_ k_ ∨ P0_8_ k_ ∨ P0_9_ k_ ∨ P0_10_ k_ ∨ P0_12_ k_) ∨ w.heap.size ≤ k_)) u9004_ r6 ∧ Below w0.heap.size w0 w' ∧ Kept w w' (fun k_ => P0_6_ k_ ∨ P0_8_ k_ ∨ P0_9_ k_ ∨ P0_10_ k_ ∨ P0_12_ k_) := by
  have hu113 := Try.underlying113
  have hu49 := Try.underlying49
  have hu60 := Try.underlying60
  have HO0_6 := Aside0.mk (show Kd.R Kd.string 9 w w0.heap.size (fun k_ => ((P0_6_ k_ ∨ P0_8_ k_ ∨ P0_9_ k_ ∨ P0_10_ k_ ∨ P0_12_ k_) ∨ w.heap.size ≤ k_) ∧ some k_ ≠ (u9001_ : Value).ownBlock) u9000_ l0_6 from Kd.R_mono ho0_6 (fun k_ hk => ⟨(.inl (.inl hk)), fun e_ => hp0_6_0_8 k_ hk (ho0_8.1 k_ e_.symm)⟩))
  have HO0_8 := Aside0.mk (show Kd.R Kd.string 9 w w0.heap.size (fun k_ => ((P0_6_ k_ ∨ P0_8_ k_ ∨ P0_9_ k_ ∨ P0_10_ k_ ∨ P0_12_ k_) ∨ w.heap.size ≤ k_) ∧ some k_ ≠ (u9000_ : Value).ownBlock) u9001_ l0_8 from Kd.R_mono ho0_8 (fun k_ hk => ⟨(.inl (.inr (.inl hk))), fun e_ => hp0_8_0_6 k_ hk (ho0_6.1 k_ e_.symm)⟩))
  have HO0_9 := Aside0.mk (show Kd.R (Kd.int .i64) 3 w w0.heap.size (fun k_ => ((P0_6_ k_ ∨ P0_8_ k_ ∨ P0_9_ k_ ∨ P0_10_ k_ ∨ P0_12_ k_) ∨ w.heap.size ≤ k_)) u9002_ l0_9 from Kd.R_mono ho0_9 (fun k_ hk => (.inl (.inr (.inr (.inl hk))))))
  have HO0_10 := Aside0.mk (show Kd.R k186 186 w w0.heap.size (fun k_ => ((P0_6_ k_ ∨ P0_8_ k_ ∨ P0_9_ k_ ∨ P0_10_ k_ ∨ P0_12_ k_) ∨ w.heap.size ≤ k_)) u9003_ l0_10 from Kd.R_mono ho0_10 (fun k_ hk => (.inl (.inr (.inr (.inr (.inl hk)))))))
  have HO0_12 := Aside0.mk (show Kd.R k138 138 w w0.heap.size (fun k_ => ((P0_6_ k_ ∨ P0_8_ k_ ∨ P0_9_ k_ ∨ P0_10_ k_ ∨ P0_12_ k_) ∨ w.heap.size ≤ k_)) u9004_ l0_12 from Kd.R_mono ho0_12 (fun k_ hk => (.inl (.inr (.inr (.inr (.inr hk)))))))
  have HK := Aside0.mk (Kept.refl w (fun k_ => P0_6_ k_ ∨ P0_8_ k_ ∨ P0_9_ k_ ∨ P0_10_ k_ ∨ P0_12_ k_))
  have HW0 := Aside0.mk hB.size
  have HB := Aside0.mk hB
  clear hB
  have H : ((laws_markQc.f k a0_4 a0_5 l0_6 a1).bind fun bt1729 => ((laws_markTc.f k a0_7 l0_8 l0_9 bt1729.1).bind fun bt1731 => ((laws_markTxS.f k l0_10 bt1731.1).bind fun bt1734 => ((laws_markValS.f k l0_12 bt1734.1).bind fun bt1736 => (some (bt1736.1, bt1729.2, bt1731.2.1, bt1731.2.2, bt1734.2, bt1736.2)))))) = some (r1, r2, r3, r4, r5, r6) := h
  clear h
  replace H := Option.bind_eq_some_iff.mp H
  obtain ⟨⟨t1729, t1730⟩, A30, H⟩ := H
  replace H : ((laws_markTc.f k a0_7 l0_8 l0_9 t1729).bind fun bt1731 => ((laws_markTxS.f k l0_10 bt1731.1).bind fun bt1734 => ((laws_markValS.f k l0_12 bt1734.1).bind fun bt1736 => (some (bt1736.1, t1730, bt1731.2.1, bt1731.2.2, bt1734.2, bt1736.2))))) = some (r1, r2, r3, r4, r5, r6) := H
  have A3 := Aside0.mk A30
  clear A30
  replace H := Option.bind_eq_some_iff.mp H
  obtain ⟨⟨t1731, t1732, t1733⟩, A40, H⟩ := H
  replace H : ((laws_markTxS.f k l0_10 t1731).bind fun bt1734 => ((laws_markValS.f k l0_12 bt1734.1).bind fun bt1736 => (some (bt1736.1, t1730, t1732, t1733, bt1734.2, bt1736.2)))) = some (r1, r2, r3, r4, r5, r6) := H
  have A4 := Aside0.mk A40
  clear A40
  replace H := Option.bind_eq_some_iff.mp H
  obtain ⟨⟨t1734, t1735⟩, A50, H⟩ := H
  replace H : ((laws_markValS.f k l0_12 t1734).bind fun bt1736 => (some (bt1736.1, t1730, t1732, t1733, t1735, bt1736.2))) = some (r1, r2, r3, r4, r5, r6) := H
  have A5 := Aside0.mk A50
  clear A50
  replace H := Option.bind_eq_some_iff.mp H
  obtain ⟨⟨t1736, t1737⟩, A60, H⟩ := H
  replace H : (some (t1736, t1730, t1732, t1733, t1735, t1737)) = some (r1, r2, r3, r4, r5, r6) := H
  have A6 := Aside0.mk A60
  clear A60
  simp only [Option.some.injEq, Prod.mk.injEq] at H
  obtain ⟨rfl, rfl, rfl, rfl, rfl, rfl⟩ := H
  obtain ⟨Ao7, co7, eo7⟩ := Kd.R_slice HO0_6.out
  subst eo7
  obtain ⟨Ao8, co8, eo8⟩ := Kd.R_slice HO0_8.out
  subst eo8
  obtain ⟨Ao9, co9, eo9⟩ := Kd.R_slice HO0_9.out
  subst eo9
  obtain ⟨Ao10, co10, eo10⟩ := Kd.R_slice HO0_10.out
  subst eo10
  obtain ⟨Ao11, co11, eo11⟩ := Kd.R_slice HO0_12.out
  subst eo11
  go_enter Try.func73, Try.ntmps73
  go_wp2_with (first | ((with_reducible refine gate_dst (N := 2) rfl ?_); refine box_event ?hg (N := 2) ?hd (cs := #[.int .i64 a0_0, .int .i64 a0_1, .int .i64 a0_2, .string a0_3, .int .i64 a0_4, .int .i64 a0_5, .slice Ao7 l0_6.length co7, .int .i64 a0_7, .slice Ao8 l0_8.length co8, .slice Ao9 l0_9.length co9, .slice Ao10 l0_10.length co10, .bool a0_11, .slice Ao11 l0_12.length co11, .string a0_13]) (t := 113) ?hr ?_; (case hd => rfl); (case hg => rfl); (case hr => first | (go_simp; done) | (go_simp; rfl)); intro gb1728 hg w12 hbox hb; have n0_ := Aside0.mk (Kd.R_below (by (with_reducible repeat (first | apply Kd.R_alloc | apply Kd.R_drewN | apply Kd.R_drew)); exact HO0_6.out) hb); have n1_ := Aside0.mk (Kd.R_below (by (with_reducible repeat (first | apply Kd.R_alloc | apply Kd.R_drewN | apply Kd.R_drew)); exact HO0_8.out) hb); have n2_ := Aside0.mk (Kd.R_below (by (with_reducible repeat (first | apply Kd.R_alloc | apply Kd.R_drewN | apply Kd.R_drew)); exact HO0_9.out) hb); have n3_ := Aside0.mk (Kd.R_below (by (with_reducible repeat (first | apply Kd.R_alloc | apply Kd.R_drewN | apply Kd.R_drew)); exact HO0_10.out) hb); have n4_ := Aside0.mk (Kd.R_below (by (with_reducible repeat (first | apply Kd.R_alloc | apply Kd.R_drewN | apply Kd.R_drew)); exact HO0_12.out) hb); have n5_ := Aside0.mk (Kept.below (S := (fun k_ => P0_6_ k_ ∨ P0_8_ k_ ∨ P0_9_ k_ ∨ P0_10_ k_ ∨ P0_12_ k_)) (by repeat (first | (with_reducible first | exact HK.out | apply Kept.alloc | apply Kept.drewN | apply Kept.drew) | exact HK.out)) hb); have n6_ := Aside0.mk (below_step (by repeat (first | (with_reducible first | exact HB.out | apply below_alloc | apply pw_below_drewN | apply below_drew1) | exact HB.out)) hb); have n7_ := Aside0.mk (hbox); have n8_ := Aside0.mk ((by rw [hg]; exact (by first | exact HK.out.1 | exact (show Kept w _ (fun k_ => P0_6_ k_ ∨ P0_8_ k_ ∨ P0_9_ k_ ∨ P0_10_ k_ ∨ P0_12_ k_) from by repeat (first | (with_reducible first | exact HK.out | apply Kept.alloc | apply Kept.drewN | apply Kept.drew) | exact HK.out)).1) : w.heap.size ≤ gb1728)); have n9_ := Aside0.mk ((by rw [hg]; exact (below_size (by repeat (first | (with_reducible first | exact HB.out | apply below_alloc | apply pw_below_drewN | apply below_drew1) | exact HB.out))) : w0.heap.size ≤ gb1728)); clear HO0_6; clear HO0_8; clear HO0_9; clear HO0_10; clear HO0_12; clear HK; clear HB; have HO0_6 := n0_; have HO0_8 := n1_; have HO0_9 := n2_; have HO0_10 := n3_; have HO0_12 := n4_; have HK := n5_; have HB := n6_; have BK1728 := n7_; have GW1728 := n8_; have GE1728 := n9_; clear n0_ n1_ n2_ n3_ n4_ n5_ n6_ n7_ n8_ n9_; clear hb hbox hg; obtain ⟨hcz13_0, hcz13_1, hcz13_2, hcz13_3, hcz13_4, hcz13_5, hcz13_6, hcz13_7, hcz13_8, hcz13_9, hcz13_10, hcz13_11, hcz13_12, hcz13_13⟩ := cells14 BK1728.out; obtain ⟨hfz13_0, hfz13_1, hfz13_2, hfz13_3, hfz13_4, hfz13_5, hfz13_6, hfz13_7, hfz13_8, hfz13_9, hfz13_10, hfz13_11, hfz13_12, hfz13_13⟩ := frozens14 BK1728.out) | ((with_reducible refine gate_callee (f := 53) rfl ?_); refine goesL_ (some 8) rfl rfl Try.func53 (by kernel_rfl) rfl #[.agg #[.int .i64 a0_4, .int .i64 a0_5, .slice Ao7 l0_6.length co7], .int .i64 a1] rfl (by (try simp only [List.map_toArray, List.map_cons, List.map_nil]); first | done | rfl | (simp only [List.length_drop, List.length_take]; rfl)) ?_; (with_reducible refine (laws_markQc.calls k a0_4 a0_5 (fun k_ => some k_ = (.slice Ao7 l0_6.length co7 : Value).ownBlock) (.slice Ao7 l0_6.length co7) l0_6 a1 t1729 t1730 w0 _ ?side1 ?side2 A3.out).mono ?_); (case side1 => repeat (first | (with_reducible first | exact HB.out | apply below_alloc | apply pw_below_drewN | apply below_drew1 | refine below_set ?_ GE1728.out) | exact HB.out)); (case side2 => exact Kd.R_tight rfl HO0_6.out); rintro e w14 ⟨rfl, hy0, hb, hkp⟩; refine ⟨_, rfl, ?_⟩; have n0_ := Aside0.mk (Kd.R_reok rfl hy0 (fun k_ e_ => HO0_6.out.1 k_ e_)); have n1_ := Aside0.mk (Kd.R_mono (ok' := fun k_ => ((P0_6_ k_ ∨ P0_8_ k_ ∨ P0_9_ k_ ∨ P0_10_ k_ ∨ P0_12_ k_) ∨ w.heap.size ≤ k_) ∧ some k_ ≠ (.slice Ao7 l0_6.length co7 : Value).ownBlock) (Kd.R_keptB (HO0_8.out) hkp (fun k_ hk_ hs_ => (hk_.2) hs_)) (fun k_ hk_ => ⟨hk_.1.1, hk_.1.2⟩)); have n2_ := Aside0.mk (Kd.R_mono (ok' := fun k_ => ((P0_6_ k_ ∨ P0_8_ k_ ∨ P0_9_ k_ ∨ P0_10_ k_ ∨ P0_12_ k_) ∨ w.heap.size ≤ k_)) (Kd.R_keptB ((Kd.R_apart' HO0_9.out (Kd.R_typed HO0_6.out) (by decide))) hkp (fun k_ hk_ hs_ => (hk_.2) hs_)) (fun k_ hk_ => hk_.1.1)); have n3_ := Aside0.mk (Kd.R_mono (ok' := fun k_ => ((P0_6_ k_ ∨ P0_8_ k_ ∨ P0_9_ k_ ∨ P0_10_ k_ ∨ P0_12_ k_) ∨ w.heap.size ≤ k_)) (Kd.R_keptB ((Kd.R_apart' HO0_10.out (Kd.R_typed HO0_6.out) (by decide))) hkp (fun k_ hk_ hs_ => (hk_.2) hs_)) (fun k_ hk_ => hk_.1.1)); have n4_ := Aside0.mk (Kd.R_mono (ok' := fun k_ => ((P0_6_ k_ ∨ P0_8_ k_ ∨ P0_9_ k_ ∨ P0_10_ k_ ∨ P0_12_ k_) ∨ w.heap.size ≤ k_)) (Kd.R_keptB ((Kd.R_apart' HO0_12.out (Kd.R_typed HO0_6.out) (by decide))) hkp (fun k_ hk_ hs_ => (hk_.2) hs_)) (fun k_ hk_ => hk_.1.1)); have n5_ := Aside0.mk (blk_kept (by (with_reducible repeat (first | refine blk_drewN ?_ _ | refine blk_drew ?_ | refine blk_alloc ?_ _)); exact BK1728.out) hkp (fun hs_ => (fun e_ => (Kd.R_ne HO0_6.out BK1728.out (by decide)) e_) hs_)); have n6_ := Aside0.mk (Kept.then_ (S := (fun k_ => P0_6_ k_ ∨ P0_8_ k_ ∨ P0_9_ k_ ∨ P0_10_ k_ ∨ P0_12_ k_)) (by repeat (first | (with_reducible first | exact HK.out | apply Kept.alloc | apply Kept.drewN | apply Kept.drew | refine Kept.setCell ?_ (.inr GW1728.out) _) | exact HK.out)) hkp (fun k_ hs_ => (fun e_ => (HO0_6.out.1 k_ e_.symm).1) hs_)); have n7_ := Aside0.mk (hb); clear HO0_6; clear HO0_8; clear HO0_9; clear HO0_10; clear HO0_12; clear BK1728; clear HK; clear HB; have HO0_6 := n0_; have HO0_8 := n1_; have HO0_9 := n2_; have HO0_10 := n3_; have HO0_12 := n4_; have BK1728 := n5_; have HK := n6_; have HB := n7_; clear n0_ n1_ n2_ n3_ n4_ n5_ n6_ n7_; (try clear hb); (try clear hkp); (try clear hy0); obtain ⟨hcz15_0, hcz15_1, hcz15_2, hcz15_3, hcz15_4, hcz15_5, hcz15_6, hcz15_7, hcz15_8, hcz15_9, hcz15_10, hcz15_11, hcz15_12, hcz15_13⟩ := cells14 BK1728.out; obtain ⟨hfz15_0, hfz15_1, hfz15_2, hfz15_3, hfz15_4, hfz15_5, hfz15_6, hfz15_7, hfz15_8, hfz15_9, hfz15_10, hfz15_11, hfz15_12, hfz15_13⟩ := frozens14 BK1728.out) | ((with_reducible refine gate_callee (f := 60) rfl ?_); refine goesL_ (some 12) rfl rfl Try.func60 (by kernel_rfl) rfl #[.agg #[.int .i64 a0_7, .slice Ao8 l0_8.length co8, .slice Ao9 l0_9.length co9], .int .i64 t1729] rfl (by (try simp only [List.map_toArray, List.map_cons, List.map_nil]); first | done | rfl | (simp only [List.length_drop, List.length_take]; rfl)) ?_; (with_reducible refine (laws_markTc.calls k a0_7 (fun k_ => some k_ = (.slice Ao8 l0_8.length co8 : Value).ownBlock) (.slice Ao8 l0_8.length co8) l0_8 (fun k_ => some k_ = (.slice Ao9 l0_9.length co9 : Value).ownBlock) (.slice Ao9 l0_9.length co9) l0_9 t1729 t1731 t1732 t1733 w0 _ ?side1 ?side2 ?side3 A4.out).mono ?_); (case side1 => repeat (first | (with_reducible first | exact HB.out | apply below_alloc | apply pw_below_drewN | apply below_drew1 | refine below_set ?_ GE1728.out) | exact HB.out)); (case side2 => exact Kd.R_tight rfl HO0_8.out); (case side3 => exact Kd.R_tight rfl HO0_9.out); rintro e w16 ⟨rfl, hy0, hy1, hb, hkp⟩; refine ⟨_, rfl, ?_⟩; have n0_ := Aside0.mk (Kd.R_mono (ok' := fun k_ => ((P0_6_ k_ ∨ P0_8_ k_ ∨ P0_9_ k_ ∨ P0_10_ k_ ∨ P0_12_ k_) ∨ w.heap.size ≤ k_) ∧ some k_ ≠ (.slice Ao8 l0_8.length co8 : Value).ownBlock) (Kd.R_keptB ((Kd.R_apart' HO0_6.out (Kd.R_typed HO0_9.out) (by decide))) hkp (fun k_ hk_ hs_ => Or.elim hs_ (fun e_ => (hk_.1.2) e_) (fun e_ => (hk_.2) e_))) (fun k_ hk_ => ⟨hk_.1.1.1, hk_.1.1.2⟩)); have n1_ := Aside0.mk (Kd.R_reok rfl hy0 (fun k_ e_ => HO0_8.out.1 k_ e_)); have n2_ := Aside0.mk (Kd.R_reok rfl hy1 (fun k_ e_ => HO0_9.out.1 k_ e_)); have n3_ := Aside0.mk (Kd.R_mono (ok' := fun k_ => ((P0_6_ k_ ∨ P0_8_ k_ ∨ P0_9_ k_ ∨ P0_10_ k_ ∨ P0_12_ k_) ∨ w.heap.size ≤ k_)) (Kd.R_keptB ((Kd.R_apart' (Kd.R_apart' HO0_10.out (Kd.R_typed HO0_8.out) (by decide)) (Kd.R_typed HO0_9.out) (by decide))) hkp (fun k_ hk_ hs_ => Or.elim hs_ (fun e_ => (hk_.1.2) e_) (fun e_ => (hk_.2) e_))) (fun k_ hk_ => hk_.1.1.1)); have n4_ := Aside0.mk (Kd.R_mono (ok' := fun k_ => ((P0_6_ k_ ∨ P0_8_ k_ ∨ P0_9_ k_ ∨ P0_10_ k_ ∨ P0_12_ k_) ∨ w.heap.size ≤ k_)) (Kd.R_keptB ((Kd.R_apart' (Kd.R_apart' HO0_12.out (Kd.R_typed HO0_8.out) (by decide)) (Kd.R_typed HO0_9.out) (by decide))) hkp (fun k_ hk_ hs_ => Or.elim hs_ (fun e_ => (hk_.1.2) e_) (fun e_ => (hk_.2) e_))) (fun k_ hk_ => hk_.1.1.1)); have n5_ := Aside0.mk (blk_kept (by (with_reducible repeat (first | refine blk_drewN ?_ _ | refine blk_drew ?_ | refine blk_alloc ?_ _)); exact BK1728.out) hkp (fun hs_ => Or.elim hs_ (fun e_ => (fun e_ => (Kd.R_ne HO0_8.out BK1728.out (by decide)) e_) e_) (fun e_ => (fun e_ => (Kd.R_ne HO0_9.out BK1728.out (by decide)) e_) e_))); have n6_ := Aside0.mk (Kept.then_ (S := (fun k_ => P0_6_ k_ ∨ P0_8_ k_ ∨ P0_9_ k_ ∨ P0_10_ k_ ∨ P0_12_ k_)) (by repeat (first | (with_reducible first | exact HK.out | apply Kept.alloc | apply Kept.drewN | apply Kept.drew | refine Kept.setCell ?_ (.inr GW1728.out) _) | exact HK.out)) hkp (fun k_ hs_ => Or.elim hs_ (fun e_ => (fun e_ => (HO0_8.out.1 k_ e_.symm).1) e_) (fun e_ => (fun e_ => (HO0_9.out.1 k_ e_.symm)) e_))); have n7_ := Aside0.mk (hb); clear HO0_6; clear HO0_8; clear HO0_9; clear HO0_10; clear HO0_12; clear BK1728; clear HK; clear HB; have HO0_6 := n0_; have HO0_8 := n1_; have HO0_9 := n2_; have HO0_10 := n3_; have HO0_12 := n4_; have BK1728 := n5_; have HK := n6_; have HB := n7_; clear n0_ n1_ n2_ n3_ n4_ n5_ n6_ n7_; (try clear hb); (try clear hkp); (try clear hy0); (try clear hy1); obtain ⟨hcz17_0, hcz17_1, hcz17_2, hcz17_3, hcz17_4, hcz17_5, hcz17_6, hcz17_7, hcz17_8, hcz17_9, hcz17_10, hcz17_11, hcz17_12, hcz17_13⟩ := cells14 BK1728.out; obtain ⟨hfz17_0, hfz17_1, hfz17_2, hfz17_3, hfz17_4, hfz17_5, hfz17_6, hfz17_7, hfz17_8, hfz17_9, hfz17_10, hfz17_11, hfz17_12, hfz17_13⟩ := frozens14 BK1728.out) | ((with_reducible refine gate_callee (f := 88) rfl ?_); refine goesL_ (some 16) rfl rfl Try.func88 (by kernel_rfl) rfl #[.slice Ao10 l0_10.length co10, .int .i64 t1731] rfl (by (try simp only [List.map_toArray, List.map_cons, List.map_nil]); first | done | rfl | (simp only [List.length_drop, List.length_take]; rfl)) ?_; (with_reducible refine (laws_markTxS.calls k (fun k_ => some k_ = (.slice Ao10 l0_10.length co10 : Value).ownBlock) (.slice Ao10 l0_10.length co10) l0_10 t1731 t1734 t1735 w0 _ ?side1 ?side2 A5.out).mono ?_); (case side1 => repeat (first | (with_reducible first | exact HB.out | apply below_alloc | apply pw_below_drewN | apply below_drew1 | refine below_set ?_ GE1728.out) | exact HB.out)); (case side2 => exact Kd.R_tight rfl HO0_10.out); rintro e w18 ⟨rfl, hy0, hb, hkp⟩; refine ⟨_, rfl, ?_⟩; have n0_ := Aside0.mk (Kd.R_mono (ok' := fun k_ => ((P0_6_ k_ ∨ P0_8_ k_ ∨ P0_9_ k_ ∨ P0_10_ k_ ∨ P0_12_ k_) ∨ w.heap.size ≤ k_) ∧ some k_ ≠ (.slice Ao8 l0_8.length co8 : Value).ownBlock) (Kd.R_keptB ((Kd.R_apart' HO0_6.out (Kd.R_typed HO0_10.out) (by decide))) hkp (fun k_ hk_ hs_ => (hk_.2) hs_)) (fun k_ hk_ => ⟨hk_.1.1.1, hk_.1.1.2⟩)); have n1_ := Aside0.mk (Kd.R_mono (ok' := fun k_ => ((P0_6_ k_ ∨ P0_8_ k_ ∨ P0_9_ k_ ∨ P0_10_ k_ ∨ P0_12_ k_) ∨ w.heap.size ≤ k_) ∧ some k_ ≠ (.slice Ao7 l0_6.length co7 : Value).ownBlock) (Kd.R_keptB ((Kd.R_apart' HO0_8.out (Kd.R_typed HO0_10.out) (by decide))) hkp (fun k_ hk_ hs_ => (hk_.2) hs_)) (fun k_ hk_ => ⟨hk_.1.1.1, hk_.1.1.2⟩)); have n2_ := Aside0.mk (Kd.R_mono (ok' := fun k_ => ((P0_6_ k_ ∨ P0_8_ k_ ∨ P0_9_ k_ ∨ P0_10_ k_ ∨ P0_12_ k_) ∨ w.heap.size ≤ k_)) (Kd.R_keptB ((Kd.R_apart' HO0_9.out (Kd.R_typed HO0_10.out) (by decide))) hkp (fun k_ hk_ hs_ => (hk_.2) hs_)) (fun k_ hk_ => hk_.1.1)); have n3_ := Aside0.mk (Kd.R_reok rfl hy0 (fun k_ e_ => HO0_10.out.1 k_ e_)); have n4_ := Aside0.mk (Kd.R_mono (ok' := fun k_ => ((P0_6_ k_ ∨ P0_8_ k_ ∨ P0_9_ k_ ∨ P0_10_ k_ ∨ P0_12_ k_) ∨ w.heap.size ≤ k_)) (Kd.R_keptB ((Kd.R_apart' HO0_12.out (Kd.R_typed HO0_10.out) (by decide))) hkp (fun k_ hk_ hs_ => (hk_.2) hs_)) (fun k_ hk_ => hk_.1.1)); have n5_ := Aside0.mk (blk_kept (by (with_reducible repeat (first | refine blk_drewN ?_ _ | refine blk_drew ?_ | refine blk_alloc ?_ _)); exact BK1728.out) hkp (fun hs_ => (fun e_ => (Kd.R_ne HO0_10.out BK1728.out (by decide)) e_) hs_)); have n6_ := Aside0.mk (Kept.then_ (S := (fun k_ => P0_6_ k_ ∨ P0_8_ k_ ∨ P0_9_ k_ ∨ P0_10_ k_ ∨ P0_12_ k_)) (by repeat (first | (with_reducible first | exact HK.out | apply Kept.alloc | apply Kept.drewN | apply Kept.drew | refine Kept.setCell ?_ (.inr GW1728.out) _) | exact HK.out)) hkp (fun k_ hs_ => (fun e_ => (HO0_10.out.1 k_ e_.symm)) hs_)); have n7_ := Aside0.mk (hb); clear HO0_6; clear HO0_8; clear HO0_9; clear HO0_10; clear HO0_12; clear BK1728; clear HK; clear HB; have HO0_6 := n0_; have HO0_8 := n1_; have HO0_9 := n2_; have HO0_10 := n3_; have HO0_12 := n4_; have BK1728 := n5_; have HK := n6_; have HB := n7_; clear n0_ n1_ n2_ n3_ n4_ n5_ n6_ n7_; (try clear hb); (try clear hkp); (try clear hy0); obtain ⟨hcz19_0, hcz19_1, hcz19_2, hcz19_3, hcz19_4, hcz19_5, hcz19_6, hcz19_7, hcz19_8, hcz19_9, hcz19_10, hcz19_11, hcz19_12, hcz19_13⟩ := cells14 BK1728.out; obtain ⟨hfz19_0, hfz19_1, hfz19_2, hfz19_3, hfz19_4, hfz19_5, hfz19_6, hfz19_7, hfz19_8, hfz19_9, hfz19_10, hfz19_11, hfz19_12, hfz19_13⟩ := frozens14 BK1728.out) | ((with_reducible refine gate_callee (f := 44) rfl ?_); refine goesL_ (some 20) rfl rfl Try.func44 (by kernel_rfl) rfl #[.slice Ao11 l0_12.length co11, .int .i64 t1734] rfl (by (try simp only [List.map_toArray, List.map_cons, List.map_nil]); first | done | rfl | (simp only [List.length_drop, List.length_take]; rfl)) ?_; (with_reducible refine (laws_markValS.calls k (fun k_ => some k_ = (.slice Ao11 l0_12.length co11 : Value).ownBlock) (.slice Ao11 l0_12.length co11) l0_12 t1734 t1736 t1737 w0 _ ?side1 ?side2 A6.out).mono ?_); (case side1 => repeat (first | (with_reducible first | exact HB.out | apply below_alloc | apply pw_below_drewN | apply below_drew1 | refine below_set ?_ GE1728.out) | exact HB.out)); (case side2 => exact Kd.R_tight rfl HO0_12.out); rintro e w20 ⟨rfl, hy0, hb, hkp⟩; refine ⟨_, rfl, ?_⟩; have n0_ := Aside0.mk (Kd.R_mono (ok' := fun k_ => ((P0_6_ k_ ∨ P0_8_ k_ ∨ P0_9_ k_ ∨ P0_10_ k_ ∨ P0_12_ k_) ∨ w.heap.size ≤ k_) ∧ some k_ ≠ (.slice Ao8 l0_8.length co8 : Value).ownBlock) (Kd.R_keptB ((Kd.R_apart' HO0_6.out (Kd.R_typed HO0_12.out) (by decide))) hkp (fun k_ hk_ hs_ => (hk_.2) hs_)) (fun k_ hk_ => ⟨hk_.1.1.1, hk_.1.1.2⟩)); have n1_ := Aside0.mk (Kd.R_mono (ok' := fun k_ => ((P0_6_ k_ ∨ P0_8_ k_ ∨ P0_9_ k_ ∨ P0_10_ k_ ∨ P0_12_ k_) ∨ w.heap.size ≤ k_) ∧ some k_ ≠ (.slice Ao7 l0_6.length co7 : Value).ownBlock) (Kd.R_keptB ((Kd.R_apart' HO0_8.out (Kd.R_typed HO0_12.out) (by decide))) hkp (fun k_ hk_ hs_ => (hk_.2) hs_)) (fun k_ hk_ => ⟨hk_.1.1.1, hk_.1.1.2⟩)); have n2_ := Aside0.mk (Kd.R_mono (ok' := fun k_ => ((P0_6_ k_ ∨ P0_8_ k_ ∨ P0_9_ k_ ∨ P0_10_ k_ ∨ P0_12_ k_) ∨ w.heap.size ≤ k_)) (Kd.R_keptB ((Kd.R_apart' HO0_9.out (Kd.R_typed HO0_12.out) (by decide))) hkp (fun k_ hk_ hs_ => (hk_.2) hs_)) (fun k_ hk_ => hk_.1.1)); have n3_ := Aside0.mk (Kd.R_mono (ok' := fun k_ => ((P0_6_ k_ ∨ P0_8_ k_ ∨ P0_9_ k_ ∨ P0_10_ k_ ∨ P0_12_ k_) ∨ w.heap.size ≤ k_)) (Kd.R_keptB ((Kd.R_apart' HO0_10.out (Kd.R_typed HO0_12.out) (by decide))) hkp (fun k_ hk_ hs_ => (hk_.2) hs_)) (fun k_ hk_ => hk_.1.1)); have n4_ := Aside0.mk (Kd.R_reok rfl hy0 (fun k_ e_ => HO0_12.out.1 k_ e_)); have n5_ := Aside0.mk (blk_kept (by (with_reducible repeat (first | refine blk_drewN ?_ _ | refine blk_drew ?_ | refine blk_alloc ?_ _)); exact BK1728.out) hkp (fun hs_ => (fun e_ => (Kd.R_ne HO0_12.out BK1728.out (by decide)) e_) hs_)); have n6_ := Aside0.mk (Kept.then_ (S := (fun k_ => P0_6_ k_ ∨ P0_8_ k_ ∨ P0_9_ k_ ∨ P0_10_ k_ ∨ P0_12_ k_)) (by repeat (first | (with_reducible first | exact HK.out | apply Kept.alloc | apply Kept.drewN | apply Kept.drew | refine Kept.setCell ?_ (.inr GW1728.out) _) | exact HK.out)) hkp (fun k_ hs_ => (fun e_ => (HO0_12.out.1 k_ e_.symm)) hs_)); have n7_ := Aside0.mk (hb); clear HO0_6; clear HO0_8; clear HO0_9; clear HO0_10; clear HO0_12; clear BK1728; clear HK; clear HB; have HO0_6 := n0_; have HO0_8 := n1_; have HO0_9 := n2_; have HO0_10 := n3_; have HO0_12 := n4_; have BK1728 := n5_; have HK := n6_; have HB := n7_; clear n0_ n1_ n2_ n3_ n4_ n5_ n6_ n7_; (try clear hb); (try clear hkp); (try clear hy0)))
  go_ret
  exact ⟨by first | rfl | (simp [errW_none, errW_some] <;> rfl) | (simp [*, errW_none, errW_some] <;> rfl), by (with_reducible repeat (first | apply Kd.R_alloc | apply Kd.R_drewN | apply Kd.R_drew)); exact Kd.R_mono HO0_6.out (fun _ hk => hk.1), by (with_reducible repeat (first | apply Kd.R_alloc | apply Kd.R_drewN | apply Kd.R_drew)); exact Kd.R_mono HO0_8.out (fun _ hk => hk.1), by (with_reducible repeat (first | apply Kd.R_alloc | apply Kd.R_drewN | apply Kd.R_drew)); exact HO0_9.out, by (with_reducible repeat (first | apply Kd.R_alloc | apply Kd.R_drewN | apply Kd.R_drew)); exact HO0_10.out, by (with_reducible repeat (first | apply Kd.R_alloc | apply Kd.R_drewN | apply Kd.R_drew)); exact HO0_12.out, by repeat (first | (with_reducible first | exact HB.out | apply below_alloc | apply pw_below_drewN | apply below_drew1 | refine below_set ?_ GE1728.out) | exact HB.out), by repeat (first | (with_reducible first | exact HK.out | apply Kept.alloc | apply Kept.drewN | apply Kept.drew | refine Kept.setCell ?_ (.inr GW1728.out) _) | exact HK.out)⟩

end Go.Proofs.Ytadkhkpchankjaa.F
