/-
Functions of the program, what they come to, and that Go comes to just that: laws_szStringS, laws_szQc, laws_szIntS, laws_szTc, laws_szBlock, laws_toStringS, laws_toQc, zlong_Qc, laws_toIntS, laws_toTc, zlong_Tc, laws_toBlock, zlong_Block, laws_markBlock.
Conditions: those that each theorem names.
-/
import Derived.Test.YtadkhkpchankjaaFAbs
import Derived.Test.YtadkhkpchankjaaF42
import Derived.Test.YtadkhkpchankjaaF45
import Derived.Test.YtadkhkpchankjaaF48
import Derived.Test.YtadkhkpchankjaaF54
import Derived.Test.YtadkhkpchankjaaF60
import Derived.Test.YtadkhkpchankjaaF61
import Derived.Test.YtadkhkpchankjaaF67
import Derived.Test.YtadkhkpchankjaaWApart
import Derived.Test.YtadkhkpchankjaaWKept
import Derived.Test.YtadkhkpchankjaaWMore
import Derived.Test.YtadkhkpchankjaaMark
import Derived.Test.YtadkhkpchankjaaFam
set_option linter.unusedVariables false
set_option linter.unusedSimpArgs false
namespace Go.Proofs.Ytadkhkpchankjaa.F
open Go.RowKit Go.Proofs.YtadkhkpchankjaaW.PrintWords Go.Proofs.YtadkhkpchankjaaW.PrintLast Go.Proofs.Ytadkhkpchankjaa.Base Go.Proofs.Ytadkhkpchankjaa.BW
open Go.Proofs.Ytadkhkpchankjaa.Mark
open Go.Proofs.Ytadkhkpchankjaa.FamW
open Go.Proofs.YtadkhkpchankjaaW.PrintMore
attribute [local go_sem] max2_int min2_int max_two min_two max_three min_three max_four min_four   -- for this text's walks alone

/-! ### laws_szStringS: printed by compact.py -/
set_option maxHeartbeats 1000000 in
set_option maxRecDepth 100000 in
theorem laws_szStringS.does {xs : List ByteArray} {left : Int} (hw : (fun l : List ByteArray => l.length ≤ maxLen ∧ ∀ x ∈ l, (fun s : ByteArray => s.size ≤ maxLen) x) xs) (h0 : 0 ≤ left) (h1 : left ≤ 1048576) {B : Option Addr} {c : Nat} {w : World} (hr : Kd.C Kd.string w B xs.length xs) (hc : xs.length ≤ c) :
    Calls Try.prog 192 #[.slice B xs.length c, .int .i64 left] w fun e w' => e = .returned (.int .i64 (szR ((xs.length : Int) + sums (fun x : ByteArray => (x.size : Int)) xs) left)) ∧ Below w.heap.size w w' := by
  have hlen : (xs.length : Int) ≤ 9223372036854775807 := by have h := hw.1; have : maxLen = 9223372036854775807 := rfl; omega
  have hnn := sums_nn (h := (fun x : ByteArray => (x.size : Int))) (fun x => Int.natCast_nonneg _) xs
  obtain ⟨r, hR⟩ : ∃ r, szR ((xs.length : Int) + sums (fun x : ByteArray => (x.size : Int)) xs) left = r := ⟨_, rfl⟩
  rw [hR]
  by_cases c0 : (xs.length : Int) ≤ left
  rotate_left
  · have H0 : r = -1 := hR ▸ szR_no (by omega)
    have c0' : decide (left - (xs.length : Int) < 0) = true := decide_eq_true (by omega)
    clear hw hr hc hR c0 hnn
    subst H0
    go_enter Try.func192, Try.ntmps192
    go_wp2
    go_ret
    exact ⟨rfl, Below.refl _ _⟩
  have c0' : decide (left - (xs.length : Int) < 0) = false := decide_eq_false (by omega)
  have HT := Aside0.mk (sz_first (h := (fun x : ByteArray => (x.size : Int))) (fun x => Int.natCast_nonneg _) hR c0)
  have HR := Aside0.mk hr
  have HW := Aside0.mk hw.2
  have hb0 : left - (xs.length : Int) ≤ 1048576 := by omega
  have hb1 : 0 ≤ left - (xs.length : Int) := by omega
  clear hw hr hR hnn
  go_enter Try.func192, Try.ntmps192
  go_wp2
  go_loopg [1, 5] xs.length (fun g v1 v5 w' => ∃ (s i : Int) (e : On w), v1 = .int .i64 s ∧ v5 = .int .i64 i ∧ w' = e.now ∧ 0 ≤ i ∧ i ≤ xs.length ∧ 0 ≤ s ∧ s ≤ 1048576 ∧ Aside0 ((xs.length : Int) - i ≤ g) ∧ Aside0 (szR (sums (fun x : ByteArray => (x.size : Int)) (xs.drop i.toNat)) s = r))
  case atStart => exact ⟨_, 0, On.here w, rfl, rfl, rfl, Int.le_refl _, by omega, hb1, hb0, ⟨by omega⟩, HT⟩
  case round =>
    clear HT c0 hb0 hb1 c0' h0 h1
    obtain ⟨s, i, e, rfl, rfl, rfl, hi0, hi1, hs0, hs1, HG, HT⟩ := hrel
    by_cases c1 : i < (xs.length : Int)
    rotate_left
    · have HF := Aside0.mk (sz_end (by omega) hs0 HT.out)
      go_wp2
      go_ret
      exact ⟨by obtain rfl := HF.out; rfl, e.ok⟩
    obtain ⟨ad, e1, h0⟩ := Kd.at_string HR.out i hi0 c1
    cases e1
    have R0 := On.cell h0
    obtain ⟨y, hy⟩ : ∃ y, rdOf ByteArray.empty xs i = y := ⟨_, rfl⟩
    have hz : xs.getD i.toNat ByteArray.empty = y := hy
    have hys : (y.size : Int) ≤ 9223372036854775807 := by have h := HW.out y (by rw [← hz]; exact getD_mem (by omega) _); have : maxLen = 9223372036854775807 := rfl; omega
    simp only [hy] at R0
    clear h0 hy
    by_cases c2 : (y.size : Int) ≤ s
    rotate_left
    · have H1 := Aside0.mk (sz_over (z := ByteArray.empty) (fun x => Int.natCast_nonneg _) hi0 c1 HT.out (by rw [hz]; omega))
      have c2' : decide (s - (y.size : Int) < 0) = true := decide_eq_true (by omega)
      clear hz c2
      go_wp2
      go_ret
      exact ⟨by obtain rfl := H1.out; rfl, e.ok⟩
    have H1 := Aside0.mk (sz_next (z := ByteArray.empty) (fun x => Int.natCast_nonneg _) hi0 c1 hs0 HT.out (by rw [hz]; omega))
    rw [hz] at H1
    have c2' : decide (s - (y.size : Int) < 0) = false := decide_eq_false (by omega)
    have hq : 0 ≤ s - (y.size : Int) := by omega
    have hq2 : s - (y.size : Int) ≤ 1048576 := by omega
    clear hz c2
    go_wp2
    go_roundg (xs.length - i.toNat - 1)
    case measure => have := HG.out; omega
    case rel => exact ⟨_, i + 1, e, rfl, rfl, rfl, by omega, by omega, hq, hq2, ⟨by omega⟩, H1⟩

/-! ### laws_szQc: printed by compact.py -/
/-- How much a value of struct type 105 holds. -/
def hold105 (x : S105) : Int := ((x.f2.length : Int) + sums (fun x : ByteArray => (x.size : Int)) x.f2) + (0)
theorem hold105.nn (x : S105) : 0 ≤ hold105 x := by
  unfold hold105
  have n2 := (show 0 ≤ ((x.f2.length : Int) + sums (fun x : ByteArray => (x.size : Int)) x.f2) from (Int.add_nonneg (Int.natCast_nonneg _) (sums_nn (fun x => Int.natCast_nonneg _) x.f2)))
  omega
set_option maxHeartbeats 2000000 in
set_option maxRecDepth 100000 in
theorem laws_szQc.does {x : S105} {left : Int} (hw : w105 x) (h0 : 0 ≤ left) (h1 : left ≤ 1048576) {cs : List Value} {w : World} (hK : k105.K w x cs) :
    Calls Try.prog 149 #[.agg cs.toArray, .int .i64 left] w fun e w' => e = .returned (.int .i64 (szR (hold105 x) left)) ∧ Below w.heap.size w w' := by
  have HK := Aside0.mk hK
  obtain ⟨A2, a2, rfl, l2, g2⟩ := k105_open hK
  obtain ⟨r, hR⟩ : ∃ r, szR (hold105 x) left = r := ⟨_, rfl⟩
  rw [hR]
  unfold hold105 at hR
  have n2 : 0 ≤ ((x.f2.length : Int) + sums (fun x : ByteArray => (x.size : Int)) x.f2) := (Int.add_nonneg (Int.natCast_nonneg _) (sums_nn (fun x => Int.natCast_nonneg _) x.f2))
  have E2 := Aside0.mk (fun (W : World) (s : Int) (hb : Below w.heap.size w W) (q0 : 0 ≤ s) (q1 : s ≤ 1048576) => laws_szStringS.does (w := W) hw.2.2 q0 q1 (Kd.C_below g2 hb) l2)
  generalize ((x.f2.length : Int) + sums (fun x : ByteArray => (x.size : Int)) x.f2) = m2 at hR n2 E2
  clear hw hK l2 g2
  have HR := Aside0.mk hR
  clear hR
  have HB := Aside0.mk (Below.refl w.heap.size w)
  go_enter Try.func149, Try.ntmps149
  by_cases d2 : m2 ≤ left
  rotate_left
  · have H1 : Aside0 (r = -1) := ⟨HR.out ▸ szR_no (by omega)⟩
    have E := Aside0.mk (fun (W : World) hb => E2.out W (left) hb (by omega) (by omega))
    rw [szR_no (by omega)] at E
    clear d2 HR
    go_wp2_with fail
    refine (E.out _ (atop HB.out)).mono ?_
    rintro _ W1 ⟨rfl, hb⟩
    replace HB := Aside0.mk (then_ HB.out (off1 hb))
    clear hb
    go_wp2
    go_ret
    exact ⟨by obtain rfl := H1.out; rfl, HB.out⟩
  have F2 := Aside0.mk (fun (W : World) hb => E2.out W (left) hb (by omega) (by omega))
  rw [szR_ge d2] at F2
  replace HR := Aside0.mk ((sz_part d2).symm.trans HR.out)
  have c_2 : decide (left - m2 < 0) = false := decide_eq_false (by omega)
  have p_2 : 0 ≤ left - m2 := by omega
  have q_2 : left - m2 ≤ 1048576 := by omega
  clear d2 E2
  go_wp2_with fail
  refine (F2.out _ (atop HB.out)).mono ?_
  rintro _ W2 ⟨rfl, hb⟩
  have BX := Aside0.mk (box hb)
  replace HB := Aside0.mk (then_ HB.out (off1 hb))
  clear hb F2
  have H1 := Aside0.mk (HR.out.symm.trans (szR_zero (by omega)))
  obtain ⟨b0, b1, b2⟩ := cells3 BX.out
  clear HR
  go_wp2
  go_ret
  exact ⟨by obtain rfl := H1.out; rfl, HB.out⟩

/-! ### laws_szIntS: printed by compact.py -/
set_option maxHeartbeats 1000000 in
set_option maxRecDepth 100000 in
theorem laws_szIntS.does {xs : List Int} {left : Int} (hw : (fun l : List Int => l.length ≤ maxLen ∧ ∀ x ∈ l, (fun n : Int => (Lit.int .i64 n).wf = true) x) xs) (h0 : 0 ≤ left) (h1 : left ≤ 1048576) {B : Option Addr} {c : Nat} {w : World} (hr : Kd.C (Kd.int .i64) w B xs.length xs) (hc : xs.length ≤ c) :
    Calls Try.prog 193 #[.slice B xs.length c, .int .i64 left] w fun e w' => e = .returned (.int .i64 (szR (xs.length : Int) left)) ∧ Below w.heap.size w w' := by
  have hlen : (xs.length : Int) ≤ 9223372036854775807 := by have h := hw.1; have : maxLen = 9223372036854775807 := rfl; omega
  obtain ⟨r, hR⟩ : ∃ r, szR (xs.length : Int) left = r := ⟨_, rfl⟩
  rw [hR]
  by_cases c0 : (xs.length : Int) ≤ left
  rotate_left
  · have H0 : r = -1 := hR ▸ szR_no (by omega)
    have c0' : decide (left - (xs.length : Int) < 0) = true := decide_eq_true (by omega)
    clear hw hr hc hR c0
    subst H0
    go_enter Try.func193, Try.ntmps193
    go_wp2
    go_ret
    exact ⟨rfl, Below.refl _ _⟩
  have c0' : decide (left - (xs.length : Int) < 0) = false := decide_eq_false (by omega)
  have H0 : r = left - (xs.length : Int) := hR ▸ szR_ge c0
  have H1 := Aside0.mk H0
  clear hw hr hc hR c0 H0
  go_enter Try.func193, Try.ntmps193
  go_wp2
  go_ret
  exact ⟨by obtain rfl := H1.out; rfl, Below.refl _ _⟩

/-! ### laws_szTc: printed by compact.py -/
/-- How much a value of struct type 106 holds. -/
def hold106 (x : S106) : Int := ((x.f1.length : Int) + sums (fun x : ByteArray => (x.size : Int)) x.f1) + ((x.f2.length : Int) + (0))
theorem hold106.nn (x : S106) : 0 ≤ hold106 x := by
  unfold hold106
  have n1 := (show 0 ≤ ((x.f1.length : Int) + sums (fun x : ByteArray => (x.size : Int)) x.f1) from (Int.add_nonneg (Int.natCast_nonneg _) (sums_nn (fun x => Int.natCast_nonneg _) x.f1)))
  have n2 := (show 0 ≤ (x.f2.length : Int) from (Int.natCast_nonneg _))
  omega
set_option maxHeartbeats 2000000 in
set_option maxRecDepth 100000 in
theorem laws_szTc.does {x : S106} {left : Int} (hw : w106 x) (h0 : 0 ≤ left) (h1 : left ≤ 1048576) {cs : List Value} {w : World} (hK : k106.K w x cs) :
    Calls Try.prog 150 #[.agg cs.toArray, .int .i64 left] w fun e w' => e = .returned (.int .i64 (szR (hold106 x) left)) ∧ Below w.heap.size w w' := by
  have HK := Aside0.mk hK
  obtain ⟨A1, a1, A2, a2, rfl, l1, g1, l2, g2⟩ := k106_open hK
  obtain ⟨r, hR⟩ : ∃ r, szR (hold106 x) left = r := ⟨_, rfl⟩
  rw [hR]
  unfold hold106 at hR
  have n1 : 0 ≤ ((x.f1.length : Int) + sums (fun x : ByteArray => (x.size : Int)) x.f1) := (Int.add_nonneg (Int.natCast_nonneg _) (sums_nn (fun x => Int.natCast_nonneg _) x.f1))
  have E1 := Aside0.mk (fun (W : World) (s : Int) (hb : Below w.heap.size w W) (q0 : 0 ≤ s) (q1 : s ≤ 1048576) => laws_szStringS.does (w := W) hw.2.1 q0 q1 (Kd.C_below g1 hb) l1)
  have n2 : 0 ≤ (x.f2.length : Int) := (Int.natCast_nonneg _)
  have E2 := Aside0.mk (fun (W : World) (s : Int) (hb : Below w.heap.size w W) (q0 : 0 ≤ s) (q1 : s ≤ 1048576) => laws_szIntS.does (w := W) hw.2.2 q0 q1 (Kd.C_below g2 hb) l2)
  generalize ((x.f1.length : Int) + sums (fun x : ByteArray => (x.size : Int)) x.f1) = m1 at hR n1 E1
  generalize (x.f2.length : Int) = m2 at hR n2 E2
  clear hw hK l1 g1 l2 g2
  have HR := Aside0.mk hR
  clear hR
  have HB := Aside0.mk (Below.refl w.heap.size w)
  go_enter Try.func150, Try.ntmps150
  by_cases d1 : m1 ≤ left
  rotate_left
  · have H1 : Aside0 (r = -1) := ⟨HR.out ▸ szR_no (by omega)⟩
    have E := Aside0.mk (fun (W : World) hb => E1.out W (left) hb (by omega) (by omega))
    rw [szR_no (by omega)] at E
    clear d1 HR
    go_wp2_with fail
    refine (E.out _ (atop HB.out)).mono ?_
    rintro _ W1 ⟨rfl, hb⟩
    replace HB := Aside0.mk (then_ HB.out (off1 hb))
    clear hb
    go_wp2
    go_ret
    exact ⟨by obtain rfl := H1.out; rfl, HB.out⟩
  have F1 := Aside0.mk (fun (W : World) hb => E1.out W (left) hb (by omega) (by omega))
  rw [szR_ge d1] at F1
  replace HR := Aside0.mk ((sz_part d1).symm.trans HR.out)
  have c_1 : decide (left - m1 < 0) = false := decide_eq_false (by omega)
  have p_1 : 0 ≤ left - m1 := by omega
  have q_1 : left - m1 ≤ 1048576 := by omega
  clear d1 E1
  go_wp2_with fail
  refine (F1.out _ (atop HB.out)).mono ?_
  rintro _ W1 ⟨rfl, hb⟩
  have BX := Aside0.mk (box hb)
  replace HB := Aside0.mk (then_ HB.out (off1 hb))
  clear hb F1
  by_cases d2 : m2 ≤ left - m1
  rotate_left
  · have H1 : Aside0 (r = -1) := ⟨HR.out ▸ szR_no (by omega)⟩
    have E := Aside0.mk (fun (W : World) hb => E2.out W (left - m1) hb (by omega) (by omega))
    rw [szR_no (by omega)] at E
    obtain ⟨b0, b1, b2⟩ := cells3 BX.out
    clear d2 HR
    go_wp2_with fail
    refine (E.out _ HB.out).mono ?_
    rintro _ W1 ⟨rfl, hb⟩
    replace HB := Aside0.mk (then_ HB.out hb)
    clear hb
    go_wp2
    go_ret
    exact ⟨by obtain rfl := H1.out; rfl, HB.out⟩
  have F2 := Aside0.mk (fun (W : World) hb => E2.out W (left - m1) hb (by omega) (by omega))
  rw [szR_ge d2] at F2
  obtain ⟨b0, b1, b2⟩ := cells3 BX.out
  replace HR := Aside0.mk ((sz_part d2).symm.trans HR.out)
  have c_2 : decide (left - m1 - m2 < 0) = false := decide_eq_false (by omega)
  have p_2 : 0 ≤ left - m1 - m2 := by omega
  have q_2 : left - m1 - m2 ≤ 1048576 := by omega
  clear d2 E2
  go_wp2_with fail
  refine (F2.out _ HB.out).mono ?_
  rintro _ W2 ⟨rfl, hb⟩
  replace BX := Aside0.mk (blk_below BX.out hb)
  replace HB := Aside0.mk (then_ HB.out hb)
  clear b0 b1 b2
  clear hb F2
  have H1 := Aside0.mk (HR.out.symm.trans (szR_zero (by omega)))
  obtain ⟨b0, b1, b2⟩ := cells3 BX.out
  clear HR
  go_wp2
  go_ret
  exact ⟨by obtain rfl := H1.out; rfl, HB.out⟩

/-! ### laws_szBlock: printed by compact.py -/
/-- How much a value of struct type 109 holds. -/
def hold109 (x : S109) : Int := (x.f3.size : Int) + ((hold105 x.f4) + ((hold106 x.f5) + (((x.f6.length : Int) + sums hold191 x.f6) + (((x.f8.length : Int) + sums hold159 x.f8) + ((x.f9.size : Int) + (0))))))
theorem hold109.nn (x : S109) : 0 ≤ hold109 x := by
  unfold hold109
  have n3 := (show 0 ≤ (x.f3.size : Int) from (Int.natCast_nonneg _))
  have n4 := (show 0 ≤ (hold105 x.f4) from (hold105.nn x.f4))
  have n5 := (show 0 ≤ (hold106 x.f5) from (hold106.nn x.f5))
  have n6 := (show 0 ≤ ((x.f6.length : Int) + sums hold191 x.f6) from (Int.add_nonneg (Int.natCast_nonneg _) (sums_nn hold191.nn x.f6)))
  have n8 := (show 0 ≤ ((x.f8.length : Int) + sums hold159 x.f8) from (Int.add_nonneg (Int.natCast_nonneg _) (sums_nn hold159.nn x.f8)))
  have n9 := (show 0 ≤ (x.f9.size : Int) from (Int.natCast_nonneg _))
  omega
set_option maxHeartbeats 2000000 in
set_option maxRecDepth 100000 in
theorem laws_szBlock.does {x : S109} {left : Int} (hw : w109 x) (h0 : 0 ≤ left) (h1 : left ≤ 1048576) {cs : List Value} {w : World} (hK : k109.K w x cs) :
    Calls Try.prog 67 #[.agg cs.toArray, .int .i64 left] w fun e w' => e = .returned (.int .i64 (szR (hold109 x) left)) ∧ Below w.heap.size w w' := by
  have HK := Aside0.mk hK
  obtain ⟨A6, a6, A8, a8, A9, a9, A10, a10, A12, a12, rfl, l6, g6, l8, g8, l9, g9, l10, g10, l12, g12⟩ := k109_open hK
  obtain ⟨r, hR⟩ : ∃ r, szR (hold109 x) left = r := ⟨_, rfl⟩
  rw [hR]
  unfold hold109 at hR
  have n3 : 0 ≤ (x.f3.size : Int) := (Int.natCast_nonneg _)
  have z3 : (x.f3.size : Int) ≤ 9223372036854775807 := by have h := hw.2.2.2.1; have : maxLen = 9223372036854775807 := rfl; omega
  have n4 : 0 ≤ (hold105 x.f4) := (hold105.nn x.f4)
  have E4 := Aside0.mk (fun (W : World) (s : Int) (hb : Below w.heap.size w W) (q0 : 0 ≤ s) (q1 : s ≤ 1048576) => laws_szQc.does (w := W) hw.2.2.2.2.1 q0 q1 (k105_mk W x.f4 l6 (Kd.C_below g6 hb)))
  have n5 : 0 ≤ (hold106 x.f5) := (hold106.nn x.f5)
  have E5 := Aside0.mk (fun (W : World) (s : Int) (hb : Below w.heap.size w W) (q0 : 0 ≤ s) (q1 : s ≤ 1048576) => laws_szTc.does (w := W) hw.2.2.2.2.2.1 q0 q1 (k106_mk W x.f5 l8 (Kd.C_below g8 hb) l9 (Kd.C_below g9 hb)))
  have n6 : 0 ≤ ((x.f6.length : Int) + sums hold191 x.f6) := (Int.add_nonneg (Int.natCast_nonneg _) (sums_nn hold191.nn x.f6))
  have E6 := Aside0.mk (fun (W : World) (s : Int) (hb : Below w.heap.size w W) (q0 : 0 ≤ s) (q1 : s ≤ 1048576) => laws_szTxS.does (w := W) hw.2.2.2.2.2.2.1 q0 q1 (Kd.C_below g10 hb) l10)
  have n8 : 0 ≤ ((x.f8.length : Int) + sums hold159 x.f8) := (Int.add_nonneg (Int.natCast_nonneg _) (sums_nn hold159.nn x.f8))
  have E8 := Aside0.mk (fun (W : World) (s : Int) (hb : Below w.heap.size w W) (q0 : 0 ≤ s) (q1 : s ≤ 1048576) => laws_szValS.does (w := W) hw.2.2.2.2.2.2.2.2.1 q0 q1 (Kd.C_below g12 hb) l12)
  have n9 : 0 ≤ (x.f9.size : Int) := (Int.natCast_nonneg _)
  have z9 : (x.f9.size : Int) ≤ 9223372036854775807 := by have h := hw.2.2.2.2.2.2.2.2.2; have : maxLen = 9223372036854775807 := rfl; omega
  obtain ⟨m3, hm3⟩ : ∃ m : Int, m = (x.f3.size : Int) := ⟨_, rfl⟩
  generalize (hold105 x.f4) = m4 at hR n4 E4
  generalize (hold106 x.f5) = m5 at hR n5 E5
  generalize ((x.f6.length : Int) + sums hold191 x.f6) = m6 at hR n6 E6
  generalize ((x.f8.length : Int) + sums hold159 x.f8) = m8 at hR n8 E8
  obtain ⟨m9, hm9⟩ : ∃ m : Int, m = (x.f9.size : Int) := ⟨_, rfl⟩
  rw [← hm3] at hR n3 z3
  rw [← hm9] at hR n9 z9
  clear hw hK l6 g6 l8 g8 l9 g9 l10 g10 l12 g12
  have HR := Aside0.mk hR
  clear hR
  have HM3 := Aside0.mk hm3
  clear hm3
  have HM9 := Aside0.mk hm9
  clear hm9
  have HB := Aside0.mk (Below.refl w.heap.size w)
  go_enter Try.func67, Try.ntmps67
  by_cases d3 : m3 ≤ left
  rotate_left
  · have H1 : Aside0 (r = -1) := ⟨HR.out ▸ szR_no (by omega)⟩
    have c_ : decide (left - ((x.f3.size : Int) : Int) < 0) = true := decide_eq_true (by have := HM3.out; omega)
    have z_ : (x.f3.size : Int) ≤ 9223372036854775807 := by have := HM3.out; omega
    clear d3 HR
    go_wp2
    go_ret
    exact ⟨by obtain rfl := H1.out; rfl, atop HB.out⟩
  replace HR := Aside0.mk ((sz_part d3).symm.trans HR.out)
  have HN3 := HM3.out
  subst HN3
  clear HM3
  have c_3 : decide (left - ((x.f3.size : Int)) < 0) = false := decide_eq_false (by omega)
  have p_3 : 0 ≤ left - (x.f3.size : Int) := by omega
  have q_3 : left - (x.f3.size : Int) ≤ 1048576 := by omega
  clear d3
  by_cases d4 : m4 ≤ left - (x.f3.size : Int)
  rotate_left
  · have H1 : Aside0 (r = -1) := ⟨HR.out ▸ szR_no (by omega)⟩
    have E := Aside0.mk (fun (W : World) hb => E4.out W (left - (x.f3.size : Int)) hb (by omega) (by omega))
    rw [szR_no (by omega)] at E
    clear d4 HR
    go_wp2_with fail
    refine (E.out _ (atop HB.out)).mono ?_
    rintro _ W1 ⟨rfl, hb⟩
    replace HB := Aside0.mk (then_ HB.out (off1 hb))
    clear hb
    go_wp2
    go_ret
    exact ⟨by obtain rfl := H1.out; rfl, HB.out⟩
  have F4 := Aside0.mk (fun (W : World) hb => E4.out W (left - (x.f3.size : Int)) hb (by omega) (by omega))
  rw [szR_ge d4] at F4
  replace HR := Aside0.mk ((sz_part d4).symm.trans HR.out)
  have c_4 : decide (left - (x.f3.size : Int) - m4 < 0) = false := decide_eq_false (by omega)
  have p_4 : 0 ≤ left - (x.f3.size : Int) - m4 := by omega
  have q_4 : left - (x.f3.size : Int) - m4 ≤ 1048576 := by omega
  clear d4 E4
  go_wp2_with fail
  refine (F4.out _ (atop HB.out)).mono ?_
  rintro _ W4 ⟨rfl, hb⟩
  have BX := Aside0.mk (box hb)
  replace HB := Aside0.mk (then_ HB.out (off1 hb))
  clear hb F4
  by_cases d5 : m5 ≤ left - (x.f3.size : Int) - m4
  rotate_left
  · have H1 : Aside0 (r = -1) := ⟨HR.out ▸ szR_no (by omega)⟩
    have E := Aside0.mk (fun (W : World) hb => E5.out W (left - (x.f3.size : Int) - m4) hb (by omega) (by omega))
    rw [szR_no (by omega)] at E
    obtain ⟨b0, b1, b2, b3, b4, b5, b6, b7, b8, b9, b10, b11, b12, b13⟩ := cells14 BX.out
    clear d5 HR
    go_wp2_with fail
    refine (E.out _ HB.out).mono ?_
    rintro _ W1 ⟨rfl, hb⟩
    replace HB := Aside0.mk (then_ HB.out hb)
    clear hb
    go_wp2
    go_ret
    exact ⟨by obtain rfl := H1.out; rfl, HB.out⟩
  have F5 := Aside0.mk (fun (W : World) hb => E5.out W (left - (x.f3.size : Int) - m4) hb (by omega) (by omega))
  rw [szR_ge d5] at F5
  obtain ⟨b0, b1, b2, b3, b4, b5, b6, b7, b8, b9, b10, b11, b12, b13⟩ := cells14 BX.out
  replace HR := Aside0.mk ((sz_part d5).symm.trans HR.out)
  have c_5 : decide (left - (x.f3.size : Int) - m4 - m5 < 0) = false := decide_eq_false (by omega)
  have p_5 : 0 ≤ left - (x.f3.size : Int) - m4 - m5 := by omega
  have q_5 : left - (x.f3.size : Int) - m4 - m5 ≤ 1048576 := by omega
  clear d5 E5
  go_wp2_with fail
  refine (F5.out _ HB.out).mono ?_
  rintro _ W5 ⟨rfl, hb⟩
  replace BX := Aside0.mk (blk_below BX.out hb)
  replace HB := Aside0.mk (then_ HB.out hb)
  clear b0 b1 b2 b3 b4 b5 b6 b7 b8 b9 b10 b11 b12 b13
  clear hb F5
  by_cases d6 : m6 ≤ left - (x.f3.size : Int) - m4 - m5
  rotate_left
  · have H1 : Aside0 (r = -1) := ⟨HR.out ▸ szR_no (by omega)⟩
    have E := Aside0.mk (fun (W : World) hb => E6.out W (left - (x.f3.size : Int) - m4 - m5) hb (by omega) (by omega))
    rw [szR_no (by omega)] at E
    obtain ⟨b0, b1, b2, b3, b4, b5, b6, b7, b8, b9, b10, b11, b12, b13⟩ := cells14 BX.out
    clear d6 HR
    go_wp2_with fail
    refine (E.out _ HB.out).mono ?_
    rintro _ W1 ⟨rfl, hb⟩
    replace HB := Aside0.mk (then_ HB.out hb)
    clear hb
    go_wp2
    go_ret
    exact ⟨by obtain rfl := H1.out; rfl, HB.out⟩
  have F6 := Aside0.mk (fun (W : World) hb => E6.out W (left - (x.f3.size : Int) - m4 - m5) hb (by omega) (by omega))
  rw [szR_ge d6] at F6
  obtain ⟨b0, b1, b2, b3, b4, b5, b6, b7, b8, b9, b10, b11, b12, b13⟩ := cells14 BX.out
  replace HR := Aside0.mk ((sz_part d6).symm.trans HR.out)
  have c_6 : decide (left - (x.f3.size : Int) - m4 - m5 - m6 < 0) = false := decide_eq_false (by omega)
  have p_6 : 0 ≤ left - (x.f3.size : Int) - m4 - m5 - m6 := by omega
  have q_6 : left - (x.f3.size : Int) - m4 - m5 - m6 ≤ 1048576 := by omega
  clear d6 E6
  go_wp2_with fail
  refine (F6.out _ HB.out).mono ?_
  rintro _ W6 ⟨rfl, hb⟩
  replace BX := Aside0.mk (blk_below BX.out hb)
  replace HB := Aside0.mk (then_ HB.out hb)
  clear b0 b1 b2 b3 b4 b5 b6 b7 b8 b9 b10 b11 b12 b13
  clear hb F6
  by_cases d8 : m8 ≤ left - (x.f3.size : Int) - m4 - m5 - m6
  rotate_left
  · have H1 : Aside0 (r = -1) := ⟨HR.out ▸ szR_no (by omega)⟩
    have E := Aside0.mk (fun (W : World) hb => E8.out W (left - (x.f3.size : Int) - m4 - m5 - m6) hb (by omega) (by omega))
    rw [szR_no (by omega)] at E
    obtain ⟨b0, b1, b2, b3, b4, b5, b6, b7, b8, b9, b10, b11, b12, b13⟩ := cells14 BX.out
    clear d8 HR
    go_wp2_with fail
    refine (E.out _ HB.out).mono ?_
    rintro _ W1 ⟨rfl, hb⟩
    replace HB := Aside0.mk (then_ HB.out hb)
    clear hb
    go_wp2
    go_ret
    exact ⟨by obtain rfl := H1.out; rfl, HB.out⟩
  have F8 := Aside0.mk (fun (W : World) hb => E8.out W (left - (x.f3.size : Int) - m4 - m5 - m6) hb (by omega) (by omega))
  rw [szR_ge d8] at F8
  obtain ⟨b0, b1, b2, b3, b4, b5, b6, b7, b8, b9, b10, b11, b12, b13⟩ := cells14 BX.out
  replace HR := Aside0.mk ((sz_part d8).symm.trans HR.out)
  have c_8 : decide (left - (x.f3.size : Int) - m4 - m5 - m6 - m8 < 0) = false := decide_eq_false (by omega)
  have p_8 : 0 ≤ left - (x.f3.size : Int) - m4 - m5 - m6 - m8 := by omega
  have q_8 : left - (x.f3.size : Int) - m4 - m5 - m6 - m8 ≤ 1048576 := by omega
  clear d8 E8
  go_wp2_with fail
  refine (F8.out _ HB.out).mono ?_
  rintro _ W8 ⟨rfl, hb⟩
  replace BX := Aside0.mk (blk_below BX.out hb)
  replace HB := Aside0.mk (then_ HB.out hb)
  clear b0 b1 b2 b3 b4 b5 b6 b7 b8 b9 b10 b11 b12 b13
  clear hb F8
  by_cases d9 : m9 ≤ left - (x.f3.size : Int) - m4 - m5 - m6 - m8
  rotate_left
  · have H1 : Aside0 (r = -1) := ⟨HR.out ▸ szR_no (by omega)⟩
    have c_ : decide (left - (x.f3.size : Int) - m4 - m5 - m6 - m8 - ((x.f9.size : Int) : Int) < 0) = true := decide_eq_true (by have := HM9.out; omega)
    obtain ⟨b0, b1, b2, b3, b4, b5, b6, b7, b8, b9, b10, b11, b12, b13⟩ := cells14 BX.out
    have z_ : (x.f9.size : Int) ≤ 9223372036854775807 := by have := HM9.out; omega
    clear d9 HR
    go_wp2
    go_ret
    exact ⟨by obtain rfl := H1.out; rfl, HB.out⟩
  replace HR := Aside0.mk ((sz_part d9).symm.trans HR.out)
  have HN9 := HM9.out
  subst HN9
  clear HM9
  have c_9 : decide (left - (x.f3.size : Int) - m4 - m5 - m6 - m8 - ((x.f9.size : Int)) < 0) = false := decide_eq_false (by omega)
  have p_9 : 0 ≤ left - (x.f3.size : Int) - m4 - m5 - m6 - m8 - (x.f9.size : Int) := by omega
  have q_9 : left - (x.f3.size : Int) - m4 - m5 - m6 - m8 - (x.f9.size : Int) ≤ 1048576 := by omega
  clear d9
  have H1 := Aside0.mk (HR.out.symm.trans (szR_zero (by omega)))
  obtain ⟨b0, b1, b2, b3, b4, b5, b6, b7, b8, b9, b10, b11, b12, b13⟩ := cells14 BX.out
  clear HR
  go_wp2
  go_ret
  exact ⟨by obtain rfl := H1.out; rfl, HB.out⟩

/-! ### laws_toStringS: printed by compact.py -/
set_option maxHeartbeats 2000000 in
set_option maxRecDepth 100000 in
theorem laws_toStringS.make {xs : List ByteArray} (hs : (fun l : List ByteArray => l.length ≤ 1048576) xs) {B : Option Addr} {c : Nat} {w : World} (hr : Kd.C Kd.string w B xs.length xs) (hc : xs.length ≤ c) :
    Calls Try.prog 199 #[.slice B xs.length c] w fun e w' => ∃ v, e = .returned v ∧ Kd.R Kd.string 9 w' w.heap.size (fun _ => True) v xs ∧ Below w.heap.size w w' := by
  have hn : (xs.length : Int) ≤ 1048576 := by have := hs; omega
  have HR := Aside0.mk hr
  clear hr hs
  go_enter Try.func199, Try.ntmps199
  go_wp2_with (first | ((with_reducible refine gate_dst (N := 7) rfl ?_); refine Kd.R_make Kd.string w.heap.size 9 rfl (N := 7) rfl 25 _ _ rfl (xs.length : Int) rfl rfl Try.underlying25 (.string ⟨#[]⟩) 16 info9 rfl (by decide) (by decide) (⟨#[]⟩ : ByteArray) (ok := fun _ => True) (okp := fun _ => True) rfl (fun _ hk => hk) trivial (by omega) (by omega) (Below.refl _ _) (Nat.le_refl _) ?_; intro v w1 ho hb _ _; have HO := Aside0.mk (Eq.mp (congrArg (fun l => Kd.R Kd.string 9 w1 w.heap.size (fun _ => True) v l) (upto_zero (f := (fun x => x)) (z := (⟨#[]⟩ : ByteArray)) (xs := xs))) ho); have HB := Aside0.mk hb; clear ho hb))
  go_loopg [4] xs.length (fun g v4 w' => ∃ i : Int, v4 = .int .i64 i ∧ 0 ≤ i ∧ i ≤ xs.length ∧ Aside0 ((xs.length : Int) - i ≤ g) ∧ Aside0 (Kd.R Kd.string 9 w' w.heap.size (fun _ => True) v (upto (fun x => x) (⟨#[]⟩ : ByteArray) xs i)) ∧ Aside0 (Below w.heap.size w w'))
  case atStart => exact ⟨0, rfl, Int.le_refl _, by omega, ⟨by omega⟩, HO, HB⟩
  case round =>
    clear HO HB
    obtain ⟨i, rfl, hi0, hi1, HG, HO, HB⟩ := hrel
    by_cases c1 : i < (xs.length : Int)
    rotate_left
    · have H1 := HO.out
      rw [upto_all (by omega), List.map_id'] at H1
      have H2 := Aside0.mk H1
      clear H1
      go_wp2
      go_ret
      exact ⟨_, rfl, H2.out, HB.out⟩
    obtain ⟨gr, cap, hv, _, hlt, _⟩ := Kd.R_form HO.out (by rw [upto_len hi1]; omega)
    rw [upto_len hi1] at hv
    cases hv
    have HL := Aside0.mk hlt
    clear hlt
    obtain ⟨ad, e1, h0⟩ := Kd.at_string (Kd.C_below HR.out HB.out) i hi0 c1
    cases e1
    obtain ⟨y, hy⟩ : ∃ y, rdOf ByteArray.empty xs i = y := ⟨_, rfl⟩
    rw [hy] at h0
    have HY := Aside0.mk hy
    clear hy
    obtain ⟨c_, hcl, _, hcc, _⟩ := Kd.R_elem HO.out (⟨#[]⟩ : ByteArray) i hi0 c1
    go_wp2_with (first | ((with_reducible refine gate_ (.store 9 (.tmp 20) (.tmp 19)) rfl ?_); refine Kd.R_store Kd.string (w0 := w) w.heap.size rfl rfl 9 _ _ rfl 9 i 0 (upto (fun x => x) (⟨#[]⟩ : ByteArray) xs i) y _ [.string y] c_ (fun _ => True) (fun k => gr < k) rfl (by show i.toNat = i.toNat * 1 + 0; omega) rfl rfl (by kernel_rfl) (fun q hq => by rw [List.mem_singleton.1 hq]; rfl) HO.out hi0 c1 hcl hcc (by show 0 + 1 ≤ 1; omega) (by rw [List.take_zero, List.nil_append, List.drop_eq_nil_of_le (by rw [hcl]; exact Nat.le_refl _), List.append_nil]; rfl) (fun k hk => ⟨trivial, by omega⟩) HB.out ?_; intro w3 hr3 hb3 _; have HO3 := Aside0.mk (Eq.mp (congrArg (fun l => Kd.R Kd.string 9 w3 w.heap.size (fun _ => True) _ l) (upto_set (f := (fun x => x)) (z := (⟨#[]⟩ : ByteArray)) hi0 c1 ByteArray.empty HY.out)) hr3); have HB3 := Aside0.mk hb3; clear hr3 hb3 hcl hcc))
    go_roundg (xs.length - i.toNat - 1)
    case measure => have := HG.out; omega
    case rel => exact ⟨i + 1, rfl, by omega, by omega, ⟨by omega⟩, HO3, HB3⟩

/-! ### laws_toQc: printed by compact.py -/
def c105 (x : S105) : S49 := ⟨x.f0, x.f1, x.f2⟩
def s105 (x : S105) : Prop := (fun l : List ByteArray => l.length ≤ 1048576) x.f2
set_option maxHeartbeats 2000000 in
set_option maxRecDepth 100000 in
theorem laws_toQc.make {x : S105} (hs : s105 x) {cs : List Value} {w : World} (hK : k105.K w x cs) :
    Calls Try.prog 157 #[.agg cs.toArray] w fun e w' => ∃ ds : List Value, e = .returned (.agg ds.toArray) ∧ k49.M w' w.heap.size (fun _ => True) (c105 x) ds ∧ Below w.heap.size w w' := by
  obtain ⟨A2, a2, rfl, l2, g2⟩ := k105_open hK
  have E2 := Aside0.mk (fun (W : World) (hb : Below w.heap.size w W) => laws_toStringS.make (w := W) hs (Kd.C_below g2 hb) l2)
  clear hs hK l2 g2
  go_enter Try.func157, Try.ntmps157
  go_wp2_with fail
  refine (E2.out _ (atop (atop (atop (Below.refl _ _))))).mono ?_
  rintro _ V1 ⟨v2, rfl, hR2, hb⟩
  obtain ⟨B2, d2, rfl⟩ := Kd.R_slice hR2
  have BX := Aside0.mk (blk_below new1 hb)
  have BR := Aside0.mk (blk_below new2 hb)
  have BO := Aside0.mk (blk_below new3 hb)
  have HB := Aside0.mk (off1 (off1 (off1 hb)))
  have G2 := Aside0.mk (Kd.R_mono (ok' := fun k => w.heap.size + 3 ≤ k) (Kd.R_lower (base' := w.heap.size) (Kd.R_bound hR2) (by rw [size3]; omega)) (fun k hk => by have h := hk.2.1; rw [size3] at h; exact h))
  have hz0 : w.heap.size + 3 ≤ V1.heap.size := by have h := hb.size; rw [size3] at h; exact h
  clear hb E2 hR2
  go_wp2_with (first | ((with_reducible refine gate_ (.store 25 (.tmp 13) (.tmp 12)) rfl ?_); refine put rfl rfl 25 _ _ rfl (.slice B2 (c105 x).f2.length d2) [.slice B2 (c105 x).f2.length d2] rfl rfl rfl (by kernel_rfl) rfl BO.out (Nat.le_of_ble_eq_true rfl) ?_; intro V2 q1 q2; simp only [putSeg, List.setIfInBounds_toArray, List.set_cons_zero, List.set_cons_succ] at q1; replace BO := Aside0.mk q1; replace BR := Aside0.mk (blk_on BR.out q2 (by omega)); replace BX := Aside0.mk (blk_on BX.out q2 (by omega)); replace G2 := Aside0.mk (Kd.R_grown G2.out q2 (fun k hk => by simp only [ne_eq, Option.some.injEq]; omega)); replace HB := Aside0.mk (on HB.out q2 (by omega)); replace hz0 : w.heap.size + 3 ≤ V2.heap.size := Nat.le_trans hz0 q2.size; clear q1 q2; obtain ⟨b0, b1, b2⟩ := cells3 BX.out) | ((with_reducible refine gate_ (.load 49 (.tmp 3)) rfl ?_); refine wpList_load_row rfl 49 _ rfl _ rfl 49 #[.int .i64 (c105 x).f0, .int .i64 (c105 x).f1, .slice B2 (c105 x).f2.length d2] (0, 0) _ BO.out Try.underlying49 rfl (by kernel_rfl) ?_) | ((with_reducible refine gate_ (.store 49 (.tmp 2) (.tmp 14)) rfl ?_); refine put rfl rfl 49 _ _ rfl (.agg #[.int .i64 (c105 x).f0, .int .i64 (c105 x).f1, .slice B2 (c105 x).f2.length d2]) [.int .i64 (c105 x).f0, .int .i64 (c105 x).f1, .slice B2 (c105 x).f2.length d2] rfl rfl rfl (by kernel_rfl) rfl BR.out (Nat.le_of_ble_eq_true rfl) ?_; intro V3 q1 q2; simp only [putSeg, List.setIfInBounds_toArray, List.set_cons_zero, List.set_cons_succ] at q1; replace BR := Aside0.mk q1; replace BO := Aside0.mk (blk_on BO.out q2 (by omega)); replace G2 := Aside0.mk (Kd.R_grown G2.out q2 (fun k hk => by simp only [ne_eq, Option.some.injEq]; omega)); replace HB := Aside0.mk (on HB.out q2 (by omega)); clear q1 q2))
  refine bodyPost_ret (results_cell_row rfl _ _ _ 49 #[.int .i64 (c105 x).f0, .int .i64 (c105 x).f1, .slice B2 (c105 x).f2.length d2] (0, 0) _ rfl BR.out Try.underlying49 rfl (by kernel_rfl)) rfl ?_
  exact ⟨_, rfl, k49_mkM _ _ _ (c105 x) (Kd.R_mono G2.out (fun _ _ => trivial)), HB.out⟩

theorem small105 {x : S105} (h : hold105 x ≤ 1048576) : s105 x := by
  unfold hold105 at h
  have n2 : 0 ≤ ((x.f2.length : Int) + sums (fun x : ByteArray => (x.size : Int)) x.f2) := (Int.add_nonneg (Int.natCast_nonneg _) (sums_nn (fun x => Int.natCast_nonneg _) x.f2))
  unfold s105
  dsimp only
  exact (by have := sums_nn (h := fun x : ByteArray => (x.size : Int)) (fun x => Int.natCast_nonneg _) x.f2; omega)

theorem long105 {x : S105} (h : s105 x) : l49 (c105 x) := by
  exact Nat.le_trans h (by decide)

/-! ### laws_toIntS: printed by compact.py -/
set_option maxHeartbeats 2000000 in
set_option maxRecDepth 100000 in
theorem laws_toIntS.make {xs : List Int} (hs : (fun l : List Int => l.length ≤ 1048576) xs) {B : Option Addr} {c : Nat} {w : World} (hr : Kd.C (Kd.int .i64) w B xs.length xs) (hc : xs.length ≤ c) :
    Calls Try.prog 200 #[.slice B xs.length c] w fun e w' => ∃ v, e = .returned v ∧ Kd.R (Kd.int .i64) 3 w' w.heap.size (fun _ => True) v xs ∧ Below w.heap.size w w' := by
  have hn : (xs.length : Int) ≤ 1048576 := by have := hs; omega
  have HR := Aside0.mk hr
  clear hr hs
  go_enter Try.func200, Try.ntmps200
  go_wp2_with (first | ((with_reducible refine gate_dst (N := 7) rfl ?_); refine Kd.R_make (Kd.int .i64) w.heap.size 3 rfl (N := 7) rfl 58 _ _ rfl (xs.length : Int) rfl rfl Try.underlying58 (.int .i64 0) 8 info3 rfl (by decide) (by decide) (0 : Int) (ok := fun _ => True) (okp := fun _ => True) rfl (fun _ hk => hk) trivial (by omega) (by omega) (Below.refl _ _) (Nat.le_refl _) ?_; intro v w1 ho hb _ _; have HO := Aside0.mk (Eq.mp (congrArg (fun l => Kd.R (Kd.int .i64) 3 w1 w.heap.size (fun _ => True) v l) (upto_zero (f := (fun x => x)) (z := (0 : Int)) (xs := xs))) ho); have HB := Aside0.mk hb; clear ho hb))
  go_loopg [4] xs.length (fun g v4 w' => ∃ i : Int, v4 = .int .i64 i ∧ 0 ≤ i ∧ i ≤ xs.length ∧ Aside0 ((xs.length : Int) - i ≤ g) ∧ Aside0 (Kd.R (Kd.int .i64) 3 w' w.heap.size (fun _ => True) v (upto (fun x => x) (0 : Int) xs i)) ∧ Aside0 (Below w.heap.size w w'))
  case atStart => exact ⟨0, rfl, Int.le_refl _, by omega, ⟨by omega⟩, HO, HB⟩
  case round =>
    clear HO HB
    obtain ⟨i, rfl, hi0, hi1, HG, HO, HB⟩ := hrel
    by_cases c1 : i < (xs.length : Int)
    rotate_left
    · have H1 := HO.out
      rw [upto_all (by omega), List.map_id'] at H1
      have H2 := Aside0.mk H1
      clear H1
      go_wp2
      go_ret
      exact ⟨_, rfl, H2.out, HB.out⟩
    obtain ⟨gr, cap, hv, _, hlt, _⟩ := Kd.R_form HO.out (by rw [upto_len hi1]; omega)
    rw [upto_len hi1] at hv
    cases hv
    have HL := Aside0.mk hlt
    clear hlt
    obtain ⟨ad, e1, h0⟩ := Kd.at_int (Kd.C_below HR.out HB.out) i hi0 c1
    cases e1
    obtain ⟨y, hy⟩ : ∃ y, rd xs i = y := ⟨_, rfl⟩
    rw [hy] at h0
    have HY := Aside0.mk hy
    clear hy
    obtain ⟨c_, hcl, _, hcc, _⟩ := Kd.R_elem HO.out (0 : Int) i hi0 c1
    go_wp2_with (first | ((with_reducible refine gate_ (.store 3 (.tmp 20) (.tmp 19)) rfl ?_); refine Kd.R_store (Kd.int .i64) (w0 := w) w.heap.size rfl rfl 3 _ _ rfl 3 i 0 (upto (fun x => x) (0 : Int) xs i) y _ [.int .i64 y] c_ (fun _ => True) (fun k => gr < k) rfl (by show i.toNat = i.toNat * 1 + 0; omega) rfl rfl (by kernel_rfl) (fun q hq => by rw [List.mem_singleton.1 hq]; rfl) HO.out hi0 c1 hcl hcc (by show 0 + 1 ≤ 1; omega) (by rw [List.take_zero, List.nil_append, List.drop_eq_nil_of_le (by rw [hcl]; exact Nat.le_refl _), List.append_nil]; rfl) (fun k hk => ⟨trivial, by omega⟩) HB.out ?_; intro w3 hr3 hb3 _; have HO3 := Aside0.mk (Eq.mp (congrArg (fun l => Kd.R (Kd.int .i64) 3 w3 w.heap.size (fun _ => True) _ l) (upto_set (f := (fun x => x)) (z := (0 : Int)) hi0 c1 (0 : Int) HY.out)) hr3); have HB3 := Aside0.mk hb3; clear hr3 hb3 hcl hcc))
    go_roundg (xs.length - i.toNat - 1)
    case measure => have := HG.out; omega
    case rel => exact ⟨i + 1, rfl, by omega, by omega, ⟨by omega⟩, HO3, HB3⟩

/-! ### laws_toTc: printed by compact.py -/
def c106 (x : S106) : S60 := ⟨x.f0, x.f1, x.f2⟩
def s106 (x : S106) : Prop := (fun l : List ByteArray => l.length ≤ 1048576) x.f1 ∧ (fun l : List Int => l.length ≤ 1048576) x.f2
set_option maxHeartbeats 2000000 in
set_option maxRecDepth 100000 in
theorem laws_toTc.make {x : S106} (hs : s106 x) {cs : List Value} {w : World} (hK : k106.K w x cs) :
    Calls Try.prog 158 #[.agg cs.toArray] w fun e w' => ∃ ds : List Value, e = .returned (.agg ds.toArray) ∧ k60.M w' w.heap.size (fun _ => True) (c106 x) ds ∧ Below w.heap.size w w' := by
  obtain ⟨A1, a1, A2, a2, rfl, l1, g1, l2, g2⟩ := k106_open hK
  have E1 := Aside0.mk (fun (W : World) (hb : Below w.heap.size w W) => laws_toStringS.make (w := W) hs.1 (Kd.C_below g1 hb) l1)
  have E2 := Aside0.mk (fun (W : World) (hb : Below w.heap.size w W) => laws_toIntS.make (w := W) hs.2 (Kd.C_below g2 hb) l2)
  clear hs hK l1 g1 l2 g2
  go_enter Try.func158, Try.ntmps158
  go_wp2_with fail
  refine (E1.out _ (atop (atop (atop (Below.refl _ _))))).mono ?_
  rintro _ V1 ⟨v1, rfl, hR1, hb⟩
  obtain ⟨B1, d1, rfl⟩ := Kd.R_slice hR1
  have BX := Aside0.mk (blk_below new1 hb)
  have BR := Aside0.mk (blk_below new2 hb)
  have BO := Aside0.mk (blk_below new3 hb)
  have HB := Aside0.mk (off1 (off1 (off1 hb)))
  have G1 := Aside0.mk (Kd.R_mono (ok' := fun k => w.heap.size + 3 ≤ k) (Kd.R_lower (base' := w.heap.size) (Kd.R_bound hR1) (by rw [size3]; omega)) (fun k hk => by have h := hk.2.1; rw [size3] at h; exact h))
  have hz0 : w.heap.size + 3 ≤ V1.heap.size := by have h := hb.size; rw [size3] at h; exact h
  clear hb E1 hR1
  go_wp2_with (first | ((with_reducible refine gate_ (.store 25 (.tmp 10) (.tmp 9)) rfl ?_); refine put rfl rfl 25 _ _ rfl (.slice B1 (c106 x).f1.length d1) [.slice B1 (c106 x).f1.length d1] rfl rfl rfl (by kernel_rfl) rfl BO.out (Nat.le_of_ble_eq_true rfl) ?_; intro V2 q1 q2; simp only [putSeg, List.setIfInBounds_toArray, List.set_cons_zero, List.set_cons_succ] at q1; replace BO := Aside0.mk q1; replace BR := Aside0.mk (blk_on BR.out q2 (by omega)); replace BX := Aside0.mk (blk_on BX.out q2 (by omega)); replace G1 := Aside0.mk (Kd.R_grown G1.out q2 (fun k hk => by simp only [ne_eq, Option.some.injEq]; omega)); replace HB := Aside0.mk (on HB.out q2 (by omega)); replace hz0 : w.heap.size + 3 ≤ V2.heap.size := Nat.le_trans hz0 q2.size; clear q1 q2; obtain ⟨b0, b1, b2⟩ := cells3 BX.out))
  refine (E2.out _ HB.out).mono ?_
  rintro _ V3 ⟨v2, rfl, hR2, hb⟩
  obtain ⟨B2, d2, rfl⟩ := Kd.R_slice hR2
  clear b0 b1 b2
  have G2 := Aside0.mk (Kd.R_mono (ok' := fun k => w.heap.size + 3 ≤ k) (Kd.R_lower (base' := w.heap.size) (Kd.R_bound hR2) (by omega)) (fun k hk => Nat.le_trans hz0 hk.2.1))
  replace BX := Aside0.mk (blk_below BX.out hb)
  replace BR := Aside0.mk (blk_below BR.out hb)
  replace BO := Aside0.mk (blk_below BO.out hb)
  replace G1 := Aside0.mk (Kd.R_below G1.out hb)
  replace HB := Aside0.mk (then_ HB.out hb)
  replace hz0 : w.heap.size + 3 ≤ V3.heap.size := by have h := hb.size; omega
  clear hb E2 hR2
  go_wp2_with (first | ((with_reducible refine gate_ (.store 58 (.tmp 14) (.tmp 13)) rfl ?_); refine put rfl rfl 58 _ _ rfl (.slice B2 (c106 x).f2.length d2) [.slice B2 (c106 x).f2.length d2] rfl rfl rfl (by kernel_rfl) rfl BO.out (Nat.le_of_ble_eq_true rfl) ?_; intro V4 q1 q2; simp only [putSeg, List.setIfInBounds_toArray, List.set_cons_zero, List.set_cons_succ] at q1; replace BO := Aside0.mk q1; replace BR := Aside0.mk (blk_on BR.out q2 (by omega)); replace BX := Aside0.mk (blk_on BX.out q2 (by omega)); replace G1 := Aside0.mk (Kd.R_grown G1.out q2 (fun k hk => by simp only [ne_eq, Option.some.injEq]; omega)); replace G2 := Aside0.mk (Kd.R_grown G2.out q2 (fun k hk => by simp only [ne_eq, Option.some.injEq]; omega)); replace HB := Aside0.mk (on HB.out q2 (by omega)); replace hz0 : w.heap.size + 3 ≤ V4.heap.size := Nat.le_trans hz0 q2.size; clear q1 q2; obtain ⟨b0, b1, b2⟩ := cells3 BX.out) | ((with_reducible refine gate_ (.load 60 (.tmp 3)) rfl ?_); refine wpList_load_row rfl 60 _ rfl _ rfl 60 #[.int .i64 (c106 x).f0, .slice B1 (c106 x).f1.length d1, .slice B2 (c106 x).f2.length d2] (0, 0) _ BO.out Try.underlying60 rfl (by kernel_rfl) ?_) | ((with_reducible refine gate_ (.store 60 (.tmp 2) (.tmp 15)) rfl ?_); refine put rfl rfl 60 _ _ rfl (.agg #[.int .i64 (c106 x).f0, .slice B1 (c106 x).f1.length d1, .slice B2 (c106 x).f2.length d2]) [.int .i64 (c106 x).f0, .slice B1 (c106 x).f1.length d1, .slice B2 (c106 x).f2.length d2] rfl rfl rfl (by kernel_rfl) rfl BR.out (Nat.le_of_ble_eq_true rfl) ?_; intro V5 q1 q2; simp only [putSeg, List.setIfInBounds_toArray, List.set_cons_zero, List.set_cons_succ] at q1; replace BR := Aside0.mk q1; replace BO := Aside0.mk (blk_on BO.out q2 (by omega)); replace G1 := Aside0.mk (Kd.R_grown G1.out q2 (fun k hk => by simp only [ne_eq, Option.some.injEq]; omega)); replace G2 := Aside0.mk (Kd.R_grown G2.out q2 (fun k hk => by simp only [ne_eq, Option.some.injEq]; omega)); replace HB := Aside0.mk (on HB.out q2 (by omega)); clear q1 q2))
  refine bodyPost_ret (results_cell_row rfl _ _ _ 60 #[.int .i64 (c106 x).f0, .slice B1 (c106 x).f1.length d1, .slice B2 (c106 x).f2.length d2] (0, 0) _ rfl BR.out Try.underlying60 rfl (by kernel_rfl)) rfl ?_
  exact ⟨_, rfl, k60_mkM _ _ _ (c106 x) (Kd.R_mono G1.out (fun _ _ => trivial)) (Kd.R_mono G2.out (fun _ _ => trivial)), HB.out⟩

theorem small106 {x : S106} (h : hold106 x ≤ 1048576) : s106 x := by
  unfold hold106 at h
  have n1 : 0 ≤ ((x.f1.length : Int) + sums (fun x : ByteArray => (x.size : Int)) x.f1) := (Int.add_nonneg (Int.natCast_nonneg _) (sums_nn (fun x => Int.natCast_nonneg _) x.f1))
  have n2 : 0 ≤ (x.f2.length : Int) := (Int.natCast_nonneg _)
  exact ⟨(by have := sums_nn (h := fun x : ByteArray => (x.size : Int)) (fun x => Int.natCast_nonneg _) x.f1; omega), (by omega)⟩

theorem long106 {x : S106} (h : s106 x) : l60 (c106 x) := by
  exact ⟨Nat.le_trans h.1 (by decide), Nat.le_trans h.2 (by decide)⟩

/-! ### laws_toBlock: printed by compact.py -/
def c109 (x : S109) : S113 := ⟨x.f0, x.f1, x.f2, x.f3, (c105 x.f4), (c106 x.f5), (x.f6.map c191), x.f7, (x.f8.map c159), x.f9⟩
def s109 (x : S109) : Prop := s105 x.f4 ∧ s106 x.f5 ∧ (fun l : List S191 => l.length ≤ 1048576) x.f6 ∧ (fun l : List S159 => l.length ≤ 1048576) x.f8
set_option maxHeartbeats 2000000 in
set_option maxRecDepth 100000 in
theorem laws_toBlock.make {x : S109} (hs : s109 x) {cs : List Value} {w : World} (hK : k109.K w x cs) :
    Calls Try.prog 69 #[.agg cs.toArray] w fun e w' => ∃ ds : List Value, e = .returned (.agg ds.toArray) ∧ k113.M w' w.heap.size (fun _ => True) (c109 x) ds ∧ Below w.heap.size w w' := by
  obtain ⟨A6, a6, A8, a8, A9, a9, A10, a10, A12, a12, rfl, l6, g6, l8, g8, l9, g9, l10, g10, l12, g12⟩ := k109_open hK
  have E4 := Aside0.mk (fun (W : World) (hb : Below w.heap.size w W) => laws_toQc.make (w := W) hs.1 (k105_mk W x.f4 l6 (Kd.C_below g6 hb)))
  have E5 := Aside0.mk (fun (W : World) (hb : Below w.heap.size w W) => laws_toTc.make (w := W) hs.2.1 (k106_mk W x.f5 l8 (Kd.C_below g8 hb) l9 (Kd.C_below g9 hb)))
  have E6 := Aside0.mk (fun (W : World) (hb : Below w.heap.size w W) => laws_toTxS.make (w := W) hs.2.2.1 (Kd.C_below g10 hb) l10)
  have E8 := Aside0.mk (fun (W : World) (hb : Below w.heap.size w W) => laws_toValS.make (w := W) hs.2.2.2 (Kd.C_below g12 hb) l12)
  clear hs hK l6 g6 l8 g8 l9 g9 l10 g10 l12 g12
  go_enter Try.func69, Try.ntmps69
  go_wp2_with fail
  refine (E4.out _ (atop (atop (atop (Below.refl _ _))))).mono ?_
  rintro _ V1 ⟨es, rfl, hM, hb⟩
  obtain ⟨v6, rfl, hR6⟩ := k49_openM hM
  obtain ⟨B6, d6, rfl⟩ := Kd.R_slice hR6
  have BX := Aside0.mk (blk_below new1 hb)
  have BR := Aside0.mk (blk_below new2 hb)
  have BO := Aside0.mk (blk_below new3 hb)
  have HB := Aside0.mk (off1 (off1 (off1 hb)))
  have G6 := Aside0.mk (Kd.R_mono (ok' := fun k => w.heap.size + 3 ≤ k) (Kd.R_lower (base' := w.heap.size) (Kd.R_bound hR6) (by rw [size3]; omega)) (fun k hk => by have h := hk.2.1; rw [size3] at h; exact h))
  have hz0 : w.heap.size + 3 ≤ V1.heap.size := by have h := hb.size; rw [size3] at h; exact h
  clear hb E4 hR6 hM
  go_wp2_with (first | ((with_reducible refine gate_ (.store 49 (.tmp 19) (.tmp 18)) rfl ?_); refine put rfl rfl 49 _ _ rfl (.agg #[.int .i64 (c109 x).f4.f0, .int .i64 (c109 x).f4.f1, .slice B6 (c109 x).f4.f2.length d6]) [.int .i64 (c109 x).f4.f0, .int .i64 (c109 x).f4.f1, .slice B6 (c109 x).f4.f2.length d6] rfl rfl rfl (by kernel_rfl) rfl BO.out (Nat.le_of_ble_eq_true rfl) ?_; intro V2 q1 q2; simp only [putSeg, List.setIfInBounds_toArray, List.set_cons_zero, List.set_cons_succ] at q1; replace BO := Aside0.mk q1; replace BR := Aside0.mk (blk_on BR.out q2 (by omega)); replace BX := Aside0.mk (blk_on BX.out q2 (by omega)); replace G6 := Aside0.mk (Kd.R_grown G6.out q2 (fun k hk => by simp only [ne_eq, Option.some.injEq]; omega)); replace HB := Aside0.mk (on HB.out q2 (by omega)); replace hz0 : w.heap.size + 3 ≤ V2.heap.size := Nat.le_trans hz0 q2.size; clear q1 q2; obtain ⟨b0, b1, b2, b3, b4, b5, b6, b7, b8, b9, b10, b11, b12, b13⟩ := cells14 BX.out))
  refine (E5.out _ HB.out).mono ?_
  rintro _ V3 ⟨es, rfl, hM, hb⟩
  obtain ⟨v8, v9, rfl, hR8, hR9⟩ := k60_openM hM
  obtain ⟨B8, d8, rfl⟩ := Kd.R_slice hR8
  obtain ⟨B9, d9, rfl⟩ := Kd.R_slice hR9
  clear b0 b1 b2 b3 b4 b5 b6 b7 b8 b9 b10 b11 b12 b13
  have G8 := Aside0.mk (Kd.R_mono (ok' := fun k => w.heap.size + 3 ≤ k) (Kd.R_lower (base' := w.heap.size) (Kd.R_bound hR8) (by omega)) (fun k hk => Nat.le_trans hz0 hk.2.1))
  have G9 := Aside0.mk (Kd.R_mono (ok' := fun k => w.heap.size + 3 ≤ k) (Kd.R_lower (base' := w.heap.size) (Kd.R_bound hR9) (by omega)) (fun k hk => Nat.le_trans hz0 hk.2.1))
  replace BX := Aside0.mk (blk_below BX.out hb)
  replace BR := Aside0.mk (blk_below BR.out hb)
  replace BO := Aside0.mk (blk_below BO.out hb)
  replace G6 := Aside0.mk (Kd.R_below G6.out hb)
  replace HB := Aside0.mk (then_ HB.out hb)
  replace hz0 : w.heap.size + 3 ≤ V3.heap.size := by have h := hb.size; omega
  clear hb E5 hR8 hR9 hM
  go_wp2_with (first | ((with_reducible refine gate_ (.store 60 (.tmp 23) (.tmp 22)) rfl ?_); refine put rfl rfl 60 _ _ rfl (.agg #[.int .i64 (c109 x).f5.f0, .slice B8 (c109 x).f5.f1.length d8, .slice B9 (c109 x).f5.f2.length d9]) [.int .i64 (c109 x).f5.f0, .slice B8 (c109 x).f5.f1.length d8, .slice B9 (c109 x).f5.f2.length d9] rfl rfl rfl (by kernel_rfl) rfl BO.out (Nat.le_of_ble_eq_true rfl) ?_; intro V4 q1 q2; simp only [putSeg, List.setIfInBounds_toArray, List.set_cons_zero, List.set_cons_succ] at q1; replace BO := Aside0.mk q1; replace BR := Aside0.mk (blk_on BR.out q2 (by omega)); replace BX := Aside0.mk (blk_on BX.out q2 (by omega)); replace G6 := Aside0.mk (Kd.R_grown G6.out q2 (fun k hk => by simp only [ne_eq, Option.some.injEq]; omega)); replace G8 := Aside0.mk (Kd.R_grown G8.out q2 (fun k hk => by simp only [ne_eq, Option.some.injEq]; omega)); replace G9 := Aside0.mk (Kd.R_grown G9.out q2 (fun k hk => by simp only [ne_eq, Option.some.injEq]; omega)); replace HB := Aside0.mk (on HB.out q2 (by omega)); replace hz0 : w.heap.size + 3 ≤ V4.heap.size := Nat.le_trans hz0 q2.size; clear q1 q2; obtain ⟨b0, b1, b2, b3, b4, b5, b6, b7, b8, b9, b10, b11, b12, b13⟩ := cells14 BX.out))
  refine (E6.out _ HB.out).mono ?_
  rintro _ V5 ⟨v10, rfl, hR10, hb⟩
  obtain ⟨B10, d10, rfl⟩ := Kd.R_slice hR10
  rw [List.length_map] at hR10
  clear b0 b1 b2 b3 b4 b5 b6 b7 b8 b9 b10 b11 b12 b13
  have G10 := Aside0.mk (Kd.R_mono (ok' := fun k => w.heap.size + 3 ≤ k) (Kd.R_lower (base' := w.heap.size) (Kd.R_bound hR10) (by omega)) (fun k hk => Nat.le_trans hz0 hk.2.1))
  replace BX := Aside0.mk (blk_below BX.out hb)
  replace BR := Aside0.mk (blk_below BR.out hb)
  replace BO := Aside0.mk (blk_below BO.out hb)
  replace G6 := Aside0.mk (Kd.R_below G6.out hb)
  replace G8 := Aside0.mk (Kd.R_below G8.out hb)
  replace G9 := Aside0.mk (Kd.R_below G9.out hb)
  replace HB := Aside0.mk (then_ HB.out hb)
  replace hz0 : w.heap.size + 3 ≤ V5.heap.size := by have h := hb.size; omega
  clear hb E6 hR10
  go_wp2_with (first | ((with_reducible refine gate_ (.store 97 (.tmp 27) (.tmp 26)) rfl ?_); refine put rfl rfl 97 _ _ rfl (.slice B10 x.f6.length d10) [.slice B10 x.f6.length d10] rfl rfl rfl (by kernel_rfl) rfl BO.out (Nat.le_of_ble_eq_true rfl) ?_; intro V6 q1 q2; simp only [putSeg, List.setIfInBounds_toArray, List.set_cons_zero, List.set_cons_succ] at q1; replace BO := Aside0.mk q1; replace BR := Aside0.mk (blk_on BR.out q2 (by omega)); replace BX := Aside0.mk (blk_on BX.out q2 (by omega)); replace G6 := Aside0.mk (Kd.R_grown G6.out q2 (fun k hk => by simp only [ne_eq, Option.some.injEq]; omega)); replace G8 := Aside0.mk (Kd.R_grown G8.out q2 (fun k hk => by simp only [ne_eq, Option.some.injEq]; omega)); replace G9 := Aside0.mk (Kd.R_grown G9.out q2 (fun k hk => by simp only [ne_eq, Option.some.injEq]; omega)); replace G10 := Aside0.mk (Kd.R_grown G10.out q2 (fun k hk => by simp only [ne_eq, Option.some.injEq]; omega)); replace HB := Aside0.mk (on HB.out q2 (by omega)); replace hz0 : w.heap.size + 3 ≤ V6.heap.size := Nat.le_trans hz0 q2.size; clear q1 q2; obtain ⟨b0, b1, b2, b3, b4, b5, b6, b7, b8, b9, b10, b11, b12, b13⟩ := cells14 BX.out) | ((with_reducible refine gate_ (.store 4 (.tmp 30) (.tmp 29)) rfl ?_); refine put rfl rfl 4 _ _ rfl (.bool x.f7) [.bool x.f7] rfl rfl rfl (by kernel_rfl) rfl BO.out (Nat.le_of_ble_eq_true rfl) ?_; intro V7 q1 q2; simp only [putSeg, List.setIfInBounds_toArray, List.set_cons_zero, List.set_cons_succ] at q1; replace BO := Aside0.mk q1; replace BR := Aside0.mk (blk_on BR.out q2 (by omega)); replace BX := Aside0.mk (blk_on BX.out q2 (by omega)); replace G6 := Aside0.mk (Kd.R_grown G6.out q2 (fun k hk => by simp only [ne_eq, Option.some.injEq]; omega)); replace G8 := Aside0.mk (Kd.R_grown G8.out q2 (fun k hk => by simp only [ne_eq, Option.some.injEq]; omega)); replace G9 := Aside0.mk (Kd.R_grown G9.out q2 (fun k hk => by simp only [ne_eq, Option.some.injEq]; omega)); replace G10 := Aside0.mk (Kd.R_grown G10.out q2 (fun k hk => by simp only [ne_eq, Option.some.injEq]; omega)); replace HB := Aside0.mk (on HB.out q2 (by omega)); replace hz0 : w.heap.size + 3 ≤ V7.heap.size := Nat.le_trans hz0 q2.size; clear q1 q2 b0 b1 b2 b3 b4 b5 b6 b7 b8 b9 b10 b11 b12 b13; obtain ⟨b0, b1, b2, b3, b4, b5, b6, b7, b8, b9, b10, b11, b12, b13⟩ := cells14 BX.out))
  refine (E8.out _ HB.out).mono ?_
  rintro _ V8 ⟨v12, rfl, hR12, hb⟩
  obtain ⟨B12, d12, rfl⟩ := Kd.R_slice hR12
  rw [List.length_map] at hR12
  clear b0 b1 b2 b3 b4 b5 b6 b7 b8 b9 b10 b11 b12 b13
  have G12 := Aside0.mk (Kd.R_mono (ok' := fun k => w.heap.size + 3 ≤ k) (Kd.R_lower (base' := w.heap.size) (Kd.R_bound hR12) (by omega)) (fun k hk => Nat.le_trans hz0 hk.2.1))
  replace BX := Aside0.mk (blk_below BX.out hb)
  replace BR := Aside0.mk (blk_below BR.out hb)
  replace BO := Aside0.mk (blk_below BO.out hb)
  replace G6 := Aside0.mk (Kd.R_below G6.out hb)
  replace G8 := Aside0.mk (Kd.R_below G8.out hb)
  replace G9 := Aside0.mk (Kd.R_below G9.out hb)
  replace G10 := Aside0.mk (Kd.R_below G10.out hb)
  replace HB := Aside0.mk (then_ HB.out hb)
  replace hz0 : w.heap.size + 3 ≤ V8.heap.size := by have h := hb.size; omega
  clear hb E8 hR12
  go_wp2_with (first | ((with_reducible refine gate_ (.store 24 (.tmp 34) (.tmp 33)) rfl ?_); refine put rfl rfl 24 _ _ rfl (.slice B12 x.f8.length d12) [.slice B12 x.f8.length d12] rfl rfl rfl (by kernel_rfl) rfl BO.out (Nat.le_of_ble_eq_true rfl) ?_; intro V9 q1 q2; simp only [putSeg, List.setIfInBounds_toArray, List.set_cons_zero, List.set_cons_succ] at q1; replace BO := Aside0.mk q1; replace BR := Aside0.mk (blk_on BR.out q2 (by omega)); replace BX := Aside0.mk (blk_on BX.out q2 (by omega)); replace G6 := Aside0.mk (Kd.R_grown G6.out q2 (fun k hk => by simp only [ne_eq, Option.some.injEq]; omega)); replace G8 := Aside0.mk (Kd.R_grown G8.out q2 (fun k hk => by simp only [ne_eq, Option.some.injEq]; omega)); replace G9 := Aside0.mk (Kd.R_grown G9.out q2 (fun k hk => by simp only [ne_eq, Option.some.injEq]; omega)); replace G10 := Aside0.mk (Kd.R_grown G10.out q2 (fun k hk => by simp only [ne_eq, Option.some.injEq]; omega)); replace G12 := Aside0.mk (Kd.R_grown G12.out q2 (fun k hk => by simp only [ne_eq, Option.some.injEq]; omega)); replace HB := Aside0.mk (on HB.out q2 (by omega)); replace hz0 : w.heap.size + 3 ≤ V9.heap.size := Nat.le_trans hz0 q2.size; clear q1 q2; obtain ⟨b0, b1, b2, b3, b4, b5, b6, b7, b8, b9, b10, b11, b12, b13⟩ := cells14 BX.out) | ((with_reducible refine gate_ (.store 9 (.tmp 37) (.tmp 36)) rfl ?_); refine put rfl rfl 9 _ _ rfl (.string x.f9) [.string x.f9] rfl rfl rfl (by kernel_rfl) rfl BO.out (Nat.le_of_ble_eq_true rfl) ?_; intro V10 q1 q2; simp only [putSeg, List.setIfInBounds_toArray, List.set_cons_zero, List.set_cons_succ] at q1; replace BO := Aside0.mk q1; replace BR := Aside0.mk (blk_on BR.out q2 (by omega)); replace BX := Aside0.mk (blk_on BX.out q2 (by omega)); replace G6 := Aside0.mk (Kd.R_grown G6.out q2 (fun k hk => by simp only [ne_eq, Option.some.injEq]; omega)); replace G8 := Aside0.mk (Kd.R_grown G8.out q2 (fun k hk => by simp only [ne_eq, Option.some.injEq]; omega)); replace G9 := Aside0.mk (Kd.R_grown G9.out q2 (fun k hk => by simp only [ne_eq, Option.some.injEq]; omega)); replace G10 := Aside0.mk (Kd.R_grown G10.out q2 (fun k hk => by simp only [ne_eq, Option.some.injEq]; omega)); replace G12 := Aside0.mk (Kd.R_grown G12.out q2 (fun k hk => by simp only [ne_eq, Option.some.injEq]; omega)); replace HB := Aside0.mk (on HB.out q2 (by omega)); replace hz0 : w.heap.size + 3 ≤ V10.heap.size := Nat.le_trans hz0 q2.size; clear q1 q2 b0 b1 b2 b3 b4 b5 b6 b7 b8 b9 b10 b11 b12 b13; obtain ⟨b0, b1, b2, b3, b4, b5, b6, b7, b8, b9, b10, b11, b12, b13⟩ := cells14 BX.out) | ((with_reducible refine gate_ (.load 113 (.tmp 3)) rfl ?_); refine wpList_load_row rfl 113 _ rfl _ rfl 113 #[.int .i64 (c109 x).f0, .int .i64 (c109 x).f1, .int .i64 (c109 x).f2, .string (c109 x).f3, .int .i64 (c109 x).f4.f0, .int .i64 (c109 x).f4.f1, .slice B6 (c109 x).f4.f2.length d6, .int .i64 (c109 x).f5.f0, .slice B8 (c109 x).f5.f1.length d8, .slice B9 (c109 x).f5.f2.length d9, .slice B10 x.f6.length d10, .bool (c109 x).f7, .slice B12 x.f8.length d12, .string (c109 x).f9] (0, 0) _ BO.out Try.underlying113 rfl (by kernel_rfl) ?_) | ((with_reducible refine gate_ (.store 113 (.tmp 2) (.tmp 38)) rfl ?_); refine put rfl rfl 113 _ _ rfl (.agg #[.int .i64 (c109 x).f0, .int .i64 (c109 x).f1, .int .i64 (c109 x).f2, .string (c109 x).f3, .int .i64 (c109 x).f4.f0, .int .i64 (c109 x).f4.f1, .slice B6 (c109 x).f4.f2.length d6, .int .i64 (c109 x).f5.f0, .slice B8 (c109 x).f5.f1.length d8, .slice B9 (c109 x).f5.f2.length d9, .slice B10 x.f6.length d10, .bool (c109 x).f7, .slice B12 x.f8.length d12, .string (c109 x).f9]) [.int .i64 (c109 x).f0, .int .i64 (c109 x).f1, .int .i64 (c109 x).f2, .string (c109 x).f3, .int .i64 (c109 x).f4.f0, .int .i64 (c109 x).f4.f1, .slice B6 (c109 x).f4.f2.length d6, .int .i64 (c109 x).f5.f0, .slice B8 (c109 x).f5.f1.length d8, .slice B9 (c109 x).f5.f2.length d9, .slice B10 x.f6.length d10, .bool (c109 x).f7, .slice B12 x.f8.length d12, .string (c109 x).f9] rfl rfl rfl (by kernel_rfl) rfl BR.out (Nat.le_of_ble_eq_true rfl) ?_; intro V11 q1 q2; simp only [putSeg, List.setIfInBounds_toArray, List.set_cons_zero, List.set_cons_succ] at q1; replace BR := Aside0.mk q1; replace BO := Aside0.mk (blk_on BO.out q2 (by omega)); replace G6 := Aside0.mk (Kd.R_grown G6.out q2 (fun k hk => by simp only [ne_eq, Option.some.injEq]; omega)); replace G8 := Aside0.mk (Kd.R_grown G8.out q2 (fun k hk => by simp only [ne_eq, Option.some.injEq]; omega)); replace G9 := Aside0.mk (Kd.R_grown G9.out q2 (fun k hk => by simp only [ne_eq, Option.some.injEq]; omega)); replace G10 := Aside0.mk (Kd.R_grown G10.out q2 (fun k hk => by simp only [ne_eq, Option.some.injEq]; omega)); replace G12 := Aside0.mk (Kd.R_grown G12.out q2 (fun k hk => by simp only [ne_eq, Option.some.injEq]; omega)); replace HB := Aside0.mk (on HB.out q2 (by omega)); clear q1 q2))
  refine bodyPost_ret (results_cell_row rfl _ _ _ 113 #[.int .i64 (c109 x).f0, .int .i64 (c109 x).f1, .int .i64 (c109 x).f2, .string (c109 x).f3, .int .i64 (c109 x).f4.f0, .int .i64 (c109 x).f4.f1, .slice B6 (c109 x).f4.f2.length d6, .int .i64 (c109 x).f5.f0, .slice B8 (c109 x).f5.f1.length d8, .slice B9 (c109 x).f5.f2.length d9, .slice B10 x.f6.length d10, .bool (c109 x).f7, .slice B12 x.f8.length d12, .string (c109 x).f9] (0, 0) _ rfl BR.out Try.underlying113 rfl (by kernel_rfl)) rfl ?_
  exact ⟨_, rfl, k113_mkM _ _ _ (c109 x) (Kd.R_mono G6.out (fun _ _ => trivial)) (Kd.R_mono G8.out (fun _ _ => trivial)) (Kd.R_mono G9.out (fun _ _ => trivial)) (Kd.R_mono G10.out (fun _ _ => trivial)) (Kd.R_mono G12.out (fun _ _ => trivial)), HB.out⟩

theorem small109 {x : S109} (h : hold109 x ≤ 1048576) : s109 x := by
  unfold hold109 at h
  have n3 : 0 ≤ (x.f3.size : Int) := (Int.natCast_nonneg _)
  have n4 : 0 ≤ (hold105 x.f4) := (hold105.nn x.f4)
  have n5 : 0 ≤ (hold106 x.f5) := (hold106.nn x.f5)
  have n6 : 0 ≤ ((x.f6.length : Int) + sums hold191 x.f6) := (Int.add_nonneg (Int.natCast_nonneg _) (sums_nn hold191.nn x.f6))
  have n8 : 0 ≤ ((x.f8.length : Int) + sums hold159 x.f8) := (Int.add_nonneg (Int.natCast_nonneg _) (sums_nn hold159.nn x.f8))
  have n9 : 0 ≤ (x.f9.size : Int) := (Int.natCast_nonneg _)
  exact ⟨small105 (by omega), small106 (by omega), (by have := sums_nn hold191.nn x.f6; omega), (by have := sums_nn hold159.nn x.f8; omega)⟩

theorem blockFit_of {x : S109} (h : w109 x) : blockFit (c109 x) := by
  refine ⟨h.2.2.2.1, h.2.2.2.2.1.2.2, h.2.2.2.2.2.1.2.1, h.2.2.2.2.2.1.2.2.1, ⟨by show (x.f6.map c191).length ≤ _; rw [List.length_map]; exact h.2.2.2.2.2.2.1.1, fun t ht => ?_⟩, ⟨by show (x.f8.map c159).length ≤ _; rw [List.length_map]; exact h.2.2.2.2.2.2.2.2.1.1, fun v hv => ?_⟩⟩
  · obtain ⟨y, hy, rfl⟩ := List.mem_map.1 ht
    exact ⟨(h.2.2.2.2.2.2.1.2 y hy).2.1, (h.2.2.2.2.2.2.1.2 y hy).2.2.1⟩
  · obtain ⟨y, hy, rfl⟩ := List.mem_map.1 hv
    exact (h.2.2.2.2.2.2.2.2.1.2 y hy).1

theorem long109 {x : S109} (h : s109 x) : l113 (c109 x) := by
  exact ⟨long105 h.1, long106 h.2.1, (by show (x.f6.map c191).length ≤ _; rw [List.length_map]; exact Nat.le_trans h.2.2.1 (by decide)), (by show (x.f8.map c159).length ≤ _; rw [List.length_map]; exact Nat.le_trans h.2.2.2 (by decide))⟩

/-! ### laws_markBlock: function 73 -/
def laws_markBlock.f (k : Nat) (a0_0 : Int) (a0_1 : Int) (a0_2 : Int) (a0_3 : ByteArray) (a0_4 : Int) (a0_5 : Int) (l0_6 : List ByteArray) (a0_7 : Int) (l0_8 : List ByteArray) (l0_9 : List Int) (l0_10 : List (S186)) (a0_11 : Bool) (l0_12 : List (S138)) (a0_13 : ByteArray) (a1 : Int) : Option (Int × List ByteArray × List ByteArray × List Int × (List (S186)) × (List (S138))) := (laws_markQc.f k a0_4 a0_5 l0_6 a1).bind fun bt1729 => ((laws_markTc.f k a0_7 l0_8 l0_9 bt1729.1).bind fun bt1731 => ((laws_markTxS.f k l0_10 bt1731.1).bind fun bt1734 => ((laws_markValS.f k l0_12 bt1734.1).bind fun bt1736 => (some (bt1736.1, bt1729.2, bt1731.2.1, bt1731.2.2, bt1734.2, bt1736.2)))))
theorem laws_markBlock.mono : ∀ a0 a1 a2 a3 a4 a5 a6 a7 a8 a9 a10 a11 a12 a13 a14 k, LeO (laws_markBlock.f k a0 a1 a2 a3 a4 a5 a6 a7 a8 a9 a10 a11 a12 a13 a14) (laws_markBlock.f (k + 1) a0 a1 a2 a3 a4 a5 a6 a7 a8 a9 a10 a11 a12 a13 a14) := by
  intro a0 a1 a2 a3 a4 a5 a6 a7 a8 a9 a10 a11 a12 a13 a14 k
  unfold laws_markBlock.f
  repeat' first
      | (with_reducible exact laws_markQc.mono _ _ _ _ _)
      | (with_reducible exact laws_markTc.mono _ _ _ _ _)
      | (with_reducible exact laws_markTxS.mono _ _ _)
      | (with_reducible exact laws_markValS.mono _ _ _)
      | (with_reducible exact LeO.refl _)
      | (with_reducible exact LeO.none _)
      | (with_reducible refine LeO.ite ?_ ?_)
      | (with_reducible refine LeO.bind ?_ (fun _ => ?_))
      | exact laws_markQc.mono _ _ _ _ _
      | exact laws_markTc.mono _ _ _ _ _
      | exact laws_markTxS.mono _ _ _
      | exact laws_markValS.mono _ _ _
      | exact LeO.none _
      | refine LeO.ite ?_ ?_
      | refine LeO.bind ?_ (fun _ => ?_)
set_option maxHeartbeats 8000000 in
set_option maxRecDepth 100000 in
theorem laws_markBlock.calls (k : Nat) (a0_0 : Int) (a0_1 : Int) (a0_2 : Int) (a0_3 : ByteArray) (a0_4 : Int) (a0_5 : Int) (P0_6_ : Nat → Prop) (u9000_ : Value) (l0_6 : List ByteArray) (a0_7 : Int) (P0_8_ : Nat → Prop) (u9001_ : Value) (l0_8 : List ByteArray) (P0_9_ : Nat → Prop) (u9002_ : Value) (l0_9 : List Int) (P0_10_ : Nat → Prop) (u9003_ : Value) (l0_10 : List (S186)) (a0_11 : Bool) (P0_12_ : Nat → Prop) (u9004_ : Value) (l0_12 : List (S138)) (a0_13 : ByteArray) (a1 : Int) (r1 : Int) (r2 : List ByteArray) (r3 : List ByteArray) (r4 : List Int) (r5 : List (S186)) (r6 : List (S138)) (w0 w : World) (hB : Below w0.heap.size w0 w) (ho0_6 : Kd.R Kd.string 9 w w0.heap.size P0_6_ u9000_ l0_6) (hp0_6_0_8 : ∀ k_, P0_6_ k_ → ¬ P0_8_ k_) (ho0_8 : Kd.R Kd.string 9 w w0.heap.size P0_8_ u9001_ l0_8) (hp0_8_0_6 : ∀ k_, P0_8_ k_ → ¬ P0_6_ k_) (ho0_9 : Kd.R (Kd.int .i64) 3 w w0.heap.size P0_9_ u9002_ l0_9) (ho0_10 : Kd.R k186 186 w w0.heap.size P0_10_ u9003_ l0_10) (ho0_12 : Kd.R k138 138 w w0.heap.size P0_12_ u9004_ l0_12) (h : laws_markBlock.f k a0_0 a0_1 a0_2 a0_3 a0_4 a0_5 l0_6 a0_7 l0_8 l0_9 l0_10 a0_11 l0_12 a0_13 a1 = some (r1, r2, r3, r4, r5, r6)) :
    Calls Try.prog 73 #[.agg #[.int .i64 a0_0, .int .i64 a0_1, .int .i64 a0_2, .string a0_3, .int .i64 a0_4, .int .i64 a0_5, u9000_, .int .i64 a0_7, u9001_, u9002_, u9003_, .bool a0_11, u9004_, .string a0_13], .int .i64 a1] w fun e w' => e = .returned (.int .i64 r1) ∧ Kd.R Kd.string 9 w' w0.heap.size (fun k_ => ((P0_6_ k_ ∨ P0_8_ k_ ∨ P0_9_ k_ ∨ P0_10_ k_ ∨ P0_12_ k_) ∨ w.heap.size ≤ k_)) u9000_ r2 ∧ Kd.R Kd.string 9 w' w0.heap.size (fun k_ => ((P0_6_ k_ ∨ P0_8_ k_ ∨ P0_9_ k_ ∨ P0_10_ k_ ∨ P0_12_ k_) ∨ w.heap.size ≤ k_)) u9001_ r3 ∧ Kd.R (Kd.int .i64) 3 w' w0.heap.size (fun k_ => ((P0_6_ k_ ∨ P0_8_ k_ ∨ P0_9_ k_ ∨ P0_10_ k_ ∨ P0_12_ k_) ∨ w.heap.size ≤ k_)) u9002_ r4 ∧ Kd.R k186 186 w' w0.heap.size (fun k_ => ((P0_6_ k_ ∨ P0_8_ k_ ∨ P0_9_ k_ ∨ P0_10_ k_ ∨ P0_12_ k_) ∨ w.heap.size ≤ k_)) u9003_ r5 ∧ Kd.R k138 138 w' w0.heap.size (fun k_ => ((P0_6_ k_ ∨ P0_8_ k_ ∨ P0_9_ k_ ∨ P0_10_ k_ ∨ P0_12_ k_) ∨ w.heap.size ≤ k_)) u9004_ r6 ∧ Below w0.heap.size w0 w' ∧ Kept w w' (fun k_ => P0_6_ k_ ∨ P0_8_ k_ ∨ P0_9_ k_ ∨ P0_10_ k_ ∨ P0_12_ k_) := by
  have hu113 := Try.underlying113
  have hu49 := Try.underlying49
  have hu60 := Try.underlying60
  have HO0_6 := Aside0.mk (show Kd.R Kd.string 9 w w0.heap.size (fun k_ => ((P0_6_ k_ ∨ P0_8_ k_ ∨ P0_9_ k_ ∨ P0_10_ k_ ∨ P0_12_ k_) ∨ w.heap.size ≤ k_) ∧ some k_ ≠ (u9001_ : Value).ownBlock) u9000_ l0_6 from Kd.R_mono ho0_6 (fun k_ hk => ⟨(.inl (.inl hk)), fun e_ => hp0_6_0_8 k_ hk (ho0_8.1 k_ e_.symm)⟩))
  have HO0_8 := Aside0.mk (show Kd.R Kd.string 9 w w0.heap.size (fun k_ => ((P0_6_ k_ ∨ P0_8_ k_ ∨ P0_9_ k_ ∨ P0_10_ k_ ∨ P0_12_ k_) ∨ w.heap.size ≤ k_) ∧ some k_ ≠ (u9000_ : Value).ownBlock) u9001_ l0_8 from Kd.R_mono ho0_8 (fun k_ hk => ⟨(.inl (.inr (.inl hk))), fun e_ => hp0_8_0_6 k_ hk (ho0_6.1 k_ e_.symm)⟩))
  have HO0_9 := Aside0.mk (show Kd.R (Kd.int .i64) 3 w w0.heap.size (fun k_ => ((P0_6_ k_ ∨ P0_8_ k_ ∨ P0_9_ k_ ∨ P0_10_ k_ ∨ P0_12_ k_) ∨ w.heap.size ≤ k_)) u9002_ l0_9 from Kd.R_mono ho0_9 (fun k_ hk => (.inl (.inr (.inr (.inl hk))))))
  have HO0_10 := Aside0.mk (show Kd.R k186 186 w w0.heap.size (fun k_ => ((P0_6_ k_ ∨ P0_8_ k_ ∨ P0_9_ k_ ∨ P0_10_ k_ ∨ P0_12_ k_) ∨ w.heap.size ≤ k_)) u9003_ l0_10 from Kd.R_mono ho0_10 (fun k_ hk => (.inl (.inr (.inr (.inr (.inl hk)))))))
  have HO0_12 := Aside0.mk (show Kd.R k138 138 w w0.heap.size (fun k_ => ((P0_6_ k_ ∨ P0_8_ k_ ∨ P0_9_ k_ ∨ P0_10_ k_ ∨ P0_12_ k_) ∨ w.heap.size ≤ k_)) u9004_ l0_12 from Kd.R_mono ho0_12 (fun k_ hk => (.inl (.inr (.inr (.inr (.inr hk)))))))
  have HK := Aside0.mk (Kept.refl w (fun k_ => P0_6_ k_ ∨ P0_8_ k_ ∨ P0_9_ k_ ∨ P0_10_ k_ ∨ P0_12_ k_))
  have HW0 := Aside0.mk hB.size
  have HB := Aside0.mk hB
  clear hB
  have H : ((laws_markQc.f k a0_4 a0_5 l0_6 a1).bind fun bt1729 => ((laws_markTc.f k a0_7 l0_8 l0_9 bt1729.1).bind fun bt1731 => ((laws_markTxS.f k l0_10 bt1731.1).bind fun bt1734 => ((laws_markValS.f k l0_12 bt1734.1).bind fun bt1736 => (some (bt1736.1, bt1729.2, bt1731.2.1, bt1731.2.2, bt1734.2, bt1736.2)))))) = some (r1, r2, r3, r4, r5, r6) := h
  clear h
  replace H := Option.bind_eq_some_iff.mp H
  obtain ⟨⟨t1729, t1730⟩, A30, H⟩ := H
  replace H : ((laws_markTc.f k a0_7 l0_8 l0_9 t1729).bind fun bt1731 => ((laws_markTxS.f k l0_10 bt1731.1).bind fun bt1734 => ((laws_markValS.f k l0_12 bt1734.1).bind fun bt1736 => (some (bt1736.1, t1730, bt1731.2.1, bt1731.2.2, bt1734.2, bt1736.2))))) = some (r1, r2, r3, r4, r5, r6) := H
  have A3 := Aside0.mk A30
  clear A30
  replace H := Option.bind_eq_some_iff.mp H
  obtain ⟨⟨t1731, t1732, t1733⟩, A40, H⟩ := H
  replace H : ((laws_markTxS.f k l0_10 t1731).bind fun bt1734 => ((laws_markValS.f k l0_12 bt1734.1).bind fun bt1736 => (some (bt1736.1, t1730, t1732, t1733, bt1734.2, bt1736.2)))) = some (r1, r2, r3, r4, r5, r6) := H
  have A4 := Aside0.mk A40
  clear A40
  replace H := Option.bind_eq_some_iff.mp H
  obtain ⟨⟨t1734, t1735⟩, A50, H⟩ := H
  replace H : ((laws_markValS.f k l0_12 t1734).bind fun bt1736 => (some (bt1736.1, t1730, t1732, t1733, t1735, bt1736.2))) = some (r1, r2, r3, r4, r5, r6) := H
  have A5 := Aside0.mk A50
  clear A50
  replace H := Option.bind_eq_some_iff.mp H
  obtain ⟨⟨t1736, t1737⟩, A60, H⟩ := H
  replace H : (some (t1736, t1730, t1732, t1733, t1735, t1737)) = some (r1, r2, r3, r4, r5, r6) := H
  have A6 := Aside0.mk A60
  clear A60
  simp only [Option.some.injEq, Prod.mk.injEq] at H
  obtain ⟨rfl, rfl, rfl, rfl, rfl, rfl⟩ := H
  obtain ⟨Ao7, co7, eo7⟩ := Kd.R_slice HO0_6.out
  subst eo7
  obtain ⟨Ao8, co8, eo8⟩ := Kd.R_slice HO0_8.out
  subst eo8
  obtain ⟨Ao9, co9, eo9⟩ := Kd.R_slice HO0_9.out
  subst eo9
  obtain ⟨Ao10, co10, eo10⟩ := Kd.R_slice HO0_10.out
  subst eo10
  obtain ⟨Ao11, co11, eo11⟩ := Kd.R_slice HO0_12.out
  subst eo11
  go_enter Try.func73, Try.ntmps73
  go_wp2_with (first | ((with_reducible refine gate_dst (N := 2) rfl ?_); refine box_event ?hg (N := 2) ?hd (cs := #[.int .i64 a0_0, .int .i64 a0_1, .int .i64 a0_2, .string a0_3, .int .i64 a0_4, .int .i64 a0_5, .slice Ao7 l0_6.length co7, .int .i64 a0_7, .slice Ao8 l0_8.length co8, .slice Ao9 l0_9.length co9, .slice Ao10 l0_10.length co10, .bool a0_11, .slice Ao11 l0_12.length co11, .string a0_13]) (t := 113) ?hr ?_; (case hd => rfl); (case hg => rfl); (case hr => first | (go_simp; done) | (go_simp; rfl)); intro gb1728 hg w12 hbox hb; have n0_ := Aside0.mk (Kd.R_below (by (with_reducible repeat (first | apply Kd.R_alloc | apply Kd.R_drewN | apply Kd.R_drew)); exact HO0_6.out) hb); have n1_ := Aside0.mk (Kd.R_below (by (with_reducible repeat (first | apply Kd.R_alloc | apply Kd.R_drewN | apply Kd.R_drew)); exact HO0_8.out) hb); have n2_ := Aside0.mk (Kd.R_below (by (with_reducible repeat (first | apply Kd.R_alloc | apply Kd.R_drewN | apply Kd.R_drew)); exact HO0_9.out) hb); have n3_ := Aside0.mk (Kd.R_below (by (with_reducible repeat (first | apply Kd.R_alloc | apply Kd.R_drewN | apply Kd.R_drew)); exact HO0_10.out) hb); have n4_ := Aside0.mk (Kd.R_below (by (with_reducible repeat (first | apply Kd.R_alloc | apply Kd.R_drewN | apply Kd.R_drew)); exact HO0_12.out) hb); have n5_ := Aside0.mk (Kept.below (S := (fun k_ => P0_6_ k_ ∨ P0_8_ k_ ∨ P0_9_ k_ ∨ P0_10_ k_ ∨ P0_12_ k_)) (by repeat (first | (with_reducible first | exact HK.out | apply Kept.alloc | apply Kept.drewN | apply Kept.drew) | exact HK.out)) hb); have n6_ := Aside0.mk (below_step (by repeat (first | (with_reducible first | exact HB.out | apply below_alloc | apply pw_below_drewN | apply below_drew1) | exact HB.out)) hb); have n7_ := Aside0.mk (hbox); have n8_ := Aside0.mk ((by rw [hg]; exact (by first | exact HK.out.1 | exact (show Kept w _ (fun k_ => P0_6_ k_ ∨ P0_8_ k_ ∨ P0_9_ k_ ∨ P0_10_ k_ ∨ P0_12_ k_) from by repeat (first | (with_reducible first | exact HK.out | apply Kept.alloc | apply Kept.drewN | apply Kept.drew) | exact HK.out)).1) : w.heap.size ≤ gb1728)); have n9_ := Aside0.mk ((by rw [hg]; exact (below_size (by repeat (first | (with_reducible first | exact HB.out | apply below_alloc | apply pw_below_drewN | apply below_drew1) | exact HB.out))) : w0.heap.size ≤ gb1728)); clear HO0_6; clear HO0_8; clear HO0_9; clear HO0_10; clear HO0_12; clear HK; clear HB; have HO0_6 := n0_; have HO0_8 := n1_; have HO0_9 := n2_; have HO0_10 := n3_; have HO0_12 := n4_; have HK := n5_; have HB := n6_; have BK1728 := n7_; have GW1728 := n8_; have GE1728 := n9_; clear n0_ n1_ n2_ n3_ n4_ n5_ n6_ n7_ n8_ n9_; clear hb hbox hg; obtain ⟨hcz13_0, hcz13_1, hcz13_2, hcz13_3, hcz13_4, hcz13_5, hcz13_6, hcz13_7, hcz13_8, hcz13_9, hcz13_10, hcz13_11, hcz13_12, hcz13_13⟩ := cells14 BK1728.out; obtain ⟨hfz13_0, hfz13_1, hfz13_2, hfz13_3, hfz13_4, hfz13_5, hfz13_6, hfz13_7, hfz13_8, hfz13_9, hfz13_10, hfz13_11, hfz13_12, hfz13_13⟩ := frozens14 BK1728.out) | ((with_reducible refine gate_callee (f := 53) rfl ?_); refine goesL_ (some 8) rfl rfl Try.func53 (by kernel_rfl) rfl #[.agg #[.int .i64 a0_4, .int .i64 a0_5, .slice Ao7 l0_6.length co7], .int .i64 a1] rfl (by (try simp only [List.map_toArray, List.map_cons, List.map_nil]); first | done | rfl | (simp only [List.length_drop, List.length_take]; rfl)) ?_; (with_reducible refine (laws_markQc.calls k a0_4 a0_5 (fun k_ => some k_ = (.slice Ao7 l0_6.length co7 : Value).ownBlock) (.slice Ao7 l0_6.length co7) l0_6 a1 t1729 t1730 w0 _ ?side1 ?side2 A3.out).mono ?_); (case side1 => repeat (first | (with_reducible first | exact HB.out | apply below_alloc | apply pw_below_drewN | apply below_drew1 | refine below_set ?_ GE1728.out) | exact HB.out)); (case side2 => exact Kd.R_tight rfl HO0_6.out); rintro e w14 ⟨rfl, hy0, hb, hkp⟩; refine ⟨_, rfl, ?_⟩; have n0_ := Aside0.mk (Kd.R_reok rfl hy0 (fun k_ e_ => HO0_6.out.1 k_ e_)); have n1_ := Aside0.mk (Kd.R_mono (ok' := fun k_ => ((P0_6_ k_ ∨ P0_8_ k_ ∨ P0_9_ k_ ∨ P0_10_ k_ ∨ P0_12_ k_) ∨ w.heap.size ≤ k_) ∧ some k_ ≠ (.slice Ao7 l0_6.length co7 : Value).ownBlock) (Kd.R_keptB (HO0_8.out) hkp (fun k_ hk_ hs_ => (hk_.2) hs_)) (fun k_ hk_ => ⟨hk_.1.1, hk_.1.2⟩)); have n2_ := Aside0.mk (Kd.R_mono (ok' := fun k_ => ((P0_6_ k_ ∨ P0_8_ k_ ∨ P0_9_ k_ ∨ P0_10_ k_ ∨ P0_12_ k_) ∨ w.heap.size ≤ k_)) (Kd.R_keptB ((Kd.R_apart' HO0_9.out (Kd.R_typed HO0_6.out) (by decide))) hkp (fun k_ hk_ hs_ => (hk_.2) hs_)) (fun k_ hk_ => hk_.1.1)); have n3_ := Aside0.mk (Kd.R_mono (ok' := fun k_ => ((P0_6_ k_ ∨ P0_8_ k_ ∨ P0_9_ k_ ∨ P0_10_ k_ ∨ P0_12_ k_) ∨ w.heap.size ≤ k_)) (Kd.R_keptB ((Kd.R_apart' HO0_10.out (Kd.R_typed HO0_6.out) (by decide))) hkp (fun k_ hk_ hs_ => (hk_.2) hs_)) (fun k_ hk_ => hk_.1.1)); have n4_ := Aside0.mk (Kd.R_mono (ok' := fun k_ => ((P0_6_ k_ ∨ P0_8_ k_ ∨ P0_9_ k_ ∨ P0_10_ k_ ∨ P0_12_ k_) ∨ w.heap.size ≤ k_)) (Kd.R_keptB ((Kd.R_apart' HO0_12.out (Kd.R_typed HO0_6.out) (by decide))) hkp (fun k_ hk_ hs_ => (hk_.2) hs_)) (fun k_ hk_ => hk_.1.1)); have n5_ := Aside0.mk (blk_kept (by (with_reducible repeat (first | refine blk_drewN ?_ _ | refine blk_drew ?_ | refine blk_alloc ?_ _)); exact BK1728.out) hkp (fun hs_ => (fun e_ => (Kd.R_ne HO0_6.out BK1728.out (by decide)) e_) hs_)); have n6_ := Aside0.mk (Kept.then_ (S := (fun k_ => P0_6_ k_ ∨ P0_8_ k_ ∨ P0_9_ k_ ∨ P0_10_ k_ ∨ P0_12_ k_)) (by repeat (first | (with_reducible first | exact HK.out | apply Kept.alloc | apply Kept.drewN | apply Kept.drew | refine Kept.setCell ?_ (.inr GW1728.out) _) | exact HK.out)) hkp (fun k_ hs_ => (fun e_ => (HO0_6.out.1 k_ e_.symm).1) hs_)); have n7_ := Aside0.mk (hb); clear HO0_6; clear HO0_8; clear HO0_9; clear HO0_10; clear HO0_12; clear BK1728; clear HK; clear HB; have HO0_6 := n0_; have HO0_8 := n1_; have HO0_9 := n2_; have HO0_10 := n3_; have HO0_12 := n4_; have BK1728 := n5_; have HK := n6_; have HB := n7_; clear n0_ n1_ n2_ n3_ n4_ n5_ n6_ n7_; (try clear hb); (try clear hkp); (try clear hy0); obtain ⟨hcz15_0, hcz15_1, hcz15_2, hcz15_3, hcz15_4, hcz15_5, hcz15_6, hcz15_7, hcz15_8, hcz15_9, hcz15_10, hcz15_11, hcz15_12, hcz15_13⟩ := cells14 BK1728.out; obtain ⟨hfz15_0, hfz15_1, hfz15_2, hfz15_3, hfz15_4, hfz15_5, hfz15_6, hfz15_7, hfz15_8, hfz15_9, hfz15_10, hfz15_11, hfz15_12, hfz15_13⟩ := frozens14 BK1728.out) | ((with_reducible refine gate_callee (f := 60) rfl ?_); refine goesL_ (some 12) rfl rfl Try.func60 (by kernel_rfl) rfl #[.agg #[.int .i64 a0_7, .slice Ao8 l0_8.length co8, .slice Ao9 l0_9.length co9], .int .i64 t1729] rfl (by (try simp only [List.map_toArray, List.map_cons, List.map_nil]); first | done | rfl | (simp only [List.length_drop, List.length_take]; rfl)) ?_; (with_reducible refine (laws_markTc.calls k a0_7 (fun k_ => some k_ = (.slice Ao8 l0_8.length co8 : Value).ownBlock) (.slice Ao8 l0_8.length co8) l0_8 (fun k_ => some k_ = (.slice Ao9 l0_9.length co9 : Value).ownBlock) (.slice Ao9 l0_9.length co9) l0_9 t1729 t1731 t1732 t1733 w0 _ ?side1 ?side2 ?side3 A4.out).mono ?_); (case side1 => repeat (first | (with_reducible first | exact HB.out | apply below_alloc | apply pw_below_drewN | apply below_drew1 | refine below_set ?_ GE1728.out) | exact HB.out)); (case side2 => exact Kd.R_tight rfl HO0_8.out); (case side3 => exact Kd.R_tight rfl HO0_9.out); rintro e w16 ⟨rfl, hy0, hy1, hb, hkp⟩; refine ⟨_, rfl, ?_⟩; have n0_ := Aside0.mk (Kd.R_mono (ok' := fun k_ => ((P0_6_ k_ ∨ P0_8_ k_ ∨ P0_9_ k_ ∨ P0_10_ k_ ∨ P0_12_ k_) ∨ w.heap.size ≤ k_) ∧ some k_ ≠ (.slice Ao8 l0_8.length co8 : Value).ownBlock) (Kd.R_keptB ((Kd.R_apart' HO0_6.out (Kd.R_typed HO0_9.out) (by decide))) hkp (fun k_ hk_ hs_ => Or.elim hs_ (fun e_ => (hk_.1.2) e_) (fun e_ => (hk_.2) e_))) (fun k_ hk_ => ⟨hk_.1.1.1, hk_.1.1.2⟩)); have n1_ := Aside0.mk (Kd.R_reok rfl hy0 (fun k_ e_ => HO0_8.out.1 k_ e_)); have n2_ := Aside0.mk (Kd.R_reok rfl hy1 (fun k_ e_ => HO0_9.out.1 k_ e_)); have n3_ := Aside0.mk (Kd.R_mono (ok' := fun k_ => ((P0_6_ k_ ∨ P0_8_ k_ ∨ P0_9_ k_ ∨ P0_10_ k_ ∨ P0_12_ k_) ∨ w.heap.size ≤ k_)) (Kd.R_keptB ((Kd.R_apart' (Kd.R_apart' HO0_10.out (Kd.R_typed HO0_8.out) (by decide)) (Kd.R_typed HO0_9.out) (by decide))) hkp (fun k_ hk_ hs_ => Or.elim hs_ (fun e_ => (hk_.1.2) e_) (fun e_ => (hk_.2) e_))) (fun k_ hk_ => hk_.1.1.1)); have n4_ := Aside0.mk (Kd.R_mono (ok' := fun k_ => ((P0_6_ k_ ∨ P0_8_ k_ ∨ P0_9_ k_ ∨ P0_10_ k_ ∨ P0_12_ k_) ∨ w.heap.size ≤ k_)) (Kd.R_keptB ((Kd.R_apart' (Kd.R_apart' HO0_12.out (Kd.R_typed HO0_8.out) (by decide)) (Kd.R_typed HO0_9.out) (by decide))) hkp (fun k_ hk_ hs_ => Or.elim hs_ (fun e_ => (hk_.1.2) e_) (fun e_ => (hk_.2) e_))) (fun k_ hk_ => hk_.1.1.1)); have n5_ := Aside0.mk (blk_kept (by (with_reducible repeat (first | refine blk_drewN ?_ _ | refine blk_drew ?_ | refine blk_alloc ?_ _)); exact BK1728.out) hkp (fun hs_ => Or.elim hs_ (fun e_ => (fun e_ => (Kd.R_ne HO0_8.out BK1728.out (by decide)) e_) e_) (fun e_ => (fun e_ => (Kd.R_ne HO0_9.out BK1728.out (by decide)) e_) e_))); have n6_ := Aside0.mk (Kept.then_ (S := (fun k_ => P0_6_ k_ ∨ P0_8_ k_ ∨ P0_9_ k_ ∨ P0_10_ k_ ∨ P0_12_ k_)) (by repeat (first | (with_reducible first | exact HK.out | apply Kept.alloc | apply Kept.drewN | apply Kept.drew | refine Kept.setCell ?_ (.inr GW1728.out) _) | exact HK.out)) hkp (fun k_ hs_ => Or.elim hs_ (fun e_ => (fun e_ => (HO0_8.out.1 k_ e_.symm).1) e_) (fun e_ => (fun e_ => (HO0_9.out.1 k_ e_.symm)) e_))); have n7_ := Aside0.mk (hb); clear HO0_6; clear HO0_8; clear HO0_9; clear HO0_10; clear HO0_12; clear BK1728; clear HK; clear HB; have HO0_6 := n0_; have HO0_8 := n1_; have HO0_9 := n2_; have HO0_10 := n3_; have HO0_12 := n4_; have BK1728 := n5_; have HK := n6_; have HB := n7_; clear n0_ n1_ n2_ n3_ n4_ n5_ n6_ n7_; (try clear hb); (try clear hkp); (try clear hy0); (try clear hy1); obtain ⟨hcz17_0, hcz17_1, hcz17_2, hcz17_3, hcz17_4, hcz17_5, hcz17_6, hcz17_7, hcz17_8, hcz17_9, hcz17_10, hcz17_11, hcz17_12, hcz17_13⟩ := cells14 BK1728.out; obtain ⟨hfz17_0, hfz17_1, hfz17_2, hfz17_3, hfz17_4, hfz17_5, hfz17_6, hfz17_7, hfz17_8, hfz17_9, hfz17_10, hfz17_11, hfz17_12, hfz17_13⟩ := frozens14 BK1728.out) | ((with_reducible refine gate_callee (f := 88) rfl ?_); refine goesL_ (some 16) rfl rfl Try.func88 (by kernel_rfl) rfl #[.slice Ao10 l0_10.length co10, .int .i64 t1731] rfl (by (try simp only [List.map_toArray, List.map_cons, List.map_nil]); first | done | rfl | (simp only [List.length_drop, List.length_take]; rfl)) ?_; (with_reducible refine (laws_markTxS.calls k (fun k_ => some k_ = (.slice Ao10 l0_10.length co10 : Value).ownBlock) (.slice Ao10 l0_10.length co10) l0_10 t1731 t1734 t1735 w0 _ ?side1 ?side2 A5.out).mono ?_); (case side1 => repeat (first | (with_reducible first | exact HB.out | apply below_alloc | apply pw_below_drewN | apply below_drew1 | refine below_set ?_ GE1728.out) | exact HB.out)); (case side2 => exact Kd.R_tight rfl HO0_10.out); rintro e w18 ⟨rfl, hy0, hb, hkp⟩; refine ⟨_, rfl, ?_⟩; have n0_ := Aside0.mk (Kd.R_mono (ok' := fun k_ => ((P0_6_ k_ ∨ P0_8_ k_ ∨ P0_9_ k_ ∨ P0_10_ k_ ∨ P0_12_ k_) ∨ w.heap.size ≤ k_) ∧ some k_ ≠ (.slice Ao8 l0_8.length co8 : Value).ownBlock) (Kd.R_keptB ((Kd.R_apart' HO0_6.out (Kd.R_typed HO0_10.out) (by decide))) hkp (fun k_ hk_ hs_ => (hk_.2) hs_)) (fun k_ hk_ => ⟨hk_.1.1.1, hk_.1.1.2⟩)); have n1_ := Aside0.mk (Kd.R_mono (ok' := fun k_ => ((P0_6_ k_ ∨ P0_8_ k_ ∨ P0_9_ k_ ∨ P0_10_ k_ ∨ P0_12_ k_) ∨ w.heap.size ≤ k_) ∧ some k_ ≠ (.slice Ao7 l0_6.length co7 : Value).ownBlock) (Kd.R_keptB ((Kd.R_apart' HO0_8.out (Kd.R_typed HO0_10.out) (by decide))) hkp (fun k_ hk_ hs_ => (hk_.2) hs_)) (fun k_ hk_ => ⟨hk_.1.1.1, hk_.1.1.2⟩)); have n2_ := Aside0.mk (Kd.R_mono (ok' := fun k_ => ((P0_6_ k_ ∨ P0_8_ k_ ∨ P0_9_ k_ ∨ P0_10_ k_ ∨ P0_12_ k_) ∨ w.heap.size ≤ k_)) (Kd.R_keptB ((Kd.R_apart' HO0_9.out (Kd.R_typed HO0_10.out) (by decide))) hkp (fun k_ hk_ hs_ => (hk_.2) hs_)) (fun k_ hk_ => hk_.1.1)); have n3_ := Aside0.mk (Kd.R_reok rfl hy0 (fun k_ e_ => HO0_10.out.1 k_ e_)); have n4_ := Aside0.mk (Kd.R_mono (ok' := fun k_ => ((P0_6_ k_ ∨ P0_8_ k_ ∨ P0_9_ k_ ∨ P0_10_ k_ ∨ P0_12_ k_) ∨ w.heap.size ≤ k_)) (Kd.R_keptB ((Kd.R_apart' HO0_12.out (Kd.R_typed HO0_10.out) (by decide))) hkp (fun k_ hk_ hs_ => (hk_.2) hs_)) (fun k_ hk_ => hk_.1.1)); have n5_ := Aside0.mk (blk_kept (by (with_reducible repeat (first | refine blk_drewN ?_ _ | refine blk_drew ?_ | refine blk_alloc ?_ _)); exact BK1728.out) hkp (fun hs_ => (fun e_ => (Kd.R_ne HO0_10.out BK1728.out (by decide)) e_) hs_)); have n6_ := Aside0.mk (Kept.then_ (S := (fun k_ => P0_6_ k_ ∨ P0_8_ k_ ∨ P0_9_ k_ ∨ P0_10_ k_ ∨ P0_12_ k_)) (by repeat (first | (with_reducible first | exact HK.out | apply Kept.alloc | apply Kept.drewN | apply Kept.drew | refine Kept.setCell ?_ (.inr GW1728.out) _) | exact HK.out)) hkp (fun k_ hs_ => (fun e_ => (HO0_10.out.1 k_ e_.symm)) hs_)); have n7_ := Aside0.mk (hb); clear HO0_6; clear HO0_8; clear HO0_9; clear HO0_10; clear HO0_12; clear BK1728; clear HK; clear HB; have HO0_6 := n0_; have HO0_8 := n1_; have HO0_9 := n2_; have HO0_10 := n3_; have HO0_12 := n4_; have BK1728 := n5_; have HK := n6_; have HB := n7_; clear n0_ n1_ n2_ n3_ n4_ n5_ n6_ n7_; (try clear hb); (try clear hkp); (try clear hy0); obtain ⟨hcz19_0, hcz19_1, hcz19_2, hcz19_3, hcz19_4, hcz19_5, hcz19_6, hcz19_7, hcz19_8, hcz19_9, hcz19_10, hcz19_11, hcz19_12, hcz19_13⟩ := cells14 BK1728.out; obtain ⟨hfz19_0, hfz19_1, hfz19_2, hfz19_3, hfz19_4, hfz19_5, hfz19_6, hfz19_7, hfz19_8, hfz19_9, hfz19_10, hfz19_11, hfz19_12, hfz19_13⟩ := frozens14 BK1728.out) | ((with_reducible refine gate_callee (f := 44) rfl ?_); refine goesL_ (some 20) rfl rfl Try.func44 (by kernel_rfl) rfl #[.slice Ao11 l0_12.length co11, .int .i64 t1734] rfl (by (try simp only [List.map_toArray, List.map_cons, List.map_nil]); first | done | rfl | (simp only [List.length_drop, List.length_take]; rfl)) ?_; (with_reducible refine (laws_markValS.calls k (fun k_ => some k_ = (.slice Ao11 l0_12.length co11 : Value).ownBlock) (.slice Ao11 l0_12.length co11) l0_12 t1734 t1736 t1737 w0 _ ?side1 ?side2 A6.out).mono ?_); (case side1 => repeat (first | (with_reducible first | exact HB.out | apply below_alloc | apply pw_below_drewN | apply below_drew1 | refine below_set ?_ GE1728.out) | exact HB.out)); (case side2 => exact Kd.R_tight rfl HO0_12.out); rintro e w20 ⟨rfl, hy0, hb, hkp⟩; refine ⟨_, rfl, ?_⟩; have n0_ := Aside0.mk (Kd.R_mono (ok' := fun k_ => ((P0_6_ k_ ∨ P0_8_ k_ ∨ P0_9_ k_ ∨ P0_10_ k_ ∨ P0_12_ k_) ∨ w.heap.size ≤ k_) ∧ some k_ ≠ (.slice Ao8 l0_8.length co8 : Value).ownBlock) (Kd.R_keptB ((Kd.R_apart' HO0_6.out (Kd.R_typed HO0_12.out) (by decide))) hkp (fun k_ hk_ hs_ => (hk_.2) hs_)) (fun k_ hk_ => ⟨hk_.1.1.1, hk_.1.1.2⟩)); have n1_ := Aside0.mk (Kd.R_mono (ok' := fun k_ => ((P0_6_ k_ ∨ P0_8_ k_ ∨ P0_9_ k_ ∨ P0_10_ k_ ∨ P0_12_ k_) ∨ w.heap.size ≤ k_) ∧ some k_ ≠ (.slice Ao7 l0_6.length co7 : Value).ownBlock) (Kd.R_keptB ((Kd.R_apart' HO0_8.out (Kd.R_typed HO0_12.out) (by decide))) hkp (fun k_ hk_ hs_ => (hk_.2) hs_)) (fun k_ hk_ => ⟨hk_.1.1.1, hk_.1.1.2⟩)); have n2_ := Aside0.mk (Kd.R_mono (ok' := fun k_ => ((P0_6_ k_ ∨ P0_8_ k_ ∨ P0_9_ k_ ∨ P0_10_ k_ ∨ P0_12_ k_) ∨ w.heap.size ≤ k_)) (Kd.R_keptB ((Kd.R_apart' HO0_9.out (Kd.R_typed HO0_12.out) (by decide))) hkp (fun k_ hk_ hs_ => (hk_.2) hs_)) (fun k_ hk_ => hk_.1.1)); have n3_ := Aside0.mk (Kd.R_mono (ok' := fun k_ => ((P0_6_ k_ ∨ P0_8_ k_ ∨ P0_9_ k_ ∨ P0_10_ k_ ∨ P0_12_ k_) ∨ w.heap.size ≤ k_)) (Kd.R_keptB ((Kd.R_apart' HO0_10.out (Kd.R_typed HO0_12.out) (by decide))) hkp (fun k_ hk_ hs_ => (hk_.2) hs_)) (fun k_ hk_ => hk_.1.1)); have n4_ := Aside0.mk (Kd.R_reok rfl hy0 (fun k_ e_ => HO0_12.out.1 k_ e_)); have n5_ := Aside0.mk (blk_kept (by (with_reducible repeat (first | refine blk_drewN ?_ _ | refine blk_drew ?_ | refine blk_alloc ?_ _)); exact BK1728.out) hkp (fun hs_ => (fun e_ => (Kd.R_ne HO0_12.out BK1728.out (by decide)) e_) hs_)); have n6_ := Aside0.mk (Kept.then_ (S := (fun k_ => P0_6_ k_ ∨ P0_8_ k_ ∨ P0_9_ k_ ∨ P0_10_ k_ ∨ P0_12_ k_)) (by repeat (first | (with_reducible first | exact HK.out | apply Kept.alloc | apply Kept.drewN | apply Kept.drew | refine Kept.setCell ?_ (.inr GW1728.out) _) | exact HK.out)) hkp (fun k_ hs_ => (fun e_ => (HO0_12.out.1 k_ e_.symm)) hs_)); have n7_ := Aside0.mk (hb); clear HO0_6; clear HO0_8; clear HO0_9; clear HO0_10; clear HO0_12; clear BK1728; clear HK; clear HB; have HO0_6 := n0_; have HO0_8 := n1_; have HO0_9 := n2_; have HO0_10 := n3_; have HO0_12 := n4_; have BK1728 := n5_; have HK := n6_; have HB := n7_; clear n0_ n1_ n2_ n3_ n4_ n5_ n6_ n7_; (try clear hb); (try clear hkp); (try clear hy0)))
  go_ret
  exact ⟨by first | rfl | (simp [errW_none, errW_some] <;> rfl) | (simp [*, errW_none, errW_some] <;> rfl), by (with_reducible repeat (first | apply Kd.R_alloc | apply Kd.R_drewN | apply Kd.R_drew)); exact Kd.R_mono HO0_6.out (fun _ hk => hk.1), by (with_reducible repeat (first | apply Kd.R_alloc | apply Kd.R_drewN | apply Kd.R_drew)); exact Kd.R_mono HO0_8.out (fun _ hk => hk.1), by (with_reducible repeat (first | apply Kd.R_alloc | apply Kd.R_drewN | apply Kd.R_drew)); exact HO0_9.out, by (with_reducible repeat (first | apply Kd.R_alloc | apply Kd.R_drewN | apply Kd.R_drew)); exact HO0_10.out, by (with_reducible repeat (first | apply Kd.R_alloc | apply Kd.R_drewN | apply Kd.R_drew)); exact HO0_12.out, by repeat (first | (with_reducible first | exact HB.out | apply below_alloc | apply pw_below_drewN | apply below_drew1 | refine below_set ?_ GE1728.out) | exact HB.out), by repeat (first | (with_reducible first | exact HK.out | apply Kept.alloc | apply Kept.drewN | apply Kept.drew | refine Kept.setCell ?_ (.inr GW1728.out) _) | exact HK.out)⟩

set_option maxHeartbeats 1000000 in
set_option maxRecDepth 100000 in
theorem laws_markBlock.marks {B : Nat} {a w : World} {P : Nat → Prop} {H : Nat → Nat → Prop} {v0 v1 v2 v3 v4 v5 v7 v11 v13 : Value} {A6 : Option Addr} {n6 c6 : Nat} {A8 : Option Addr} {n8 c8 : Nat} {A9 : Option Addr} {n9 c9 : Nat} {A10 : Option Addr} {n10 c10 : Nat} {A12 : Option Addr} {n12 c12 : Nat} {x : Int} (R6 : Rw w B P H 9 1 (fun _ => True) A6 n6) (N6 : n6 ≤ 1048576) (R8 : Rw w B P H 9 1 (fun _ => True) A8 n8) (N8 : n8 ≤ 1048576) (R9 : Rw w B P H 3 1 (fun _ => True) A9 n9) (N9 : n9 ≤ 1048576) (R10 : Rw w B P H 186 5 (fun _ => True) A10 n10) (N10 : n10 ≤ 1048576) (R12 : Rw w B P H 138 2 (fun _ => True) A12 n12) (N12 : n12 ≤ 1048576) (h0 : 0 ≤ x) (h1 : x ≤ 1000000000000) (e0 : Mk B a w P H) :
    Calls Try.prog 73 #[.agg #[v0, v1, v2, v3, v4, v5, .slice A6 n6 c6, v7, .slice A8 n8 c8, .slice A9 n9 c9, .slice A10 n10 c10, v11, .slice A12 n12 c12, v13], .int .i64 x] e0.now fun r W => ∃ m : Int, r = .returned (.int .i64 m) ∧ (∃ e : Mk B a w P H, W = e.now) ∧ 0 ≤ m ∧ m ≤ x + (1 * (n6 : Int) + 1 * (n8 : Int) + 1 * (n9 : Int) + 5 * (n10 : Int) + 2 * (n12 : Int)) := by
  have HX := Aside0.mk (And.intro h0 h1)
  clear h0 h1
  have Q6 := Aside0.mk R6
  clear R6
  have Q8 := Aside0.mk R8
  clear R8
  have Q9 := Aside0.mk R9
  clear R9
  have Q10 := Aside0.mk R10
  clear R10
  have Q12 := Aside0.mk R12
  clear R12
  go_enter Try.func73, Try.ntmps73
  go_wp2_with fail
  refine (laws_markQc.marks (Q6.out.boxed e0 _) N6 (by have := HX.out; omega) (by have := HX.out; omega) (e0.box _)).mono ?_
  rintro _ _ ⟨m0, rfl, ⟨e1, rfl⟩, hm0, hm1⟩
  have M0 := Aside0.mk (And.intro hm0 hm1)
  clear hm0 hm1
  have b7 := Mk.boxcell e1 7 rfl
  have b8 := Mk.boxcell e1 8 rfl
  have b9 := Mk.boxcell e1 9 rfl
  go_wp2_with fail
  refine (laws_markTc.marks (Q8.out.boxed e0 _) N8 (Q9.out.boxed e0 _) N9 (by have := HX.out; have := M0.out; omega) (by have := HX.out; have := M0.out; omega) e1).mono ?_
  rintro _ _ ⟨m1, rfl, ⟨e2, rfl⟩, hm0, hm1⟩
  have M1 := Aside0.mk (And.intro hm0 hm1)
  clear hm0 hm1 b7 b8 b9
  have b10 := Mk.boxcell e2 10 rfl
  go_wp2_with fail
  refine (laws_markTxS.marks (Q10.out.boxed e0 _) N10 (by have := HX.out; have := M0.out; have := M1.out; omega) (by have := HX.out; have := M0.out; have := M1.out; omega) e2).mono ?_
  rintro _ _ ⟨m2, rfl, ⟨e3, rfl⟩, hm0, hm1⟩
  have M2 := Aside0.mk (And.intro hm0 hm1)
  clear hm0 hm1 b10
  have b12 := Mk.boxcell e3 12 rfl
  go_wp2_with fail
  refine (laws_markValS.marks (Q12.out.boxed e0 _) N12 (by have := HX.out; have := M0.out; have := M1.out; have := M2.out; omega) (by have := HX.out; have := M0.out; have := M1.out; have := M2.out; omega) e3).mono ?_
  rintro _ _ ⟨m3, rfl, ⟨e4, rfl⟩, hm0, hm1⟩
  have M3 := Aside0.mk (And.intro hm0 hm1)
  clear hm0 hm1 b12
  obtain ⟨e', he⟩ := Mk.unbox e4
  have HE := Aside0.mk he
  clear he
  go_wp2
  go_ret
  exact ⟨m3, rfl, ⟨e', HE.out⟩, by have := M0.out; have := M1.out; have := M2.out; have := M3.out; omega, by have := M0.out; have := M1.out; have := M2.out; have := M3.out; omega⟩
theorem laws_markBlock.keep {x : S113} {ds : List Value} {a w : World} {ok : Nat → Prop} (hM : k113.M w a.heap.size ok x ds) (hb : Below a.heap.size a w) (hf : x.f4.f2.length ≤ 1048576 ∧ x.f5.f1.length ≤ 1048576 ∧ x.f5.f2.length ≤ 1048576 ∧ x.f6.length ≤ 1048576 ∧ x.f8.length ≤ 1048576) {n : Int} (h0 : 0 ≤ n) (h1 : n ≤ 1000000000000) :
    Calls Try.prog 73 #[.agg ds.toArray, .int .i64 n] w fun r W => ∃ m : Int, r = .returned (.int .i64 m) ∧ 0 ≤ m ∧ m ≤ n + 10485760 ∧ Below a.heap.size a W ∧ Kept w W ok := by
  obtain ⟨v6, v8, v9, v10, v12, rfl, g6, g8, g9, g10, g12⟩ := k113_openM hM
  obtain ⟨A6, c6, rfl⟩ := Kd.R_slice g6
  obtain ⟨A8, c8, rfl⟩ := Kd.R_slice g8
  obtain ⟨A9, c9, rfl⟩ := Kd.R_slice g9
  obtain ⟨A10, c10, rfl⟩ := Kd.R_slice g10
  obtain ⟨A12, c12, rfl⟩ := Kd.R_slice g12
  obtain ⟨f6, f8, f9, f10, f12⟩ := hf
  refine (laws_markBlock.marks (Rw.of_R (B := a.heap.size) (P := ok) (H := fun _ _ => False) (F := fun _ => True) (⟨#[]⟩ : ByteArray) g6 (by decide) (fun _ h => h) (Nat.le_refl _) (fun _ _ _ _ _ _ _ h => h)) f6 (Rw.of_R (B := a.heap.size) (P := ok) (H := fun _ _ => False) (F := fun _ => True) (⟨#[]⟩ : ByteArray) g8 (by decide) (fun _ h => h) (Nat.le_refl _) (fun _ _ _ _ _ _ _ h => h)) f8 (Rw.of_R (B := a.heap.size) (P := ok) (H := fun _ _ => False) (F := fun _ => True) (0 : Int) g9 (by decide) (fun _ h => h) (Nat.le_refl _) (fun _ _ _ _ _ _ _ h => h)) f9 (Rw.of_R (B := a.heap.size) (P := ok) (H := fun _ _ => False) (F := fun _ => True) z186 g10 (by decide) (fun _ h => h) (Nat.le_refl _) (fun _ _ _ _ _ _ _ h => h)) f10 (Rw.of_R (B := a.heap.size) (P := ok) (H := fun _ _ => False) (F := fun _ => True) z138 g12 (by decide) (fun _ h => h) (Nat.le_refl _) (fun _ _ _ _ _ _ _ h => h)) f12 h0 h1 (Mk.start (Nat.le_refl _) (fun _ _ h => h.elim) hb)).mono ?_
  rintro _ W ⟨m, rfl, ⟨e, rfl⟩, hm0, hm1⟩
  exact ⟨m, rfl, hm0, by omega, e.ok, e.kept⟩

end Go.Proofs.Ytadkhkpchankjaa.F
