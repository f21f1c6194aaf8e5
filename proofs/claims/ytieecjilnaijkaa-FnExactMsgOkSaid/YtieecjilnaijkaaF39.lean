/-
Functions of the program, what they come to, and that Go comes to just that: laws_szBlockS, laws_szVote, laws_szGone, laws_szMsg, spec_l13Blocks, spec_l13Cert, laws_toBlockS, laws_toVote, laws_toGone, laws_toMsg, impl_voteOk, laws_eqBlockS, laws_eqVote, laws_eqGone, laws_eqMsg.
Conditions: those that each theorem names.
-/
import Derived.Test.YtieecjilnaijkaaFAbs
import Derived.Test.YtieecjilnaijkaaF4
import Derived.Test.YtieecjilnaijkaaF8
import Derived.Test.YtieecjilnaijkaaF19
import Derived.Test.YtieecjilnaijkaaF20
import Derived.Test.YtieecjilnaijkaaF22
import Derived.Test.YtieecjilnaijkaaF32
import Derived.Test.YtieecjilnaijkaaF37
import Derived.Test.YtieecjilnaijkaaFew
import Derived.Test.YtieecjilnaijkaaFam
set_option linter.unusedVariables false
set_option linter.unusedSimpArgs false
namespace Go.Proofs.Ytieecjilnaijkaa.F
open Go.RowKit Go.Proofs.YtieecjilnaijkaaW.PrintWords Go.Proofs.YtieecjilnaijkaaW.PrintLast Go.Proofs.Ytieecjilnaijkaa.Base Go.Proofs.Ytieecjilnaijkaa.BW
open Go.Proofs.Ytieecjilnaijkaa.FamW
open Go.Proofs.Ytieecjilnaijkaa.Few

/-! ### laws_szBlockS: printed by compact.py -/
set_option maxHeartbeats 1000000 in
set_option maxRecDepth 100000 in
theorem laws_szBlockS.does {xs : List S64} {left : Int} (hw : (fun l : List S64 => l.length ≤ maxLen ∧ ∀ x ∈ l, w64 x) xs) (h0 : 0 ≤ left) (h1 : left ≤ 1048576) {B : Option Addr} {c : Nat} {w : World} (hr : Kd.C k64 w B xs.length xs) (hc : xs.length ≤ c) :
    Calls Try.prog 98 #[.slice B xs.length c, .int .i64 left] w fun e w' => e = .returned (.int .i64 (szR ((xs.length : Int) + sums hold64 xs) left)) ∧ Below w.heap.size w w' := by
  have hlen : (xs.length : Int) ≤ 9223372036854775807 := by have h := hw.1; have : maxLen = 9223372036854775807 := rfl; omega
  have hnn := sums_nn (h := hold64) hold64.nn xs
  obtain ⟨r, hR⟩ : ∃ r, szR ((xs.length : Int) + sums hold64 xs) left = r := ⟨_, rfl⟩
  rw [hR]
  by_cases c0 : (xs.length : Int) ≤ left
  rotate_left
  · have H0 : r = -1 := hR ▸ szR_no (by omega)
    have c0' : decide (left - (xs.length : Int) < 0) = true := decide_eq_true (by omega)
    clear hw hr hc hR c0 hnn
    subst H0
    go_enter Try.func98, Try.ntmps98
    go_wp2
    go_ret
    exact ⟨rfl, Below.refl _ _⟩
  have c0' : decide (left - (xs.length : Int) < 0) = false := decide_eq_false (by omega)
  have HT := Aside0.mk (sz_first (h := hold64) hold64.nn hR c0)
  have HR := Aside0.mk hr
  have HW := Aside0.mk hw.2
  have hb0 : left - (xs.length : Int) ≤ 1048576 := by omega
  have hb1 : 0 ≤ left - (xs.length : Int) := by omega
  clear hw hr hR hnn
  go_enter Try.func98, Try.ntmps98
  go_wp2
  go_loopg [1, 5] xs.length (fun g v1 v5 w' => ∃ (s i : Int) (e : On w), v1 = .int .i64 s ∧ v5 = .int .i64 i ∧ w' = e.now ∧ 0 ≤ i ∧ i ≤ xs.length ∧ 0 ≤ s ∧ s ≤ 1048576 ∧ Aside0 ((xs.length : Int) - i ≤ g) ∧ Aside0 (szR (sums hold64 (xs.drop i.toNat)) s = r))
  case atStart => exact ⟨_, 0, On.here w, rfl, rfl, rfl, Int.le_refl _, by omega, hb1, hb0, ⟨by omega⟩, HT⟩
  case round =>
    clear HT c0 hb0 hb1 c0' h0 h1
    obtain ⟨s, i, e, rfl, rfl, rfl, hi0, hi1, hs0, hs1, HG, HT⟩ := hrel
    by_cases c1 : i < (xs.length : Int)
    rotate_left
    · have HF := Aside0.mk (sz_end (by omega) hs0 HT.out)
      go_wp2
      go_ret
      exact ⟨by obtain rfl := HF.out; rfl, e.ok⟩
    obtain ⟨ad, A6, a6, A8, a8, A9, a9, A10, a10, A12, a12, e1, h0, h1, h2, h3, h4, h5, h6, h7, h8, h9, h10, h11, h12, h13, l6, g6, l8, g8, l9, g9, l10, g10, l12, g12⟩ := at_T64 HR.out i hi0 c1
    cases e1
    have R0 := On.cell h0
    have R1 := On.cell h1
    have R2 := On.cell h2
    have R3 := On.cell h3
    have R4 := On.cell h4
    have R5 := On.cell h5
    have R6 := On.cell h6
    have R7 := On.cell h7
    have R8 := On.cell h8
    have R9 := On.cell h9
    have R10 := On.cell h10
    have R11 := On.cell h11
    have R12 := On.cell h12
    have R13 := On.cell h13
    have hz : xs.getD i.toNat z64 = rd_T64 xs i := rfl
    have E1 := Aside0.mk (fun e : On w => laws_szBlock.does (HW.out _ (getD_mem (by omega) z64)) hs0 hs1 (k64_mk e.now (rd_T64 xs i) l6 (On.row g6 e) l8 (On.row g8 e) l9 (On.row g9 e) l10 (On.row g10 e) l12 (On.row g12 e)))
    obtain ⟨m, hm⟩ : ∃ m, hold64 (rd_T64 xs i) = m := ⟨_, rfl⟩
    have hm0 : 0 ≤ m := hm ▸ hold64.nn _
    simp only [show xs.getD i.toNat z64 = rd_T64 xs i from rfl, hm] at E1
    clear h0 h1 h2 h3 h4 h5 h6 h7 h8 h9 h10 h11 h12 h13 l6 g6 l8 g8 l9 g9 l10 g10 l12 g12
    by_cases c2 : m ≤ s
    rotate_left
    · have H1 := Aside0.mk (sz_over (z := z64) hold64.nn hi0 c1 HT.out (by rw [hz, hm]; omega))
      rw [szR_no (by omega)] at E1
      clear hz hm c2 hm0
      go_wp2_with fail
      refine BW.call (E1.out _) (fun e2 => ?_)
      go_wp2
      go_ret
      exact ⟨by obtain rfl := H1.out; rfl, e2.ok⟩
    have H1 := Aside0.mk (sz_next (z := z64) hold64.nn hi0 c1 hs0 HT.out (by rw [hz, hm]; omega))
    rw [hz, hm] at H1
    rw [szR_ge c2] at E1
    have c2' : decide (s - m < 0) = false := decide_eq_false (by omega)
    have hq : 0 ≤ s - m := by omega
    have hq2 : s - m ≤ 1048576 := by omega
    clear hz hm c2
    go_wp2_with fail
    refine BW.call (E1.out _) (fun e2 => ?_)
    go_wp2
    go_roundg (xs.length - i.toNat - 1)
    case measure => have := HG.out; omega
    case rel => exact ⟨_, i + 1, e2, rfl, rfl, rfl, by omega, by omega, hq, hq2, ⟨by omega⟩, H1⟩

/-! ### laws_szVote: printed by compact.py -/
/-- How much a value of struct type 75 holds. -/
def hold75 (x : S75) : Int := (x.f2.size : Int) + (0)
theorem hold75.nn (x : S75) : 0 ≤ hold75 x := by
  unfold hold75
  have n2 := (show 0 ≤ (x.f2.size : Int) from (Int.natCast_nonneg _))
  omega
set_option maxHeartbeats 2000000 in
set_option maxRecDepth 100000 in
theorem laws_szVote.does {x : S75} {left : Int} (hw : w75 x) (h0 : 0 ≤ left) (h1 : left ≤ 1048576) {cs : List Value} {w : World} (hK : k75.K w x cs) :
    Calls Try.prog 99 #[.agg cs.toArray, .int .i64 left] w fun e w' => e = .returned (.int .i64 (szR (hold75 x) left)) ∧ Below w.heap.size w w' := by
  obtain rfl := k75_open hK
  obtain ⟨r, hR⟩ : ∃ r, szR (hold75 x) left = r := ⟨_, rfl⟩
  rw [hR]
  unfold hold75 at hR
  have n2 : 0 ≤ (x.f2.size : Int) := (Int.natCast_nonneg _)
  have z2 : (x.f2.size : Int) ≤ 9223372036854775807 := by have h := hw.2.2; have : maxLen = 9223372036854775807 := rfl; omega
  obtain ⟨m2, hm2⟩ : ∃ m : Int, m = (x.f2.size : Int) := ⟨_, rfl⟩
  rw [← hm2] at hR n2 z2
  clear hw hK
  have HR := Aside0.mk hR
  clear hR
  have HM2 := Aside0.mk hm2
  clear hm2
  have HB := Aside0.mk (Below.refl w.heap.size w)
  go_enter Try.func99, Try.ntmps99
  by_cases d2 : m2 ≤ left
  rotate_left
  · have H1 : Aside0 (r = -1) := ⟨HR.out ▸ szR_no (by omega)⟩
    have c_ : decide (left - ((x.f2.size : Int) : Int) < 0) = true := decide_eq_true (by have := HM2.out; omega)
    have z_ : (x.f2.size : Int) ≤ 9223372036854775807 := by have := HM2.out; omega
    clear d2 HR
    go_wp2
    go_ret
    exact ⟨by obtain rfl := H1.out; rfl, atop HB.out⟩
  replace HR := Aside0.mk ((sz_part d2).symm.trans HR.out)
  have HN2 := HM2.out
  subst HN2
  clear HM2
  have c_2 : decide (left - ((x.f2.size : Int)) < 0) = false := decide_eq_false (by omega)
  have p_2 : 0 ≤ left - (x.f2.size : Int) := by omega
  have q_2 : left - (x.f2.size : Int) ≤ 1048576 := by omega
  clear d2
  have H1 := Aside0.mk (HR.out.symm.trans (szR_zero (by omega)))
  clear HR
  go_wp2
  go_ret
  exact ⟨by obtain rfl := H1.out; rfl, atop HB.out⟩

/-! ### laws_szGone: printed by compact.py -/
/-- How much a value of struct type 77 holds. -/
def hold77 (x : S77) : Int := (x.f2.size : Int) + (0)
theorem hold77.nn (x : S77) : 0 ≤ hold77 x := by
  unfold hold77
  have n2 := (show 0 ≤ (x.f2.size : Int) from (Int.natCast_nonneg _))
  omega
set_option maxHeartbeats 2000000 in
set_option maxRecDepth 100000 in
theorem laws_szGone.does {x : S77} {left : Int} (hw : w77 x) (h0 : 0 ≤ left) (h1 : left ≤ 1048576) {cs : List Value} {w : World} (hK : k77.K w x cs) :
    Calls Try.prog 100 #[.agg cs.toArray, .int .i64 left] w fun e w' => e = .returned (.int .i64 (szR (hold77 x) left)) ∧ Below w.heap.size w w' := by
  obtain rfl := k77_open hK
  obtain ⟨r, hR⟩ : ∃ r, szR (hold77 x) left = r := ⟨_, rfl⟩
  rw [hR]
  unfold hold77 at hR
  have n2 : 0 ≤ (x.f2.size : Int) := (Int.natCast_nonneg _)
  have z2 : (x.f2.size : Int) ≤ 9223372036854775807 := by have h := hw.2.2; have : maxLen = 9223372036854775807 := rfl; omega
  obtain ⟨m2, hm2⟩ : ∃ m : Int, m = (x.f2.size : Int) := ⟨_, rfl⟩
  rw [← hm2] at hR n2 z2
  clear hw hK
  have HR := Aside0.mk hR
  clear hR
  have HM2 := Aside0.mk hm2
  clear hm2
  have HB := Aside0.mk (Below.refl w.heap.size w)
  go_enter Try.func100, Try.ntmps100
  by_cases d2 : m2 ≤ left
  rotate_left
  · have H1 : Aside0 (r = -1) := ⟨HR.out ▸ szR_no (by omega)⟩
    have c_ : decide (left - ((x.f2.size : Int) : Int) < 0) = true := decide_eq_true (by have := HM2.out; omega)
    have z_ : (x.f2.size : Int) ≤ 9223372036854775807 := by have := HM2.out; omega
    clear d2 HR
    go_wp2
    go_ret
    exact ⟨by obtain rfl := H1.out; rfl, atop HB.out⟩
  replace HR := Aside0.mk ((sz_part d2).symm.trans HR.out)
  have HN2 := HM2.out
  subst HN2
  clear HM2
  have c_2 : decide (left - ((x.f2.size : Int)) < 0) = false := decide_eq_false (by omega)
  have p_2 : 0 ≤ left - (x.f2.size : Int) := by omega
  have q_2 : left - (x.f2.size : Int) ≤ 1048576 := by omega
  clear d2
  have H1 := Aside0.mk (HR.out.symm.trans (szR_zero (by omega)))
  clear HR
  go_wp2
  go_ret
  exact ⟨by obtain rfl := H1.out; rfl, atop HB.out⟩

/-! ### laws_szMsg: printed by compact.py -/
/-- How much a value of struct type 79 holds. -/
def hold79 (x : S79) : Int := (x.f1.size : Int) + (((x.f3.length : Int) + sums hold64 x.f3) + ((hold75 x.f4) + ((hold77 x.f5) + ((hold54 x.f6) + ((hold33 x.f7) + (0))))))
theorem hold79.nn (x : S79) : 0 ≤ hold79 x := by
  unfold hold79
  have n1 := (show 0 ≤ (x.f1.size : Int) from (Int.natCast_nonneg _))
  have n3 := (show 0 ≤ ((x.f3.length : Int) + sums hold64 x.f3) from (Int.add_nonneg (Int.natCast_nonneg _) (sums_nn hold64.nn x.f3)))
  have n4 := (show 0 ≤ (hold75 x.f4) from (hold75.nn x.f4))
  have n5 := (show 0 ≤ (hold77 x.f5) from (hold77.nn x.f5))
  have n6 := (show 0 ≤ (hold54 x.f6) from (hold54.nn x.f6))
  have n7 := (show 0 ≤ (hold33 x.f7) from (hold33.nn x.f7))
  omega
set_option maxHeartbeats 2000000 in
set_option maxRecDepth 100000 in
theorem laws_szMsg.does {x : S79} {left : Int} (hw : w79 x) (h0 : 0 ≤ left) (h1 : left ≤ 1048576) {cs : List Value} {w : World} (hK : k79.K w x cs) :
    Calls Try.prog 55 #[.agg cs.toArray, .int .i64 left] w fun e w' => e = .returned (.int .i64 (szR (hold79 x) left)) ∧ Below w.heap.size w w' := by
  have HK := Aside0.mk hK
  obtain ⟨A3, a3, A12, a12, A14, a14, A15, a15, rfl, l3, g3, l12, g12, l14, g14, l15, g15⟩ := k79_open hK
  obtain ⟨r, hR⟩ : ∃ r, szR (hold79 x) left = r := ⟨_, rfl⟩
  rw [hR]
  unfold hold79 at hR
  have n1 : 0 ≤ (x.f1.size : Int) := (Int.natCast_nonneg _)
  have z1 : (x.f1.size : Int) ≤ 9223372036854775807 := by have h := hw.2.1; have : maxLen = 9223372036854775807 := rfl; omega
  have n3 : 0 ≤ ((x.f3.length : Int) + sums hold64 x.f3) := (Int.add_nonneg (Int.natCast_nonneg _) (sums_nn hold64.nn x.f3))
  have E3 := Aside0.mk (fun (W : World) (s : Int) (hb : Below w.heap.size w W) (q0 : 0 ≤ s) (q1 : s ≤ 1048576) => laws_szBlockS.does (w := W) hw.2.2.2.1 q0 q1 (Kd.C_below g3 hb) l3)
  have n4 : 0 ≤ (hold75 x.f4) := (hold75.nn x.f4)
  have E4 := Aside0.mk (fun (W : World) (s : Int) (hb : Below w.heap.size w W) (q0 : 0 ≤ s) (q1 : s ≤ 1048576) => laws_szVote.does (w := W) hw.2.2.2.2.1 q0 q1 (k75_mk W x.f4))
  have n5 : 0 ≤ (hold77 x.f5) := (hold77.nn x.f5)
  have E5 := Aside0.mk (fun (W : World) (s : Int) (hb : Below w.heap.size w W) (q0 : 0 ≤ s) (q1 : s ≤ 1048576) => laws_szGone.does (w := W) hw.2.2.2.2.2.1 q0 q1 (k77_mk W x.f5))
  have n6 : 0 ≤ (hold54 x.f6) := (hold54.nn x.f6)
  have E6 := Aside0.mk (fun (W : World) (s : Int) (hb : Below w.heap.size w W) (q0 : 0 ≤ s) (q1 : s ≤ 1048576) => laws_szQc.does (w := W) hw.2.2.2.2.2.2.1 q0 q1 (k54_mk W x.f6 l12 (Kd.C_below g12 hb)))
  have n7 : 0 ≤ (hold33 x.f7) := (hold33.nn x.f7)
  have E7 := Aside0.mk (fun (W : World) (s : Int) (hb : Below w.heap.size w W) (q0 : 0 ≤ s) (q1 : s ≤ 1048576) => laws_szTc.does (w := W) hw.2.2.2.2.2.2.2 q0 q1 (k33_mk W x.f7 l14 (Kd.C_below g14 hb) l15 (Kd.C_below g15 hb)))
  obtain ⟨m1, hm1⟩ : ∃ m : Int, m = (x.f1.size : Int) := ⟨_, rfl⟩
  generalize ((x.f3.length : Int) + sums hold64 x.f3) = m3 at hR n3 E3
  generalize (hold75 x.f4) = m4 at hR n4 E4
  generalize (hold77 x.f5) = m5 at hR n5 E5
  generalize (hold54 x.f6) = m6 at hR n6 E6
  generalize (hold33 x.f7) = m7 at hR n7 E7
  rw [← hm1] at hR n1 z1
  clear hw hK l3 g3 l12 g12 l14 g14 l15 g15
  have HR := Aside0.mk hR
  clear hR
  have HM1 := Aside0.mk hm1
  clear hm1
  have HB := Aside0.mk (Below.refl w.heap.size w)
  go_enter Try.func55, Try.ntmps55
  by_cases d1 : m1 ≤ left
  rotate_left
  · have H1 : Aside0 (r = -1) := ⟨HR.out ▸ szR_no (by omega)⟩
    have c_ : decide (left - ((x.f1.size : Int) : Int) < 0) = true := decide_eq_true (by have := HM1.out; omega)
    have z_ : (x.f1.size : Int) ≤ 9223372036854775807 := by have := HM1.out; omega
    clear d1 HR
    go_wp2
    go_ret
    exact ⟨by obtain rfl := H1.out; rfl, atop HB.out⟩
  replace HR := Aside0.mk ((sz_part d1).symm.trans HR.out)
  have HN1 := HM1.out
  subst HN1
  clear HM1
  have c_1 : decide (left - ((x.f1.size : Int)) < 0) = false := decide_eq_false (by omega)
  have p_1 : 0 ≤ left - (x.f1.size : Int) := by omega
  have q_1 : left - (x.f1.size : Int) ≤ 1048576 := by omega
  clear d1
  by_cases d3 : m3 ≤ left - (x.f1.size : Int)
  rotate_left
  · have H1 : Aside0 (r = -1) := ⟨HR.out ▸ szR_no (by omega)⟩
    have E := Aside0.mk (fun (W : World) hb => E3.out W (left - (x.f1.size : Int)) hb (by omega) (by omega))
    rw [szR_no (by omega)] at E
    clear d3 HR
    go_wp2_with fail
    refine (E.out _ (atop HB.out)).mono ?_
    rintro _ W1 ⟨rfl, hb⟩
    replace HB := Aside0.mk (then_ HB.out (off1 hb))
    clear hb
    go_wp2
    go_ret
    exact ⟨by obtain rfl := H1.out; rfl, HB.out⟩
  have F3 := Aside0.mk (fun (W : World) hb => E3.out W (left - (x.f1.size : Int)) hb (by omega) (by omega))
  rw [szR_ge d3] at F3
  replace HR := Aside0.mk ((sz_part d3).symm.trans HR.out)
  have c_3 : decide (left - (x.f1.size : Int) - m3 < 0) = false := decide_eq_false (by omega)
  have p_3 : 0 ≤ left - (x.f1.size : Int) - m3 := by omega
  have q_3 : left - (x.f1.size : Int) - m3 ≤ 1048576 := by omega
  clear d3 E3
  go_wp2_with fail
  refine (F3.out _ (atop HB.out)).mono ?_
  rintro _ W3 ⟨rfl, hb⟩
  have BX := Aside0.mk (box hb)
  replace HB := Aside0.mk (then_ HB.out (off1 hb))
  clear hb F3
  by_cases d4 : m4 ≤ left - (x.f1.size : Int) - m3
  rotate_left
  · have H1 : Aside0 (r = -1) := ⟨HR.out ▸ szR_no (by omega)⟩
    have E := Aside0.mk (fun (W : World) hb => E4.out W (left - (x.f1.size : Int) - m3) hb (by omega) (by omega))
    rw [szR_no (by omega)] at E
    obtain ⟨b0, b1, b2, b3, b4, b5, b6, b7, b8, b9, b10, b11, b12, b13, b14, b15⟩ := cells16 BX.out
    clear d4 HR
    go_wp2_with fail
    refine (E.out _ HB.out).mono ?_
    rintro _ W1 ⟨rfl, hb⟩
    replace HB := Aside0.mk (then_ HB.out hb)
    clear hb
    go_wp2
    go_ret
    exact ⟨by obtain rfl := H1.out; rfl, HB.out⟩
  have F4 := Aside0.mk (fun (W : World) hb => E4.out W (left - (x.f1.size : Int) - m3) hb (by omega) (by omega))
  rw [szR_ge d4] at F4
  obtain ⟨b0, b1, b2, b3, b4, b5, b6, b7, b8, b9, b10, b11, b12, b13, b14, b15⟩ := cells16 BX.out
  replace HR := Aside0.mk ((sz_part d4).symm.trans HR.out)
  have c_4 : decide (left - (x.f1.size : Int) - m3 - m4 < 0) = false := decide_eq_false (by omega)
  have p_4 : 0 ≤ left - (x.f1.size : Int) - m3 - m4 := by omega
  have q_4 : left - (x.f1.size : Int) - m3 - m4 ≤ 1048576 := by omega
  clear d4 E4
  go_wp2_with fail
  refine (F4.out _ HB.out).mono ?_
  rintro _ W4 ⟨rfl, hb⟩
  replace BX := Aside0.mk (blk_below BX.out hb)
  replace HB := Aside0.mk (then_ HB.out hb)
  clear b0 b1 b2 b3 b4 b5 b6 b7 b8 b9 b10 b11 b12 b13 b14 b15
  clear hb F4
  by_cases d5 : m5 ≤ left - (x.f1.size : Int) - m3 - m4
  rotate_left
  · have H1 : Aside0 (r = -1) := ⟨HR.out ▸ szR_no (by omega)⟩
    have E := Aside0.mk (fun (W : World) hb => E5.out W (left - (x.f1.size : Int) - m3 - m4) hb (by omega) (by omega))
    rw [szR_no (by omega)] at E
    obtain ⟨b0, b1, b2, b3, b4, b5, b6, b7, b8, b9, b10, b11, b12, b13, b14, b15⟩ := cells16 BX.out
    clear d5 HR
    go_wp2_with fail
    refine (E.out _ HB.out).mono ?_
    rintro _ W1 ⟨rfl, hb⟩
    replace HB := Aside0.mk (then_ HB.out hb)
    clear hb
    go_wp2
    go_ret
    exact ⟨by obtain rfl := H1.out; rfl, HB.out⟩
  have F5 := Aside0.mk (fun (W : World) hb => E5.out W (left - (x.f1.size : Int) - m3 - m4) hb (by omega) (by omega))
  rw [szR_ge d5] at F5
  obtain ⟨b0, b1, b2, b3, b4, b5, b6, b7, b8, b9, b10, b11, b12, b13, b14, b15⟩ := cells16 BX.out
  replace HR := Aside0.mk ((sz_part d5).symm.trans HR.out)
  have c_5 : decide (left - (x.f1.size : Int) - m3 - m4 - m5 < 0) = false := decide_eq_false (by omega)
  have p_5 : 0 ≤ left - (x.f1.size : Int) - m3 - m4 - m5 := by omega
  have q_5 : left - (x.f1.size : Int) - m3 - m4 - m5 ≤ 1048576 := by omega
  clear d5 E5
  go_wp2_with fail
  refine (F5.out _ HB.out).mono ?_
  rintro _ W5 ⟨rfl, hb⟩
  replace BX := Aside0.mk (blk_below BX.out hb)
  replace HB := Aside0.mk (then_ HB.out hb)
  clear b0 b1 b2 b3 b4 b5 b6 b7 b8 b9 b10 b11 b12 b13 b14 b15
  clear hb F5
  by_cases d6 : m6 ≤ left - (x.f1.size : Int) - m3 - m4 - m5
  rotate_left
  · have H1 : Aside0 (r = -1) := ⟨HR.out ▸ szR_no (by omega)⟩
    have E := Aside0.mk (fun (W : World) hb => E6.out W (left - (x.f1.size : Int) - m3 - m4 - m5) hb (by omega) (by omega))
    rw [szR_no (by omega)] at E
    obtain ⟨b0, b1, b2, b3, b4, b5, b6, b7, b8, b9, b10, b11, b12, b13, b14, b15⟩ := cells16 BX.out
    clear d6 HR
    go_wp2_with fail
    refine (E.out _ HB.out).mono ?_
    rintro _ W1 ⟨rfl, hb⟩
    replace HB := Aside0.mk (then_ HB.out hb)
    clear hb
    go_wp2
    go_ret
    exact ⟨by obtain rfl := H1.out; rfl, HB.out⟩
  have F6 := Aside0.mk (fun (W : World) hb => E6.out W (left - (x.f1.size : Int) - m3 - m4 - m5) hb (by omega) (by omega))
  rw [szR_ge d6] at F6
  obtain ⟨b0, b1, b2, b3, b4, b5, b6, b7, b8, b9, b10, b11, b12, b13, b14, b15⟩ := cells16 BX.out
  replace HR := Aside0.mk ((sz_part d6).symm.trans HR.out)
  have c_6 : decide (left - (x.f1.size : Int) - m3 - m4 - m5 - m6 < 0) = false := decide_eq_false (by omega)
  have p_6 : 0 ≤ left - (x.f1.size : Int) - m3 - m4 - m5 - m6 := by omega
  have q_6 : left - (x.f1.size : Int) - m3 - m4 - m5 - m6 ≤ 1048576 := by omega
  clear d6 E6
  go_wp2_with fail
  refine (F6.out _ HB.out).mono ?_
  rintro _ W6 ⟨rfl, hb⟩
  replace BX := Aside0.mk (blk_below BX.out hb)
  replace HB := Aside0.mk (then_ HB.out hb)
  clear b0 b1 b2 b3 b4 b5 b6 b7 b8 b9 b10 b11 b12 b13 b14 b15
  clear hb F6
  by_cases d7 : m7 ≤ left - (x.f1.size : Int) - m3 - m4 - m5 - m6
  rotate_left
  · have H1 : Aside0 (r = -1) := ⟨HR.out ▸ szR_no (by omega)⟩
    have E := Aside0.mk (fun (W : World) hb => E7.out W (left - (x.f1.size : Int) - m3 - m4 - m5 - m6) hb (by omega) (by omega))
    rw [szR_no (by omega)] at E
    obtain ⟨b0, b1, b2, b3, b4, b5, b6, b7, b8, b9, b10, b11, b12, b13, b14, b15⟩ := cells16 BX.out
    clear d7 HR
    go_wp2_with fail
    refine (E.out _ HB.out).mono ?_
    rintro _ W1 ⟨rfl, hb⟩
    replace HB := Aside0.mk (then_ HB.out hb)
    clear hb
    go_wp2
    go_ret
    exact ⟨by obtain rfl := H1.out; rfl, HB.out⟩
  have F7 := Aside0.mk (fun (W : World) hb => E7.out W (left - (x.f1.size : Int) - m3 - m4 - m5 - m6) hb (by omega) (by omega))
  rw [szR_ge d7] at F7
  obtain ⟨b0, b1, b2, b3, b4, b5, b6, b7, b8, b9, b10, b11, b12, b13, b14, b15⟩ := cells16 BX.out
  replace HR := Aside0.mk ((sz_part d7).symm.trans HR.out)
  have c_7 : decide (left - (x.f1.size : Int) - m3 - m4 - m5 - m6 - m7 < 0) = false := decide_eq_false (by omega)
  have p_7 : 0 ≤ left - (x.f1.size : Int) - m3 - m4 - m5 - m6 - m7 := by omega
  have q_7 : left - (x.f1.size : Int) - m3 - m4 - m5 - m6 - m7 ≤ 1048576 := by omega
  clear d7 E7
  go_wp2_with fail
  refine (F7.out _ HB.out).mono ?_
  rintro _ W7 ⟨rfl, hb⟩
  replace BX := Aside0.mk (blk_below BX.out hb)
  replace HB := Aside0.mk (then_ HB.out hb)
  clear b0 b1 b2 b3 b4 b5 b6 b7 b8 b9 b10 b11 b12 b13 b14 b15
  clear hb F7
  have H1 := Aside0.mk (HR.out.symm.trans (szR_zero (by omega)))
  obtain ⟨b0, b1, b2, b3, b4, b5, b6, b7, b8, b9, b10, b11, b12, b13, b14, b15⟩ := cells16 BX.out
  clear HR
  go_wp2
  go_ret
  exact ⟨by obtain rfl := H1.out; rfl, HB.out⟩

/-! ### spec_l13Blocks: function 101 -/
mutual
def spec_l13Blocks.j0 : Nat → Int → Int → ByteArray → Int → List (S68) → Int → Int → ByteArray → Int → Int → ByteArray → Int → Int → List ByteArray → Int → List ByteArray → List Int → Option (Bool)
  | 0, _, _, _, _, _, _, _, _, _, _, _, _, _, _, _, _, _ => none
  | k + 1, x3, x937000, x937001, x937002, x937003, x937004, x937005, x937006, x937007, x937008, x937009, x937010, x937011, x937012, x937013, x937014, x937015 => spec_l13Blocks.l0 k x3 0 x937000 x937001 x937002 x937003 x937004 x937005 x937006 x937007 x937008 x937009 x937010 x937011 x937012 x937013 x937014 x937015
def spec_l13Blocks.l0 : Nat → Int → Int → Int → ByteArray → Int → List (S68) → Int → Int → ByteArray → Int → Int → ByteArray → Int → Int → List ByteArray → Int → List ByteArray → List Int → Option (Bool)
  | 0, _, _, _, _, _, _, _, _, _, _, _, _, _, _, _, _, _, _ => none
  | k + 1, x3, x4, x937000, x937001, x937002, x937003, x937004, x937005, x937006, x937007, x937008, x937009, x937010, x937011, x937012, x937013, x937014, x937015 => if x4 < (x937003.length : Int) then (if 0 ≤ x4 then ((spec_BlockOk.f k ((rd_T68 x937003 x4).f0) ((rd_T68 x937003 x4).f1) ((rd_T68 x937003 x4).f2) ((rd_T68 x937003 x4).f3) ((rd_T68 x937003 x4).f4.f0) ((rd_T68 x937003 x4).f4.f1) ((rd_T68 x937003 x4).f4.f2) ((rd_T68 x937003 x4).f5.f0) ((rd_T68 x937003 x4).f5.f1) ((rd_T68 x937003 x4).f5.f2) ((rd_T68 x937003 x4).f6) ((rd_T68 x937003 x4).f7) ((rd_T68 x937003 x4).f8) ((rd_T68 x937003 x4).f9)).bind fun t938 => (if t938 = true then (if ((rd_T68 x937003 x4).f1) = x937002 then (spec_l13Blocks.l0 k x3 (wrap64 (x4 + 1)) x937000 x937001 x937002 x937003 x937004 x937005 x937006 x937007 x937008 x937009 x937010 x937011 x937012 x937013 x937014 x937015) else (some false)) else (some false))) else (none)) else (if (x937003.length : Int) ≤ x3 then (if x937000 = 1 then (some ((x937003.length : Int) == 1)) else (some true)) else (some false))
end
def spec_l13Blocks.f (k : Nat) (a0_0 : Int) (a0_1 : ByteArray) (a0_2 : Int) (l0_3 : List (S68)) (a0_4 : Int) (a0_5 : Int) (a0_6 : ByteArray) (a0_7 : Int) (a0_8 : Int) (a0_9 : ByteArray) (a0_10 : Int) (a0_11 : Int) (l0_12 : List ByteArray) (a0_13 : Int) (l0_14 : List ByteArray) (l0_15 : List Int) : Option (Bool) := if a0_0 = 1 then (spec_l13Blocks.j0 k 1 a0_0 a0_1 a0_2 l0_3 a0_4 a0_5 a0_6 a0_7 a0_8 a0_9 a0_10 a0_11 l0_12 a0_13 l0_14 l0_15) else (if a0_0 = 4 then (spec_l13Blocks.j0 k 400 a0_0 a0_1 a0_2 l0_3 a0_4 a0_5 a0_6 a0_7 a0_8 a0_9 a0_10 a0_11 l0_12 a0_13 l0_14 l0_15) else (spec_l13Blocks.j0 k 0 a0_0 a0_1 a0_2 l0_3 a0_4 a0_5 a0_6 a0_7 a0_8 a0_9 a0_10 a0_11 l0_12 a0_13 l0_14 l0_15))
theorem spec_l13Blocks.mono_l : ∀ k, (∀ y0 y1 y2 y3 y4 y5 y6 y7 y8 y9 y10 y11 y12 y13 y14 y15 y16, LeO (spec_l13Blocks.j0 k y0 y1 y2 y3 y4 y5 y6 y7 y8 y9 y10 y11 y12 y13 y14 y15 y16) (spec_l13Blocks.j0 (k + 1) y0 y1 y2 y3 y4 y5 y6 y7 y8 y9 y10 y11 y12 y13 y14 y15 y16)) ∧ (∀ y0 y1 y2 y3 y4 y5 y6 y7 y8 y9 y10 y11 y12 y13 y14 y15 y16 y17, LeO (spec_l13Blocks.l0 k y0 y1 y2 y3 y4 y5 y6 y7 y8 y9 y10 y11 y12 y13 y14 y15 y16 y17) (spec_l13Blocks.l0 (k + 1) y0 y1 y2 y3 y4 y5 y6 y7 y8 y9 y10 y11 y12 y13 y14 y15 y16 y17))
  | 0 => ⟨fun _ _ _ _ _ _ _ _ _ _ _ _ _ _ _ _ _ r h => by simp [spec_l13Blocks.j0] at h, fun _ _ _ _ _ _ _ _ _ _ _ _ _ _ _ _ _ _ r h => by simp [spec_l13Blocks.l0] at h⟩
  | k + 1 => by
    obtain ⟨ih0, ih1⟩ := spec_l13Blocks.mono_l k
    refine ⟨?_, ?_⟩
    · intro y0 y1 y2 y3 y4 y5 y6 y7 y8 y9 y10 y11 y12 y13 y14 y15 y16
      unfold spec_l13Blocks.j0
      repeat' first
      | (with_reducible exact ih0 _ _ _ _ _ _ _ _ _ _ _ _ _ _ _ _ _)
      | (with_reducible exact ih1 _ _ _ _ _ _ _ _ _ _ _ _ _ _ _ _ _ _)
      | (with_reducible exact spec_BlockOk.mono _ _ _ _ _ _ _ _ _ _ _ _ _ _ _)
      | (with_reducible exact LeO.refl _)
      | (with_reducible exact LeO.none _)
      | (with_reducible refine LeO.ite ?_ ?_)
      | (with_reducible refine LeO.bind ?_ (fun _ => ?_))
      | exact ih0 _ _ _ _ _ _ _ _ _ _ _ _ _ _ _ _ _
      | exact ih1 _ _ _ _ _ _ _ _ _ _ _ _ _ _ _ _ _ _
      | exact spec_BlockOk.mono _ _ _ _ _ _ _ _ _ _ _ _ _ _ _
      | exact LeO.none _
      | refine LeO.ite ?_ ?_
      | refine LeO.bind ?_ (fun _ => ?_)
    · intro y0 y1 y2 y3 y4 y5 y6 y7 y8 y9 y10 y11 y12 y13 y14 y15 y16 y17
      unfold spec_l13Blocks.l0
      repeat' first
      | (with_reducible exact ih0 _ _ _ _ _ _ _ _ _ _ _ _ _ _ _ _ _)
      | (with_reducible exact ih1 _ _ _ _ _ _ _ _ _ _ _ _ _ _ _ _ _ _)
      | (with_reducible exact spec_BlockOk.mono _ _ _ _ _ _ _ _ _ _ _ _ _ _ _)
      | (with_reducible exact LeO.refl _)
      | (with_reducible exact LeO.none _)
      | (with_reducible refine LeO.ite ?_ ?_)
      | (with_reducible refine LeO.bind ?_ (fun _ => ?_))
      | exact ih0 _ _ _ _ _ _ _ _ _ _ _ _ _ _ _ _ _
      | exact ih1 _ _ _ _ _ _ _ _ _ _ _ _ _ _ _ _ _ _
      | exact spec_BlockOk.mono _ _ _ _ _ _ _ _ _ _ _ _ _ _ _
      | exact LeO.none _
      | refine LeO.ite ?_ ?_
      | refine LeO.bind ?_ (fun _ => ?_)
theorem spec_l13Blocks.mono : ∀ a0 a1 a2 a3 a4 a5 a6 a7 a8 a9 a10 a11 a12 a13 a14 a15 k, LeO (spec_l13Blocks.f k a0 a1 a2 a3 a4 a5 a6 a7 a8 a9 a10 a11 a12 a13 a14 a15) (spec_l13Blocks.f (k + 1) a0 a1 a2 a3 a4 a5 a6 a7 a8 a9 a10 a11 a12 a13 a14 a15) := by
  intro a0 a1 a2 a3 a4 a5 a6 a7 a8 a9 a10 a11 a12 a13 a14 a15 k
  obtain ⟨ih0, ih1⟩ := spec_l13Blocks.mono_l k
  unfold spec_l13Blocks.f
  repeat' first
      | (with_reducible exact ih0 _ _ _ _ _ _ _ _ _ _ _ _ _ _ _ _ _)
      | (with_reducible exact ih1 _ _ _ _ _ _ _ _ _ _ _ _ _ _ _ _ _ _)
      | (with_reducible exact spec_BlockOk.mono _ _ _ _ _ _ _ _ _ _ _ _ _ _ _)
      | (with_reducible exact LeO.refl _)
      | (with_reducible exact LeO.none _)
      | (with_reducible refine LeO.ite ?_ ?_)
      | (with_reducible refine LeO.bind ?_ (fun _ => ?_))
      | exact ih0 _ _ _ _ _ _ _ _ _ _ _ _ _ _ _ _ _
      | exact ih1 _ _ _ _ _ _ _ _ _ _ _ _ _ _ _ _ _ _
      | exact spec_BlockOk.mono _ _ _ _ _ _ _ _ _ _ _ _ _ _ _
      | exact LeO.none _
      | refine LeO.ite ?_ ?_
      | refine LeO.bind ?_ (fun _ => ?_)
def spec_l13Blocks.T10 : Bool × List (List Nat × List Nat) := (true, [([], []), ([0], [0]), ([], []), ([1, 2], [1, 2]), ([3], [3]), ([4], [4]), ([5], [5]), ([6, 5], [6]), ([7], [7]), ([8, 7], [7, 8]), ([7], [7]), ([9, 10, 7], [7, 9, 10]), ([11, 7], [7, 11]), ([12, 7], [7, 12]), ([7], [7]), ([14, 7], [7, 14]), ([13, 15, 7], [7, 13, 15]), ([7, 16], [7, 16])])
def spec_l13Blocks.B10 : List Nat := [0, 1, 0, 7, 15, 31, 63, 127, 255, 511, 255, 2047, 4095, 8191, 255, 16639, 65535, 131071]
theorem spec_l13Blocks.tab10 : rtab .any (opsOf Try.f101 10) = spec_l13Blocks.T10 := by kernel_rfl
theorem spec_l13Blocks.bits10 : waitsOk spec_l13Blocks.T10.2 spec_l13Blocks.B10 = true := by kernel_rfl
set_option maxHeartbeats 8000000 in
set_option maxRecDepth 100000 in
theorem spec_l13Blocks.calls (k : Nat) (a0_0 : Int) (a0_1 : ByteArray) (a0_2 : Int) (A0_3 : Option Addr) (c0_3 : Nat) (l0_3 : List (S68)) (a0_4 : Int) (a0_5 : Int) (a0_6 : ByteArray) (a0_7 : Int) (a0_8 : Int) (a0_9 : ByteArray) (a0_10 : Int) (a0_11 : Int) (A0_12 : Option Addr) (c0_12 : Nat) (l0_12 : List ByteArray) (a0_13 : Int) (A0_14 : Option Addr) (c0_14 : Nat) (l0_14 : List ByteArray) (A0_15 : Option Addr) (c0_15 : Nat) (l0_15 : List Int) (r : Bool) (w : World) (hr0_3 : Kd.C k68 w A0_3 l0_3.length l0_3) (hc0_3 : l0_3.length ≤ c0_3) (hr0_12 : Kd.C Kd.string w A0_12 l0_12.length l0_12) (hc0_12 : l0_12.length ≤ c0_12) (hr0_14 : Kd.C Kd.string w A0_14 l0_14.length l0_14) (hc0_14 : l0_14.length ≤ c0_14) (hr0_15 : Kd.C (Kd.int .i64) w A0_15 l0_15.length l0_15) (hc0_15 : l0_15.length ≤ c0_15) (h : spec_l13Blocks.f k a0_0 a0_1 a0_2 l0_3 a0_4 a0_5 a0_6 a0_7 a0_8 a0_9 a0_10 a0_11 l0_12 a0_13 l0_14 l0_15 = some r) :
    Calls Try.prog 101 #[.agg #[.int .i64 a0_0, .string a0_1, .int .i64 a0_2, .slice A0_3 l0_3.length c0_3, .int .i64 a0_4, .int .i64 a0_5, .string a0_6, .int .i64 a0_7, .int .i64 a0_8, .string a0_9, .int .i64 a0_10, .int .i64 a0_11, .slice A0_12 l0_12.length c0_12, .int .i64 a0_13, .slice A0_14 l0_14.length c0_14, .slice A0_15 l0_15.length c0_15]] w fun e w' => e = .returned (.bool r) ∧ Below w.heap.size w w' := by
  have hu86 := Try.underlying86
  have hu68 := Try.underlying68
  have HR0_3 := Aside0.mk hr0_3
  have HC0_3 := Aside0.mk hc0_3
  clear hr0_3 hc0_3
  have HR0_12 := Aside0.mk hr0_12
  have HC0_12 := Aside0.mk hc0_12
  clear hr0_12 hc0_12
  have HR0_14 := Aside0.mk hr0_14
  have HC0_14 := Aside0.mk hc0_14
  clear hr0_14 hc0_14
  have HR0_15 := Aside0.mk hr0_15
  have HC0_15 := Aside0.mk hc0_15
  clear hr0_15 hc0_15
  have HB := Aside0.mk (Below.refl w.heap.size w)
  have H : (if a0_0 = 1 then (spec_l13Blocks.j0 k 1 a0_0 a0_1 a0_2 l0_3 a0_4 a0_5 a0_6 a0_7 a0_8 a0_9 a0_10 a0_11 l0_12 a0_13 l0_14 l0_15) else (if a0_0 = 4 then (spec_l13Blocks.j0 k 400 a0_0 a0_1 a0_2 l0_3 a0_4 a0_5 a0_6 a0_7 a0_8 a0_9 a0_10 a0_11 l0_12 a0_13 l0_14 l0_15) else (spec_l13Blocks.j0 k 0 a0_0 a0_1 a0_2 l0_3 a0_4 a0_5 a0_6 a0_7 a0_8 a0_9 a0_10 a0_11 l0_12 a0_13 l0_14 l0_15))) = some r := h
  clear h
  have HC2 := Aside0.mk H
  clear H
  go_enter Try.func101, Try.ntmps101
  go_upto_block 0 with (first | ((with_reducible refine gate_dst (N := 1) rfl ?_); (try (refine gate_guard (by rfl) ?_; dsimp only)); refine box_event ?hg (N := 1) ?hd (cs := #[.int .i64 a0_0, .string a0_1, .int .i64 a0_2, .slice A0_3 l0_3.length c0_3, .int .i64 a0_4, .int .i64 a0_5, .string a0_6, .int .i64 a0_7, .int .i64 a0_8, .string a0_9, .int .i64 a0_10, .int .i64 a0_11, .slice A0_12 l0_12.length c0_12, .int .i64 a0_13, .slice A0_14 l0_14.length c0_14, .slice A0_15 l0_15.length c0_15]) (t := 86) ?hr ?_; (case hd => rfl); (case hg => rfl); (case hr => first | (go_simp; done) | (go_simp; rfl)); intro gb936 hg w3 hbox hb; have n0_ := Aside0.mk (below_step (by repeat (first | (with_reducible first | exact HB.out | apply below_alloc | apply pw_below_drewN | apply below_drew1) | exact HB.out)) hb); have n1_ := Aside0.mk (hbox); have n2_ := Aside0.mk ((by rw [hg]; exact (below_size (by repeat (first | (with_reducible first | exact HB.out | apply below_alloc | apply pw_below_drewN | apply below_drew1) | exact HB.out))) : w.heap.size ≤ gb936)); have n3_ := n2_; clear HB; have HB := n0_; have BK936 := n1_; have GW936 := n2_; have GE936 := n3_; clear n0_ n1_ n2_ n3_; clear hb hbox hg; obtain ⟨hcz4_0, hcz4_1, hcz4_2, hcz4_3, hcz4_4, hcz4_5, hcz4_6, hcz4_7, hcz4_8, hcz4_9, hcz4_10, hcz4_11, hcz4_12, hcz4_13, hcz4_14, hcz4_15⟩ := cells16 BK936.out; obtain ⟨hfz4_0, hfz4_1, hfz4_2, hfz4_3, hfz4_4, hfz4_5, hfz4_6, hfz4_7, hfz4_8, hfz4_9, hfz4_10, hfz4_11, hfz4_12, hfz4_13, hfz4_14, hfz4_15⟩ := frozens16 BK936.out))
  (try simp only [Act.put, List.setIfInBounds_toArray, List.set_cons_zero, List.set_cons_succ])
  go_cut [3] (fun v3 wc => ∃ (kq : Nat) (x3_1 : Int), v3 = .int .i64 x3_1 ∧ Aside0 (spec_l13Blocks.j0 kq x3_1 a0_0 a0_1 a0_2 l0_3 a0_4 a0_5 a0_6 a0_7 a0_8 a0_9 a0_10 a0_11 l0_12 a0_13 l0_14 l0_15 = some r) ∧ Aside0 (kq ≤ k) ∧ Aside0 (wc.heap[gb936]? = some (.cells #[.int .i64 a0_0, .string a0_1, .int .i64 a0_2, (.slice A0_3 l0_3.length c0_3), .int .i64 a0_4, .int .i64 a0_5, .string a0_6, .int .i64 a0_7, .int .i64 a0_8, .string a0_9, .int .i64 a0_10, .int .i64 a0_11, (.slice A0_12 l0_12.length c0_12), .int .i64 a0_13, (.slice A0_14 l0_14.length c0_14), (.slice A0_15 l0_15.length c0_15)] 86 (0, 0))) ∧ Aside0 (Below w.heap.size w wc))
  case first =>
    have H := HC2.out
    clear HC2
    by_cases c5 : a0_0 = 1
    · rw [if_pos c5] at H
      have c5b0 : (a0_0 == 1) = true := beq_iff_eq.mpr c5
      have c5b1 : (a0_0 != 1) = false := bne_eq_false_iff_eq.mpr c5
      clear c5
      (first | rw [c5b0] | (simp only [i64_w, i32_w]; rw [c5b0]) | skip)
      have H' := Aside0.mk H
      clear H
      go_wp2
      go_meet
      case rel => exact ⟨_, (1), (by first | rfl | (simp; done) | (simp [*]; done)), H', ⟨by first | omega | exact Nat.le_refl _⟩, ⟨by (with_reducible repeat (first | refine blk_drewN ?_ _ | refine blk_drew ?_ | refine blk_alloc ?_ _)); exact BK936.out⟩, ⟨by repeat (first | (with_reducible first | exact HB.out | apply below_alloc | apply pw_below_drewN | apply below_drew1 | refine below_set ?_ GE936.out) | exact HB.out)⟩⟩
    · rw [if_neg c5] at H
      have c5b0 : (a0_0 == 1) = false := beq_eq_false_iff_ne.mpr c5
      have c5b1 : (a0_0 != 1) = true := bne_iff_ne.mpr c5
      (first | rw [c5b0] | (simp only [i64_w, i32_w]; rw [c5b0]) | skip)
      by_cases c6 : a0_0 = 4
      · rw [if_pos c6] at H
        have c6b0 : (a0_0 == 4) = true := beq_iff_eq.mpr c6
        have c6b1 : (a0_0 != 4) = false := bne_eq_false_iff_eq.mpr c6
        clear c6
        have H' := Aside0.mk H
        clear H
        go_wp2
        go_meet
        case rel => exact ⟨_, (400), (by first | rfl | (simp; done) | (simp [*]; done)), H', ⟨by first | omega | exact Nat.le_refl _⟩, ⟨by (with_reducible repeat (first | refine blk_drewN ?_ _ | refine blk_drew ?_ | refine blk_alloc ?_ _)); exact BK936.out⟩, ⟨by repeat (first | (with_reducible first | exact HB.out | apply below_alloc | apply pw_below_drewN | apply below_drew1 | refine below_set ?_ GE936.out) | exact HB.out)⟩⟩
      · rw [if_neg c6] at H
        have c6b0 : (a0_0 == 4) = false := beq_eq_false_iff_ne.mpr c6
        have c6b1 : (a0_0 != 4) = true := bne_iff_ne.mpr c6
        have H' := Aside0.mk H
        clear H
        go_wp2
        go_meet
        case rel => exact ⟨_, (0), (by first | rfl | (simp; done) | (simp [*]; done)), H', ⟨by first | omega | exact Nat.le_refl _⟩, ⟨by (with_reducible repeat (first | refine blk_drewN ?_ _ | refine blk_drew ?_ | refine blk_alloc ?_ _)); exact BK936.out⟩, ⟨by repeat (first | (with_reducible first | exact HB.out | apply below_alloc | apply pw_below_drewN | apply below_drew1 | refine below_set ?_ GE936.out) | exact HB.out)⟩⟩
  case rest =>
    clear HC2
    try clear c1
    try clear p2
    try clear c5
    try clear c5b0
    try clear c5b1
    try clear c6
    try clear c6b0
    try clear c6b1
    try clear hcz4_0
    try clear hcz4_1
    try clear hcz4_10
    try clear hcz4_11
    try clear hcz4_12
    try clear hcz4_13
    try clear hcz4_14
    try clear hcz4_15
    try clear hcz4_2
    try clear hcz4_3
    try clear hcz4_4
    try clear hcz4_5
    try clear hcz4_6
    try clear hcz4_7
    try clear hcz4_8
    try clear hcz4_9
    try clear hfz4_0
    try clear hfz4_1
    try clear hfz4_10
    try clear hfz4_11
    try clear hfz4_12
    try clear hfz4_13
    try clear hfz4_14
    try clear hfz4_15
    try clear hfz4_2
    try clear hfz4_3
    try clear hfz4_4
    try clear hfz4_5
    try clear hfz4_6
    try clear hfz4_7
    try clear hfz4_8
    try clear hfz4_9
    obtain ⟨kq, x3_1, rfl, HA, HJ1, BK936, HB⟩ := hcut
    cases kq with
    | zero => exact absurd HA.out (by simp [spec_l13Blocks.j0])
    | succ kj1 =>
      have H := HA.out
      clear HA
      simp only [spec_l13Blocks.j0] at H
      have H' := Aside0.mk H
      clear H
      go_wp2
      go_loopg [4] kj1 (fun kq v4 w' => ∃ (x4_2 : Int), v4 = .int .i64 x4_2 ∧ Aside0 (spec_l13Blocks.l0 kq x3_1 x4_2 a0_0 a0_1 a0_2 l0_3 a0_4 a0_5 a0_6 a0_7 a0_8 a0_9 a0_10 a0_11 l0_12 a0_13 l0_14 l0_15 = some r) ∧ Aside0 (kq ≤ kj1) ∧ Aside0 (w'.heap[gb936]? = some (.cells #[.int .i64 a0_0, .string a0_1, .int .i64 a0_2, (.slice A0_3 l0_3.length c0_3), .int .i64 a0_4, .int .i64 a0_5, .string a0_6, .int .i64 a0_7, .int .i64 a0_8, .string a0_9, .int .i64 a0_10, .int .i64 a0_11, (.slice A0_12 l0_12.length c0_12), .int .i64 a0_13, (.slice A0_14 l0_14.length c0_14), (.slice A0_15 l0_15.length c0_15)] 86 (0, 0))) ∧ Aside0 (Below w.heap.size w w'))
      case atStart => exact ⟨(0), (by first | rfl | (simp; done) | (simp [*]; done)), H', ⟨Nat.le_refl _⟩, ⟨by (with_reducible repeat (first | refine blk_drewN ?_ _ | refine blk_drew ?_ | refine blk_alloc ?_ _)); exact BK936.out⟩, ⟨by repeat (first | (with_reducible first | exact HB.out | apply below_alloc | apply pw_below_drewN | apply below_drew1 | refine below_set ?_ GE936.out) | exact HB.out)⟩⟩
      case round =>
        clear H'
        try clear c1
        try clear p2
        try clear c5
        try clear c5b0
        try clear c5b1
        try clear c6
        try clear c6b0
        try clear c6b1
        try clear hcz4_0
        try clear hcz4_1
        try clear hcz4_10
        try clear hcz4_11
        try clear hcz4_12
        try clear hcz4_13
        try clear hcz4_14
        try clear hcz4_15
        try clear hcz4_2
        try clear hcz4_3
        try clear hcz4_4
        try clear hcz4_5
        try clear hcz4_6
        try clear hcz4_7
        try clear hcz4_8
        try clear hcz4_9
        try clear hfz4_0
        try clear hfz4_1
        try clear hfz4_10
        try clear hfz4_11
        try clear hfz4_12
        try clear hfz4_13
        try clear hfz4_14
        try clear hfz4_15
        try clear hfz4_2
        try clear hfz4_3
        try clear hfz4_4
        try clear hfz4_5
        try clear hfz4_6
        try clear hfz4_7
        try clear hfz4_8
        try clear hfz4_9
        try clear p2
        obtain ⟨x4_2, rfl, HA, HK2, BK936, HB⟩ := hrel
        cases gk with
        | zero => exact absurd HA.out (by simp [spec_l13Blocks.l0])
        | succ k2 =>
          have H := HA.out
          clear HA
          simp only [spec_l13Blocks.l0] at H
          by_cases c7 : x4_2 < (l0_3.length : Int)
          · rw [if_pos c7] at H
            have c7b0 : decide (x4_2 < (l0_3.length : Int)) = true := decide_eq_true c7
            clear c7
            by_cases c8 : 0 ≤ x4_2
            · rw [if_pos c8] at H
              have c8b0 : decide (0 ≤ x4_2) = true := decide_eq_true c8
              clear c8
              replace H := Option.bind_eq_some_iff.mp H
              obtain ⟨t938, A90, H⟩ := H
              replace H : (if t938 = true then (if ((rd_T68 l0_3 x4_2).f1) = a0_2 then (spec_l13Blocks.l0 k2 x3_1 (wrap64 (x4_2 + 1)) a0_0 a0_1 a0_2 l0_3 a0_4 a0_5 a0_6 a0_7 a0_8 a0_9 a0_10 a0_11 l0_12 a0_13 l0_14 l0_15) else (some false)) else (some false)) = some r := H
              have A9 := Aside0.mk A90
              clear A90
              by_cases c10 : t938 = true
              · subst c10
                have H1 : (if ((rd_T68 l0_3 x4_2).f1) = a0_2 then (spec_l13Blocks.l0 k2 x3_1 (wrap64 (x4_2 + 1)) a0_0 a0_1 a0_2 l0_3 a0_4 a0_5 a0_6 a0_7 a0_8 a0_9 a0_10 a0_11 l0_12 a0_13 l0_14 l0_15) else (some false)) = some r := by rw [if_pos rfl] at H; exact H
                clear H
                have H := H1
                clear H1
                by_cases c11 : ((rd_T68 l0_3 x4_2).f1) = a0_2
                · rw [if_pos c11] at H
                  have c11b0 : (((rd_T68 l0_3 x4_2).f1) == a0_2) = true := beq_iff_eq.mpr c11
                  have c11b1 : (((rd_T68 l0_3 x4_2).f1) != a0_2) = false := bne_eq_false_iff_eq.mpr c11
                  clear c11
                  have H' := Aside0.mk H
                  clear H
                  obtain ⟨hcz12_0, hcz12_1, hcz12_2, hcz12_3, hcz12_4, hcz12_5, hcz12_6, hcz12_7, hcz12_8, hcz12_9, hcz12_10, hcz12_11, hcz12_12, hcz12_13, hcz12_14, hcz12_15⟩ := cells16 BK936.out
                  obtain ⟨hfz12_0, hfz12_1, hfz12_2, hfz12_3, hfz12_4, hfz12_5, hfz12_6, hfz12_7, hfz12_8, hfz12_9, hfz12_10, hfz12_11, hfz12_12, hfz12_13, hfz12_14, hfz12_15⟩ := frozens16 BK936.out
                  try go_wp2
                  have n0_ := Aside0.mk (blk_drew BK936.out)
                  have n1_ := Aside0.mk (below_drew1 HB.out)
                  clear BK936
                  clear HB
                  have BK936 := n0_
                  have HB := n1_
                  clear n0_ n1_
                  have p937 : 0 ≤ (x4_2 : Int) := of_decide_eq_true (by first | (with_reducible assumption) | assumption)
                  have q937 : x4_2 < (l0_3.length : Int) := of_decide_eq_true (by first | (with_reducible assumption) | assumption)
                  obtain ⟨ad937, A937_6, c937_6, A937_8, c937_8, A937_9, c937_9, A937_10, c937_10, A937_12, c937_12, e937, hx937_0, hx937_1, hx937_2, hx937_3, hx937_4, hx937_5, hx937_6, hx937_7, hx937_8, hx937_9, hx937_10, hx937_11, hx937_12, hx937_13, hl937_6, hi937_6, hl937_8, hi937_8, hl937_9, hi937_9, hl937_10, hi937_10, hl937_12, hi937_12⟩ := at_T68 HR0_3.out x4_2 p937 q937
                  have hw937_13 := hx937_13
                  have hw937_12 := hx937_12
                  have hw937_11 := hx937_11
                  have hw937_10 := hx937_10
                  have hw937_9 := hx937_9
                  have hw937_8 := hx937_8
                  have hw937_7 := hx937_7
                  have hw937_6 := hx937_6
                  have hw937_5 := hx937_5
                  have hw937_4 := hx937_4
                  have hw937_3 := hx937_3
                  have hw937_2 := hx937_2
                  have hw937_1 := hx937_1
                  have hw937_0 := hx937_0
                  cases e937
                  replace hx937_0 := (HB.out.cell (World.block_lt_of_cell? w _ hx937_0)).trans hx937_0
                  replace hx937_1 := (HB.out.cell (World.block_lt_of_cell? w _ hx937_1)).trans hx937_1
                  replace hx937_2 := (HB.out.cell (World.block_lt_of_cell? w _ hx937_2)).trans hx937_2
                  replace hx937_3 := (HB.out.cell (World.block_lt_of_cell? w _ hx937_3)).trans hx937_3
                  replace hx937_4 := (HB.out.cell (World.block_lt_of_cell? w _ hx937_4)).trans hx937_4
                  replace hx937_5 := (HB.out.cell (World.block_lt_of_cell? w _ hx937_5)).trans hx937_5
                  replace hx937_6 := (HB.out.cell (World.block_lt_of_cell? w _ hx937_6)).trans hx937_6
                  replace hx937_7 := (HB.out.cell (World.block_lt_of_cell? w _ hx937_7)).trans hx937_7
                  replace hx937_8 := (HB.out.cell (World.block_lt_of_cell? w _ hx937_8)).trans hx937_8
                  replace hx937_9 := (HB.out.cell (World.block_lt_of_cell? w _ hx937_9)).trans hx937_9
                  replace hx937_10 := (HB.out.cell (World.block_lt_of_cell? w _ hx937_10)).trans hx937_10
                  replace hx937_11 := (HB.out.cell (World.block_lt_of_cell? w _ hx937_11)).trans hx937_11
                  replace hx937_12 := (HB.out.cell (World.block_lt_of_cell? w _ hx937_12)).trans hx937_12
                  replace hx937_13 := (HB.out.cell (World.block_lt_of_cell? w _ hx937_13)).trans hx937_13
                  have HR937_6 := Aside0.mk hi937_6
                  have HC937_6 := Aside0.mk hl937_6
                  clear hi937_6 hl937_6
                  have HR937_8 := Aside0.mk hi937_8
                  have HC937_8 := Aside0.mk hl937_8
                  clear hi937_8 hl937_8
                  have HR937_9 := Aside0.mk hi937_9
                  have HC937_9 := Aside0.mk hl937_9
                  clear hi937_9 hl937_9
                  have HR937_10 := Aside0.mk hi937_10
                  have HC937_10 := Aside0.mk hl937_10
                  clear hi937_10 hl937_10
                  have HR937_12 := Aside0.mk hi937_12
                  have HC937_12 := Aside0.mk hl937_12
                  clear hi937_12 hl937_12
                  replace p937 := eq_true p937
                  replace q937 := eq_true q937
                  have p939 : 0 ≤ (x4_2 : Int) := of_decide_eq_true (by first | (with_reducible assumption) | assumption)
                  have q939 : x4_2 < (l0_3.length : Int) := of_decide_eq_true (by first | (with_reducible assumption) | assumption)
                  obtain ⟨ad939, A939_6, c939_6, A939_8, c939_8, A939_9, c939_9, A939_10, c939_10, A939_12, c939_12, e939, hx939_0, hx939_1, hx939_2, hx939_3, hx939_4, hx939_5, hx939_6, hx939_7, hx939_8, hx939_9, hx939_10, hx939_11, hx939_12, hx939_13, hl939_6, hi939_6, hl939_8, hi939_8, hl939_9, hi939_9, hl939_10, hi939_10, hl939_12, hi939_12⟩ := at_T68 HR0_3.out x4_2 p939 q939
                  have hw939_13 := hx939_13
                  have hw939_12 := hx939_12
                  have hw939_11 := hx939_11
                  have hw939_10 := hx939_10
                  have hw939_9 := hx939_9
                  have hw939_8 := hx939_8
                  have hw939_7 := hx939_7
                  have hw939_6 := hx939_6
                  have hw939_5 := hx939_5
                  have hw939_4 := hx939_4
                  have hw939_3 := hx939_3
                  have hw939_2 := hx939_2
                  have hw939_1 := hx939_1
                  have hw939_0 := hx939_0
                  obtain rfl : ad937 = ad939 := (by injection e939)
                  replace hx939_0 := (HB.out.cell (World.block_lt_of_cell? w _ hx939_0)).trans hx939_0
                  replace hx939_1 := (HB.out.cell (World.block_lt_of_cell? w _ hx939_1)).trans hx939_1
                  replace hx939_2 := (HB.out.cell (World.block_lt_of_cell? w _ hx939_2)).trans hx939_2
                  replace hx939_3 := (HB.out.cell (World.block_lt_of_cell? w _ hx939_3)).trans hx939_3
                  replace hx939_4 := (HB.out.cell (World.block_lt_of_cell? w _ hx939_4)).trans hx939_4
                  replace hx939_5 := (HB.out.cell (World.block_lt_of_cell? w _ hx939_5)).trans hx939_5
                  replace hx939_6 := (HB.out.cell (World.block_lt_of_cell? w _ hx939_6)).trans hx939_6
                  replace hx939_7 := (HB.out.cell (World.block_lt_of_cell? w _ hx939_7)).trans hx939_7
                  replace hx939_8 := (HB.out.cell (World.block_lt_of_cell? w _ hx939_8)).trans hx939_8
                  replace hx939_9 := (HB.out.cell (World.block_lt_of_cell? w _ hx939_9)).trans hx939_9
                  replace hx939_10 := (HB.out.cell (World.block_lt_of_cell? w _ hx939_10)).trans hx939_10
                  replace hx939_11 := (HB.out.cell (World.block_lt_of_cell? w _ hx939_11)).trans hx939_11
                  replace hx939_12 := (HB.out.cell (World.block_lt_of_cell? w _ hx939_12)).trans hx939_12
                  replace hx939_13 := (HB.out.cell (World.block_lt_of_cell? w _ hx939_13)).trans hx939_13
                  have HR939_6 := Aside0.mk hi939_6
                  have HC939_6 := Aside0.mk hl939_6
                  clear hi939_6 hl939_6
                  have HR939_8 := Aside0.mk hi939_8
                  have HC939_8 := Aside0.mk hl939_8
                  clear hi939_8 hl939_8
                  have HR939_9 := Aside0.mk hi939_9
                  have HC939_9 := Aside0.mk hl939_9
                  clear hi939_9 hl939_9
                  have HR939_10 := Aside0.mk hi939_10
                  have HC939_10 := Aside0.mk hl939_10
                  clear hi939_10 hl939_10
                  have HR939_12 := Aside0.mk hi939_12
                  have HC939_12 := Aside0.mk hl939_12
                  clear hi939_12 hl939_12
                  replace p939 := eq_true p939
                  replace q939 := eq_true q939
                  refine start_ (n := 18) (S := fun w' => w'.cell? ⟨gb936, 0, none⟩ = some (.int .i64 a0_0) ∧ w'.cell? ⟨gb936, 1, none⟩ = some (.string a0_1) ∧ w'.cell? ⟨gb936, 2, none⟩ = some (.int .i64 a0_2) ∧ w'.cell? ⟨gb936, 3, none⟩ = some (.slice (some ad937) l0_3.length c0_3) ∧ w'.cell? ⟨gb936, 4, none⟩ = some (.int .i64 a0_4) ∧ w'.cell? ⟨gb936, 5, none⟩ = some (.int .i64 a0_5) ∧ w'.cell? ⟨gb936, 6, none⟩ = some (.string a0_6) ∧ w'.cell? ⟨gb936, 7, none⟩ = some (.int .i64 a0_7) ∧ w'.cell? ⟨gb936, 8, none⟩ = some (.int .i64 a0_8) ∧ w'.cell? ⟨gb936, 9, none⟩ = some (.string a0_9) ∧ w'.cell? ⟨gb936, 10, none⟩ = some (.int .i64 a0_10) ∧ w'.cell? ⟨gb936, 11, none⟩ = some (.int .i64 a0_11) ∧ w'.cell? ⟨gb936, 12, none⟩ = some (.slice A0_12 l0_12.length c0_12) ∧ w'.cell? ⟨gb936, 13, none⟩ = some (.int .i64 a0_13) ∧ w'.cell? ⟨gb936, 14, none⟩ = some (.slice A0_14 l0_14.length c0_14) ∧ w'.cell? ⟨gb936, 15, none⟩ = some (.slice A0_15 l0_15.length c0_15) ∧ w'.cell? (ad937.add ((x4_2).toNat * 14)) = some (.int .i64 ((rd_T68 l0_3 x4_2).f0)) ∧ w'.cell? ⟨(ad937.add ((x4_2).toNat * 14)).block, (ad937.add ((x4_2).toNat * 14)).off + 1, none⟩ = some (.int .i64 ((rd_T68 l0_3 x4_2).f1)) ∧ w'.cell? ⟨(ad937.add ((x4_2).toNat * 14)).block, (ad937.add ((x4_2).toNat * 14)).off + 2, none⟩ = some (.int .i64 ((rd_T68 l0_3 x4_2).f2)) ∧ w'.cell? ⟨(ad937.add ((x4_2).toNat * 14)).block, (ad937.add ((x4_2).toNat * 14)).off + 3, none⟩ = some (.string ((rd_T68 l0_3 x4_2).f3)) ∧ w'.cell? ⟨(ad937.add ((x4_2).toNat * 14)).block, (ad937.add ((x4_2).toNat * 14)).off + 4, none⟩ = some (.int .i64 ((rd_T68 l0_3 x4_2).f4.f0)) ∧ w'.cell? ⟨(ad937.add ((x4_2).toNat * 14)).block, (ad937.add ((x4_2).toNat * 14)).off + 5, none⟩ = some (.int .i64 ((rd_T68 l0_3 x4_2).f4.f1)) ∧ w'.cell? ⟨(ad937.add ((x4_2).toNat * 14)).block, (ad937.add ((x4_2).toNat * 14)).off + 6, none⟩ = some (.slice A937_6 ((rd_T68 l0_3 x4_2).f4.f2).length c937_6) ∧ w'.cell? ⟨(ad937.add ((x4_2).toNat * 14)).block, (ad937.add ((x4_2).toNat * 14)).off + 7, none⟩ = some (.int .i64 ((rd_T68 l0_3 x4_2).f5.f0)) ∧ w'.cell? ⟨(ad937.add ((x4_2).toNat * 14)).block, (ad937.add ((x4_2).toNat * 14)).off + 8, none⟩ = some (.slice A937_8 ((rd_T68 l0_3 x4_2).f5.f1).length c937_8) ∧ w'.cell? ⟨(ad937.add ((x4_2).toNat * 14)).block, (ad937.add ((x4_2).toNat * 14)).off + 9, none⟩ = some (.slice A937_9 ((rd_T68 l0_3 x4_2).f5.f2).length c937_9) ∧ w'.cell? ⟨(ad937.add ((x4_2).toNat * 14)).block, (ad937.add ((x4_2).toNat * 14)).off + 10, none⟩ = some (.slice A937_10 ((rd_T68 l0_3 x4_2).f6).length c937_10) ∧ w'.cell? ⟨(ad937.add ((x4_2).toNat * 14)).block, (ad937.add ((x4_2).toNat * 14)).off + 11, none⟩ = some (.bool ((rd_T68 l0_3 x4_2).f7)) ∧ w'.cell? ⟨(ad937.add ((x4_2).toNat * 14)).block, (ad937.add ((x4_2).toNat * 14)).off + 12, none⟩ = some (.slice A937_12 ((rd_T68 l0_3 x4_2).f8).length c937_12) ∧ w'.cell? ⟨(ad937.add ((x4_2).toNat * 14)).block, (ad937.add ((x4_2).toNat * 14)).off + 13, none⟩ = some (.string ((rd_T68 l0_3 x4_2).f9)) ∧ w'.cell? (ad937.add ((x4_2).toNat * 14)) = some (.int .i64 ((rd_T68 l0_3 x4_2).f0)) ∧ w'.cell? ⟨(ad937.add ((x4_2).toNat * 14)).block, (ad937.add ((x4_2).toNat * 14)).off + 1, none⟩ = some (.int .i64 ((rd_T68 l0_3 x4_2).f1)) ∧ w'.cell? ⟨(ad937.add ((x4_2).toNat * 14)).block, (ad937.add ((x4_2).toNat * 14)).off + 2, none⟩ = some (.int .i64 ((rd_T68 l0_3 x4_2).f2)) ∧ w'.cell? ⟨(ad937.add ((x4_2).toNat * 14)).block, (ad937.add ((x4_2).toNat * 14)).off + 3, none⟩ = some (.string ((rd_T68 l0_3 x4_2).f3)) ∧ w'.cell? ⟨(ad937.add ((x4_2).toNat * 14)).block, (ad937.add ((x4_2).toNat * 14)).off + 4, none⟩ = some (.int .i64 ((rd_T68 l0_3 x4_2).f4.f0)) ∧ w'.cell? ⟨(ad937.add ((x4_2).toNat * 14)).block, (ad937.add ((x4_2).toNat * 14)).off + 5, none⟩ = some (.int .i64 ((rd_T68 l0_3 x4_2).f4.f1)) ∧ w'.cell? ⟨(ad937.add ((x4_2).toNat * 14)).block, (ad937.add ((x4_2).toNat * 14)).off + 6, none⟩ = some (.slice A939_6 ((rd_T68 l0_3 x4_2).f4.f2).length c939_6) ∧ w'.cell? ⟨(ad937.add ((x4_2).toNat * 14)).block, (ad937.add ((x4_2).toNat * 14)).off + 7, none⟩ = some (.int .i64 ((rd_T68 l0_3 x4_2).f5.f0)) ∧ w'.cell? ⟨(ad937.add ((x4_2).toNat * 14)).block, (ad937.add ((x4_2).toNat * 14)).off + 8, none⟩ = some (.slice A939_8 ((rd_T68 l0_3 x4_2).f5.f1).length c939_8) ∧ w'.cell? ⟨(ad937.add ((x4_2).toNat * 14)).block, (ad937.add ((x4_2).toNat * 14)).off + 9, none⟩ = some (.slice A939_9 ((rd_T68 l0_3 x4_2).f5.f2).length c939_9) ∧ w'.cell? ⟨(ad937.add ((x4_2).toNat * 14)).block, (ad937.add ((x4_2).toNat * 14)).off + 10, none⟩ = some (.slice A939_10 ((rd_T68 l0_3 x4_2).f6).length c939_10) ∧ w'.cell? ⟨(ad937.add ((x4_2).toNat * 14)).block, (ad937.add ((x4_2).toNat * 14)).off + 11, none⟩ = some (.bool ((rd_T68 l0_3 x4_2).f7)) ∧ w'.cell? ⟨(ad937.add ((x4_2).toNat * 14)).block, (ad937.add ((x4_2).toNat * 14)).off + 12, none⟩ = some (.slice A939_12 ((rd_T68 l0_3 x4_2).f8).length c939_12) ∧ w'.cell? ⟨(ad937.add ((x4_2).toNat * 14)).block, (ad937.add ((x4_2).toNat * 14)).off + 13, none⟩ = some (.string ((rd_T68 l0_3 x4_2).f9))) (ds := []) #[false, false, false, false, false, false, false, false, false, false, false, false, false, false, false, false, false, false] (by kernel_rfl) rfl rfl ⟨(blk_cell BK936.out 0).trans rfl, (blk_cell BK936.out 1).trans rfl, (blk_cell BK936.out 2).trans rfl, (blk_cell BK936.out 3).trans rfl, (blk_cell BK936.out 4).trans rfl, (blk_cell BK936.out 5).trans rfl, (blk_cell BK936.out 6).trans rfl, (blk_cell BK936.out 7).trans rfl, (blk_cell BK936.out 8).trans rfl, (blk_cell BK936.out 9).trans rfl, (blk_cell BK936.out 10).trans rfl, (blk_cell BK936.out 11).trans rfl, (blk_cell BK936.out 12).trans rfl, (blk_cell BK936.out 13).trans rfl, (blk_cell BK936.out 14).trans rfl, (blk_cell BK936.out 15).trans rfl, ((HB.out.cell (World.block_lt_of_cell? w _ hw937_0)).trans hw937_0), ((HB.out.cell (World.block_lt_of_cell? w _ hw937_1)).trans hw937_1), ((HB.out.cell (World.block_lt_of_cell? w _ hw937_2)).trans hw937_2), ((HB.out.cell (World.block_lt_of_cell? w _ hw937_3)).trans hw937_3), ((HB.out.cell (World.block_lt_of_cell? w _ hw937_4)).trans hw937_4), ((HB.out.cell (World.block_lt_of_cell? w _ hw937_5)).trans hw937_5), ((HB.out.cell (World.block_lt_of_cell? w _ hw937_6)).trans hw937_6), ((HB.out.cell (World.block_lt_of_cell? w _ hw937_7)).trans hw937_7), ((HB.out.cell (World.block_lt_of_cell? w _ hw937_8)).trans hw937_8), ((HB.out.cell (World.block_lt_of_cell? w _ hw937_9)).trans hw937_9), ((HB.out.cell (World.block_lt_of_cell? w _ hw937_10)).trans hw937_10), ((HB.out.cell (World.block_lt_of_cell? w _ hw937_11)).trans hw937_11), ((HB.out.cell (World.block_lt_of_cell? w _ hw937_12)).trans hw937_12), ((HB.out.cell (World.block_lt_of_cell? w _ hw937_13)).trans hw937_13), ((HB.out.cell (World.block_lt_of_cell? w _ hw939_0)).trans hw939_0), ((HB.out.cell (World.block_lt_of_cell? w _ hw939_1)).trans hw939_1), ((HB.out.cell (World.block_lt_of_cell? w _ hw939_2)).trans hw939_2), ((HB.out.cell (World.block_lt_of_cell? w _ hw939_3)).trans hw939_3), ((HB.out.cell (World.block_lt_of_cell? w _ hw939_4)).trans hw939_4), ((HB.out.cell (World.block_lt_of_cell? w _ hw939_5)).trans hw939_5), ((HB.out.cell (World.block_lt_of_cell? w _ hw939_6)).trans hw939_6), ((HB.out.cell (World.block_lt_of_cell? w _ hw939_7)).trans hw939_7), ((HB.out.cell (World.block_lt_of_cell? w _ hw939_8)).trans hw939_8), ((HB.out.cell (World.block_lt_of_cell? w _ hw939_9)).trans hw939_9), ((HB.out.cell (World.block_lt_of_cell? w _ hw939_10)).trans hw939_10), ((HB.out.cell (World.block_lt_of_cell? w _ hw939_11)).trans hw939_11), ((HB.out.cell (World.block_lt_of_cell? w _ hw939_12)).trans hw939_12), ((HB.out.cell (World.block_lt_of_cell? w _ hw939_13)).trans hw939_13)⟩ (fun hHeld => ?_); refine with_tabW spec_l13Blocks.tab10 spec_l13Blocks.bits10 (fun HT_ HW_ => ?_)
                  generalize wr.drew = w13 at BK936 HB HR937_10 HR937_12 HR937_6 HR937_8 HR937_9 HR939_10 HR939_12 HR939_6 HR939_8 HR939_9 hx937_0 hx937_1 hx937_10 hx937_11 hx937_12 hx937_13 hx937_2 hx937_3 hx937_4 hx937_5 hx937_6 hx937_7 hx937_8 hx937_9 hx939_0 hx939_1 hx939_10 hx939_11 hx939_12 hx939_13 hx939_2 hx939_3 hx939_4 hx939_5 hx939_6 hx939_7 hx939_8 hx939_9 hHeld ⊢
                  refine pure_ (i := 0) (N := some 18) (v := ?_) (a' := ?_) #[true, false, false, false, false, false, false, false, false, false, false, false, false, false, false, false, false, false] rfl rfl (any_of HT_.out (by kernel_rfl)) (fun _ _ _ h => h) (Or.inl ⟨by rfl, ?_⟩) ?_ ?_
                  rotate_left
                  · intro w'
                    go_simp
                    with_reducible rfl
                  rotate_left
                  · simp only [Act.put, List.setIfInBounds_toArray, List.set_cons_zero, List.set_cons_succ, i64_w, i32_w]
                    rfl
                  refine pure_ (i := 2) (N := some 20) (v := ?_) (a' := ?_) #[true, false, true, false, false, false, false, false, false, false, false, false, false, false, false, false, false, false] rfl rfl (any_of HT_.out (by kernel_rfl)) (fun _ _ _ h => h) (Or.inl ⟨by rfl, ?_⟩) ?_ ?_
                  rotate_left
                  · intro w'
                    go_simp
                    with_reducible rfl
                  rotate_left
                  · simp only [Act.put, List.setIfInBounds_toArray, List.set_cons_zero, List.set_cons_succ, i64_w, i32_w]
                    rfl
                  refine take_ (i := 1) (N := some 19) (v := ?_) (a' := ?_) #[true, true, true, false, false, false, false, false, false, false, false, false, false, false, false, false, false, false] rfl rfl (take_ofW HT_.out HW_.out (by kernel_rfl)) (fun _ _ _ h => h) (Or.inl ⟨by rfl, ?_⟩) hHeld ?_ ?_
                  rotate_left
                  · rintro w' ⟨s0, s1, s2, s3, s4, s5, s6, s7, s8, s9, s10, s11, s12, s13, s14, s15, s16, s17, s18, s19, s20, s21, s22, s23, s24, s25, s26, s27, s28, s29, s30, s31, s32, s33, s34, s35, s36, s37, s38, s39, s40, s41, s42, s43⟩
                    go_simp
                    with_reducible rfl
                  rotate_left
                  · simp only [Act.put, List.setIfInBounds_toArray, List.set_cons_zero, List.set_cons_succ, i64_w, i32_w]
                    rfl
                  refine pure_ (i := 3) (N := some 21) (v := ?_) (a' := ?_) #[true, true, true, true, false, false, false, false, false, false, false, false, false, false, false, false, false, false] rfl rfl (any_of HT_.out (by kernel_rfl)) (fun _ _ _ h => h) (Or.inl ⟨by rfl, ?_⟩) ?_ ?_
                  rotate_left
                  · intro w'
                    go_simp
                    with_reducible rfl
                  rotate_left
                  · simp only [Act.put, List.setIfInBounds_toArray, List.set_cons_zero, List.set_cons_succ, i64_w, i32_w]
                    rfl
                  refine take_ (i := 4) (N := some 22) (v := ?_) (a' := ?_) #[true, true, true, true, true, false, false, false, false, false, false, false, false, false, false, false, false, false] rfl rfl (take_ofW HT_.out HW_.out (by kernel_rfl)) (fun _ _ _ h => h) (Or.inl ⟨by rfl, ?_⟩) hHeld ?_ ?_
                  rotate_left
                  · rintro w' ⟨s0, s1, s2, s3, s4, s5, s6, s7, s8, s9, s10, s11, s12, s13, s14, s15, s16, s17, s18, s19, s20, s21, s22, s23, s24, s25, s26, s27, s28, s29, s30, s31, s32, s33, s34, s35, s36, s37, s38, s39, s40, s41, s42, s43⟩
                    go_simp
                    with_reducible rfl
                  rotate_left
                  · simp only [Act.put, List.setIfInBounds_toArray, List.set_cons_zero, List.set_cons_succ, i64_w, i32_w]
                    rfl
                  refine one_ (i := 5) (N := some 23) #[true, true, true, true, true, true, false, false, false, false, false, false, false, false, false, false, false, false] rfl rfl (one_of HT_.out (by kernel_rfl)) (by decide) (fun K hK => ?_)
                  refine goes_ Try.func53 (by kernel_rfl) rfl #[.agg #[.int .i64 ((rd_T68 l0_3 x4_2).f0), .int .i64 ((rd_T68 l0_3 x4_2).f1), .int .i64 ((rd_T68 l0_3 x4_2).f2), .string ((rd_T68 l0_3 x4_2).f3), .int .i64 ((rd_T68 l0_3 x4_2).f4.f0), .int .i64 ((rd_T68 l0_3 x4_2).f4.f1), .slice A937_6 ((rd_T68 l0_3 x4_2).f4.f2).length c937_6, .int .i64 ((rd_T68 l0_3 x4_2).f5.f0), .slice A937_8 ((rd_T68 l0_3 x4_2).f5.f1).length c937_8, .slice A937_9 ((rd_T68 l0_3 x4_2).f5.f2).length c937_9, .slice A937_10 ((rd_T68 l0_3 x4_2).f6).length c937_10, .bool ((rd_T68 l0_3 x4_2).f7), .slice A937_12 ((rd_T68 l0_3 x4_2).f8).length c937_12, .string ((rd_T68 l0_3 x4_2).f9)]] (by rfl) rfl rfl (by (try simp only [List.map_toArray, List.map_cons, List.map_nil]); first | done | rfl | (simp only [List.length_drop, List.length_take]; rfl)) ?_
                  with_reducible refine (spec_BlockOk.calls k2 ((rd_T68 l0_3 x4_2).f0) ((rd_T68 l0_3 x4_2).f1) ((rd_T68 l0_3 x4_2).f2) ((rd_T68 l0_3 x4_2).f3) ((rd_T68 l0_3 x4_2).f4.f0) ((rd_T68 l0_3 x4_2).f4.f1) _ _ ((rd_T68 l0_3 x4_2).f4.f2) ((rd_T68 l0_3 x4_2).f5.f0) _ _ ((rd_T68 l0_3 x4_2).f5.f1) _ _ ((rd_T68 l0_3 x4_2).f5.f2) _ _ ((rd_T68 l0_3 x4_2).f6) ((rd_T68 l0_3 x4_2).f7) _ _ ((rd_T68 l0_3 x4_2).f8) ((rd_T68 l0_3 x4_2).f9) true _ ?side1 ?side2 ?side3 ?side4 ?side5 ?side6 ?side7 ?side8 ?side9 ?side10 A9.out).mono ?_
                  (case side1 => repeat (first | exact (Kd.C_below HR937_6.out HB.out) | (with_reducible refine Kd.C_alloc ?_ _) | (with_reducible refine Kd.C_drewN ?_ _) | (with_reducible refine Kd.C_drew ?_)))
                  (case side2 => exact HC937_6.out)
                  (case side3 => repeat (first | exact (Kd.C_below HR937_8.out HB.out) | (with_reducible refine Kd.C_alloc ?_ _) | (with_reducible refine Kd.C_drewN ?_ _) | (with_reducible refine Kd.C_drew ?_)))
                  (case side4 => exact HC937_8.out)
                  (case side5 => repeat (first | exact (Kd.C_below HR937_9.out HB.out) | (with_reducible refine Kd.C_alloc ?_ _) | (with_reducible refine Kd.C_drewN ?_ _) | (with_reducible refine Kd.C_drew ?_)))
                  (case side6 => exact HC937_9.out)
                  (case side7 => repeat (first | exact (Kd.C_below HR937_10.out HB.out) | (with_reducible refine Kd.C_alloc ?_ _) | (with_reducible refine Kd.C_drewN ?_ _) | (with_reducible refine Kd.C_drew ?_)))
                  (case side8 => exact HC937_10.out)
                  (case side9 => repeat (first | exact (Kd.C_below HR937_12.out HB.out) | (with_reducible refine Kd.C_alloc ?_ _) | (with_reducible refine Kd.C_drewN ?_ _) | (with_reducible refine Kd.C_drew ?_)))
                  (case side10 => exact HC937_12.out)
                  rintro e w14 ⟨rfl, hb⟩
                  refine ⟨_, rfl, ?_⟩
                  have n0_ := Aside0.mk (blk_below (g := gb936) (by (with_reducible repeat (first | refine blk_drewN ?_ _ | refine blk_drew ?_ | refine blk_alloc ?_ _)); exact BK936.out) hb)
                  have n1_ := Aside0.mk (below_step (by repeat (first | (with_reducible first | exact HB.out | apply below_alloc | apply pw_below_drewN | apply below_drew1 | refine below_set ?_ GE936.out) | exact HB.out)) hb)
                  clear BK936
                  clear HB
                  have BK936 := n0_
                  have HB := n1_
                  clear n0_ n1_
                  (try clear hb)
                  (try clear hb2)
                  (try clear hk)
                  (try clear hi)
                  refine hK.out _ _ ⟨(blk_cell BK936.out 0).trans rfl, (blk_cell BK936.out 1).trans rfl, (blk_cell BK936.out 2).trans rfl, (blk_cell BK936.out 3).trans rfl, (blk_cell BK936.out 4).trans rfl, (blk_cell BK936.out 5).trans rfl, (blk_cell BK936.out 6).trans rfl, (blk_cell BK936.out 7).trans rfl, (blk_cell BK936.out 8).trans rfl, (blk_cell BK936.out 9).trans rfl, (blk_cell BK936.out 10).trans rfl, (blk_cell BK936.out 11).trans rfl, (blk_cell BK936.out 12).trans rfl, (blk_cell BK936.out 13).trans rfl, (blk_cell BK936.out 14).trans rfl, (blk_cell BK936.out 15).trans rfl, ((HB.out.cell (World.block_lt_of_cell? w _ hw937_0)).trans hw937_0), ((HB.out.cell (World.block_lt_of_cell? w _ hw937_1)).trans hw937_1), ((HB.out.cell (World.block_lt_of_cell? w _ hw937_2)).trans hw937_2), ((HB.out.cell (World.block_lt_of_cell? w _ hw937_3)).trans hw937_3), ((HB.out.cell (World.block_lt_of_cell? w _ hw937_4)).trans hw937_4), ((HB.out.cell (World.block_lt_of_cell? w _ hw937_5)).trans hw937_5), ((HB.out.cell (World.block_lt_of_cell? w _ hw937_6)).trans hw937_6), ((HB.out.cell (World.block_lt_of_cell? w _ hw937_7)).trans hw937_7), ((HB.out.cell (World.block_lt_of_cell? w _ hw937_8)).trans hw937_8), ((HB.out.cell (World.block_lt_of_cell? w _ hw937_9)).trans hw937_9), ((HB.out.cell (World.block_lt_of_cell? w _ hw937_10)).trans hw937_10), ((HB.out.cell (World.block_lt_of_cell? w _ hw937_11)).trans hw937_11), ((HB.out.cell (World.block_lt_of_cell? w _ hw937_12)).trans hw937_12), ((HB.out.cell (World.block_lt_of_cell? w _ hw937_13)).trans hw937_13), ((HB.out.cell (World.block_lt_of_cell? w _ hw939_0)).trans hw939_0), ((HB.out.cell (World.block_lt_of_cell? w _ hw939_1)).trans hw939_1), ((HB.out.cell (World.block_lt_of_cell? w _ hw939_2)).trans hw939_2), ((HB.out.cell (World.block_lt_of_cell? w _ hw939_3)).trans hw939_3), ((HB.out.cell (World.block_lt_of_cell? w _ hw939_4)).trans hw939_4), ((HB.out.cell (World.block_lt_of_cell? w _ hw939_5)).trans hw939_5), ((HB.out.cell (World.block_lt_of_cell? w _ hw939_6)).trans hw939_6), ((HB.out.cell (World.block_lt_of_cell? w _ hw939_7)).trans hw939_7), ((HB.out.cell (World.block_lt_of_cell? w _ hw939_8)).trans hw939_8), ((HB.out.cell (World.block_lt_of_cell? w _ hw939_9)).trans hw939_9), ((HB.out.cell (World.block_lt_of_cell? w _ hw939_10)).trans hw939_10), ((HB.out.cell (World.block_lt_of_cell? w _ hw939_11)).trans hw939_11), ((HB.out.cell (World.block_lt_of_cell? w _ hw939_12)).trans hw939_12), ((HB.out.cell (World.block_lt_of_cell? w _ hw939_13)).trans hw939_13)⟩ (fun hHeld => ?_)
                  clear hK K
                  refine norm_ (a' := ?_) ?_ ?_
                  rotate_left
                  · show Act.put _ (some 23) _ = _
                    simp only [Act.put, List.setIfInBounds_toArray, List.set_cons_zero, List.set_cons_succ, i64_w, i32_w]
                    rfl
                  refine pure_ (i := 6) (N := some 24) (v := ?_) (a' := ?_) #[true, true, true, true, true, true, true, false, false, false, false, false, false, false, false, false, false, false] rfl rfl (any_of HT_.out (by kernel_rfl)) (fun _ _ _ h => h) (Or.inl ⟨by rfl, ?_⟩) ?_ ?_
                  rotate_left
                  · intro w'
                    go_simp
                    with_reducible rfl
                  rotate_left
                  · simp only [Act.put, List.setIfInBounds_toArray, List.set_cons_zero, List.set_cons_succ, i64_w, i32_w]
                    rfl
                  refine pure_ (i := 7) (N := some 25) (v := ?_) (a' := ?_) #[true, true, true, true, true, true, true, true, false, false, false, false, false, false, false, false, false, false] rfl rfl (any_of HT_.out (by kernel_rfl)) (fun _ _ _ h => h) (Or.inl ⟨by rfl, ?_⟩) ?_ ?_
                  rotate_left
                  · intro w'
                    go_simp
                    with_reducible rfl
                  rotate_left
                  · simp only [Act.put, List.setIfInBounds_toArray, List.set_cons_zero, List.set_cons_succ, i64_w, i32_w]
                    rfl
                  refine pure_ (i := 8) (N := some 26) (v := ?_) (a' := ?_) #[true, true, true, true, true, true, true, true, true, false, false, false, false, false, false, false, false, false] rfl rfl (any_of HT_.out (by kernel_rfl)) (fun _ _ _ h => h) (Or.inl ⟨by rfl, ?_⟩) ?_ ?_
                  rotate_left
                  · intro w'
                    go_simp
                    with_reducible rfl
                  rotate_left
                  · simp only [Act.put, List.setIfInBounds_toArray, List.set_cons_zero, List.set_cons_succ, i64_w, i32_w]
                    rfl
                  refine pure_ (i := 10) (N := some 28) (v := ?_) (a' := ?_) #[true, true, true, true, true, true, true, true, true, false, true, false, false, false, false, false, false, false] rfl rfl (any_of HT_.out (by kernel_rfl)) (fun _ _ _ h => h) (Or.inl ⟨by rfl, ?_⟩) ?_ ?_
                  rotate_left
                  · intro w'
                    go_simp
                    with_reducible rfl
                  rotate_left
                  · simp only [Act.put, List.setIfInBounds_toArray, List.set_cons_zero, List.set_cons_succ, i64_w, i32_w]
                    rfl
                  refine pure_ (i := 14) (N := some 32) (v := ?_) (a' := ?_) #[true, true, true, true, true, true, true, true, true, false, true, false, false, false, true, false, false, false] rfl rfl (any_of HT_.out (by kernel_rfl)) (fun _ _ _ h => h) (Or.inl ⟨by rfl, ?_⟩) ?_ ?_
                  rotate_left
                  · intro w'
                    go_simp
                    with_reducible rfl
                  rotate_left
                  · simp only [Act.put, List.setIfInBounds_toArray, List.set_cons_zero, List.set_cons_succ, i64_w, i32_w]
                    rfl
                  refine take_ (i := 9) (N := some 27) (v := ?_) (a' := ?_) #[true, true, true, true, true, true, true, true, true, true, true, false, false, false, true, false, false, false] rfl rfl (take_ofW HT_.out HW_.out (by kernel_rfl)) (fun _ _ _ h => h) (Or.inl ⟨by rfl, ?_⟩) hHeld ?_ ?_
                  rotate_left
                  · rintro w' ⟨s0, s1, s2, s3, s4, s5, s6, s7, s8, s9, s10, s11, s12, s13, s14, s15, s16, s17, s18, s19, s20, s21, s22, s23, s24, s25, s26, s27, s28, s29, s30, s31, s32, s33, s34, s35, s36, s37, s38, s39, s40, s41, s42, s43⟩
                    go_simp
                    with_reducible rfl
                  rotate_left
                  · simp only [Act.put, List.setIfInBounds_toArray, List.set_cons_zero, List.set_cons_succ, i64_w, i32_w]
                    rfl
                  refine pure_ (i := 11) (N := some 29) (v := ?_) (a' := ?_) #[true, true, true, true, true, true, true, true, true, true, true, true, false, false, true, false, false, false] rfl rfl (any_of HT_.out (by kernel_rfl)) (fun _ _ _ h => h) (Or.inl ⟨by rfl, ?_⟩) ?_ ?_
                  rotate_left
                  · intro w'
                    go_simp
                    with_reducible rfl
                  rotate_left
                  · simp only [Act.put, List.setIfInBounds_toArray, List.set_cons_zero, List.set_cons_succ, i64_w, i32_w]
                    rfl
                  refine pure_ (i := 12) (N := some 30) (v := ?_) (a' := ?_) #[true, true, true, true, true, true, true, true, true, true, true, true, true, false, true, false, false, false] rfl rfl (any_of HT_.out (by kernel_rfl)) (fun _ _ _ h => h) (Or.inl ⟨by rfl, ?_⟩) ?_ ?_
                  rotate_left
                  · intro w'
                    go_simp
                    with_reducible rfl
                  rotate_left
                  · simp only [Act.put, List.setIfInBounds_toArray, List.set_cons_zero, List.set_cons_succ, i64_w, i32_w]
                    rfl
                  refine take_ (i := 13) (N := some 31) (v := ?_) (a' := ?_) #[true, true, true, true, true, true, true, true, true, true, true, true, true, true, true, false, false, false] rfl rfl (take_ofW HT_.out HW_.out (by kernel_rfl)) (fun _ _ _ h => h) (Or.inl ⟨by rfl, ?_⟩) hHeld ?_ ?_
                  rotate_left
                  · rintro w' ⟨s0, s1, s2, s3, s4, s5, s6, s7, s8, s9, s10, s11, s12, s13, s14, s15, s16, s17, s18, s19, s20, s21, s22, s23, s24, s25, s26, s27, s28, s29, s30, s31, s32, s33, s34, s35, s36, s37, s38, s39, s40, s41, s42, s43⟩
                    go_simp
                    with_reducible rfl
                  rotate_left
                  · simp only [Act.put, List.setIfInBounds_toArray, List.set_cons_zero, List.set_cons_succ, i64_w, i32_w]
                    rfl
                  refine take_ (i := 15) (N := some 33) (v := ?_) (a' := ?_) #[true, true, true, true, true, true, true, true, true, true, true, true, true, true, true, true, false, false] rfl rfl (take_ofW HT_.out HW_.out (by kernel_rfl)) (fun _ _ _ h => h) (Or.inl ⟨by rfl, ?_⟩) hHeld ?_ ?_
                  rotate_left
                  · rintro w' ⟨s0, s1, s2, s3, s4, s5, s6, s7, s8, s9, s10, s11, s12, s13, s14, s15, s16, s17, s18, s19, s20, s21, s22, s23, s24, s25, s26, s27, s28, s29, s30, s31, s32, s33, s34, s35, s36, s37, s38, s39, s40, s41, s42, s43⟩
                    go_simp
                    with_reducible rfl
                  rotate_left
                  · simp only [Act.put, List.setIfInBounds_toArray, List.set_cons_zero, List.set_cons_succ, i64_w, i32_w]
                    rfl
                  refine pure_ (i := 16) (N := some 34) (v := ?_) (a' := ?_) #[true, true, true, true, true, true, true, true, true, true, true, true, true, true, true, true, true, false] rfl rfl (any_of HT_.out (by kernel_rfl)) (fun _ _ _ h => h) (Or.inl ⟨by rfl, ?_⟩) ?_ ?_
                  rotate_left
                  · intro w'
                    go_simp
                    with_reducible rfl
                  rotate_left
                  · simp only [Act.put, List.setIfInBounds_toArray, List.set_cons_zero, List.set_cons_succ, i64_w, i32_w]
                    rfl
                  refine pure_ (i := 17) (N := some 35) (v := ?_) (a' := ?_) #[true, true, true, true, true, true, true, true, true, true, true, true, true, true, true, true, true, true] rfl rfl (any_of HT_.out (by kernel_rfl)) (fun _ _ _ h => h) (Or.inl ⟨by rfl, ?_⟩) ?_ ?_
                  rotate_left
                  · intro w'
                    go_simp
                    with_reducible rfl
                  rotate_left
                  · simp only [Act.put, List.setIfInBounds_toArray, List.set_cons_zero, List.set_cons_succ, i64_w, i32_w]
                    rfl
                  refine done_ (done_of HT_.out (by kernel_rfl)) ?_
                  try go_wp2
                  go_roundg k2
                  case measure => have := HJ1.out; have := HK2.out; omega
                  case rel => exact ⟨(wrap64 (x4_2 + 1)), (by first | rfl | (simp; done) | (simp [*]; done)), H', ⟨by have := HJ1.out; have := HK2.out; omega⟩, ⟨by (with_reducible repeat (first | refine blk_drewN ?_ _ | refine blk_drew ?_ | refine blk_alloc ?_ _)); exact BK936.out⟩, ⟨by repeat (first | (with_reducible first | exact HB.out | apply below_alloc | apply pw_below_drewN | apply below_drew1 | refine below_set ?_ GE936.out) | exact HB.out)⟩⟩
                · rw [if_neg c11] at H
                  have c11b0 : (((rd_T68 l0_3 x4_2).f1) == a0_2) = false := beq_eq_false_iff_ne.mpr c11
                  have c11b1 : (((rd_T68 l0_3 x4_2).f1) != a0_2) = true := bne_iff_ne.mpr c11
                  obtain rfl := Option.some.inj H
                  obtain ⟨hcz15_0, hcz15_1, hcz15_2, hcz15_3, hcz15_4, hcz15_5, hcz15_6, hcz15_7, hcz15_8, hcz15_9, hcz15_10, hcz15_11, hcz15_12, hcz15_13, hcz15_14, hcz15_15⟩ := cells16 BK936.out
                  obtain ⟨hfz15_0, hfz15_1, hfz15_2, hfz15_3, hfz15_4, hfz15_5, hfz15_6, hfz15_7, hfz15_8, hfz15_9, hfz15_10, hfz15_11, hfz15_12, hfz15_13, hfz15_14, hfz15_15⟩ := frozens16 BK936.out
                  try go_wp2
                  have n0_ := Aside0.mk (blk_drew BK936.out)
                  have n1_ := Aside0.mk (below_drew1 HB.out)
                  clear BK936
                  clear HB
                  have BK936 := n0_
                  have HB := n1_
                  clear n0_ n1_
                  have p937 : 0 ≤ (x4_2 : Int) := of_decide_eq_true (by first | (with_reducible assumption) | assumption)
                  have q937 : x4_2 < (l0_3.length : Int) := of_decide_eq_true (by first | (with_reducible assumption) | assumption)
                  obtain ⟨ad937, A937_6, c937_6, A937_8, c937_8, A937_9, c937_9, A937_10, c937_10, A937_12, c937_12, e937, hx937_0, hx937_1, hx937_2, hx937_3, hx937_4, hx937_5, hx937_6, hx937_7, hx937_8, hx937_9, hx937_10, hx937_11, hx937_12, hx937_13, hl937_6, hi937_6, hl937_8, hi937_8, hl937_9, hi937_9, hl937_10, hi937_10, hl937_12, hi937_12⟩ := at_T68 HR0_3.out x4_2 p937 q937
                  have hw937_13 := hx937_13
                  have hw937_12 := hx937_12
                  have hw937_11 := hx937_11
                  have hw937_10 := hx937_10
                  have hw937_9 := hx937_9
                  have hw937_8 := hx937_8
                  have hw937_7 := hx937_7
                  have hw937_6 := hx937_6
                  have hw937_5 := hx937_5
                  have hw937_4 := hx937_4
                  have hw937_3 := hx937_3
                  have hw937_2 := hx937_2
                  have hw937_1 := hx937_1
                  have hw937_0 := hx937_0
                  cases e937
                  replace hx937_0 := (HB.out.cell (World.block_lt_of_cell? w _ hx937_0)).trans hx937_0
                  replace hx937_1 := (HB.out.cell (World.block_lt_of_cell? w _ hx937_1)).trans hx937_1
                  replace hx937_2 := (HB.out.cell (World.block_lt_of_cell? w _ hx937_2)).trans hx937_2
                  replace hx937_3 := (HB.out.cell (World.block_lt_of_cell? w _ hx937_3)).trans hx937_3
                  replace hx937_4 := (HB.out.cell (World.block_lt_of_cell? w _ hx937_4)).trans hx937_4
                  replace hx937_5 := (HB.out.cell (World.block_lt_of_cell? w _ hx937_5)).trans hx937_5
                  replace hx937_6 := (HB.out.cell (World.block_lt_of_cell? w _ hx937_6)).trans hx937_6
                  replace hx937_7 := (HB.out.cell (World.block_lt_of_cell? w _ hx937_7)).trans hx937_7
                  replace hx937_8 := (HB.out.cell (World.block_lt_of_cell? w _ hx937_8)).trans hx937_8
                  replace hx937_9 := (HB.out.cell (World.block_lt_of_cell? w _ hx937_9)).trans hx937_9
                  replace hx937_10 := (HB.out.cell (World.block_lt_of_cell? w _ hx937_10)).trans hx937_10
                  replace hx937_11 := (HB.out.cell (World.block_lt_of_cell? w _ hx937_11)).trans hx937_11
                  replace hx937_12 := (HB.out.cell (World.block_lt_of_cell? w _ hx937_12)).trans hx937_12
                  replace hx937_13 := (HB.out.cell (World.block_lt_of_cell? w _ hx937_13)).trans hx937_13
                  have HR937_6 := Aside0.mk hi937_6
                  have HC937_6 := Aside0.mk hl937_6
                  clear hi937_6 hl937_6
                  have HR937_8 := Aside0.mk hi937_8
                  have HC937_8 := Aside0.mk hl937_8
                  clear hi937_8 hl937_8
                  have HR937_9 := Aside0.mk hi937_9
                  have HC937_9 := Aside0.mk hl937_9
                  clear hi937_9 hl937_9
                  have HR937_10 := Aside0.mk hi937_10
                  have HC937_10 := Aside0.mk hl937_10
                  clear hi937_10 hl937_10
                  have HR937_12 := Aside0.mk hi937_12
                  have HC937_12 := Aside0.mk hl937_12
                  clear hi937_12 hl937_12
                  replace p937 := eq_true p937
                  replace q937 := eq_true q937
                  have p939 : 0 ≤ (x4_2 : Int) := of_decide_eq_true (by first | (with_reducible assumption) | assumption)
                  have q939 : x4_2 < (l0_3.length : Int) := of_decide_eq_true (by first | (with_reducible assumption) | assumption)
                  obtain ⟨ad939, A939_6, c939_6, A939_8, c939_8, A939_9, c939_9, A939_10, c939_10, A939_12, c939_12, e939, hx939_0, hx939_1, hx939_2, hx939_3, hx939_4, hx939_5, hx939_6, hx939_7, hx939_8, hx939_9, hx939_10, hx939_11, hx939_12, hx939_13, hl939_6, hi939_6, hl939_8, hi939_8, hl939_9, hi939_9, hl939_10, hi939_10, hl939_12, hi939_12⟩ := at_T68 HR0_3.out x4_2 p939 q939
                  have hw939_13 := hx939_13
                  have hw939_12 := hx939_12
                  have hw939_11 := hx939_11
                  have hw939_10 := hx939_10
                  have hw939_9 := hx939_9
                  have hw939_8 := hx939_8
                  have hw939_7 := hx939_7
                  have hw939_6 := hx939_6
                  have hw939_5 := hx939_5
                  have hw939_4 := hx939_4
                  have hw939_3 := hx939_3
                  have hw939_2 := hx939_2
                  have hw939_1 := hx939_1
                  have hw939_0 := hx939_0
                  obtain rfl : ad937 = ad939 := (by injection e939)
                  replace hx939_0 := (HB.out.cell (World.block_lt_of_cell? w _ hx939_0)).trans hx939_0
                  replace hx939_1 := (HB.out.cell (World.block_lt_of_cell? w _ hx939_1)).trans hx939_1
                  replace hx939_2 := (HB.out.cell (World.block_lt_of_cell? w _ hx939_2)).trans hx939_2
                  replace hx939_3 := (HB.out.cell (World.block_lt_of_cell? w _ hx939_3)).trans hx939_3
                  replace hx939_4 := (HB.out.cell (World.block_lt_of_cell? w _ hx939_4)).trans hx939_4
                  replace hx939_5 := (HB.out.cell (World.block_lt_of_cell? w _ hx939_5)).trans hx939_5
                  replace hx939_6 := (HB.out.cell (World.block_lt_of_cell? w _ hx939_6)).trans hx939_6
                  replace hx939_7 := (HB.out.cell (World.block_lt_of_cell? w _ hx939_7)).trans hx939_7
                  replace hx939_8 := (HB.out.cell (World.block_lt_of_cell? w _ hx939_8)).trans hx939_8
                  replace hx939_9 := (HB.out.cell (World.block_lt_of_cell? w _ hx939_9)).trans hx939_9
                  replace hx939_10 := (HB.out.cell (World.block_lt_of_cell? w _ hx939_10)).trans hx939_10
                  replace hx939_11 := (HB.out.cell (World.block_lt_of_cell? w _ hx939_11)).trans hx939_11
                  replace hx939_12 := (HB.out.cell (World.block_lt_of_cell? w _ hx939_12)).trans hx939_12
                  replace hx939_13 := (HB.out.cell (World.block_lt_of_cell? w _ hx939_13)).trans hx939_13
                  have HR939_6 := Aside0.mk hi939_6
                  have HC939_6 := Aside0.mk hl939_6
                  clear hi939_6 hl939_6
                  have HR939_8 := Aside0.mk hi939_8
                  have HC939_8 := Aside0.mk hl939_8
                  clear hi939_8 hl939_8
                  have HR939_9 := Aside0.mk hi939_9
                  have HC939_9 := Aside0.mk hl939_9
                  clear hi939_9 hl939_9
                  have HR939_10 := Aside0.mk hi939_10
                  have HC939_10 := Aside0.mk hl939_10
                  clear hi939_10 hl939_10
                  have HR939_12 := Aside0.mk hi939_12
                  have HC939_12 := Aside0.mk hl939_12
                  clear hi939_12 hl939_12
                  replace p939 := eq_true p939
                  replace q939 := eq_true q939
                  refine start_ (n := 18) (S := fun w' => w'.cell? ⟨gb936, 0, none⟩ = some (.int .i64 a0_0) ∧ w'.cell? ⟨gb936, 1, none⟩ = some (.string a0_1) ∧ w'.cell? ⟨gb936, 2, none⟩ = some (.int .i64 a0_2) ∧ w'.cell? ⟨gb936, 3, none⟩ = some (.slice (some ad937) l0_3.length c0_3) ∧ w'.cell? ⟨gb936, 4, none⟩ = some (.int .i64 a0_4) ∧ w'.cell? ⟨gb936, 5, none⟩ = some (.int .i64 a0_5) ∧ w'.cell? ⟨gb936, 6, none⟩ = some (.string a0_6) ∧ w'.cell? ⟨gb936, 7, none⟩ = some (.int .i64 a0_7) ∧ w'.cell? ⟨gb936, 8, none⟩ = some (.int .i64 a0_8) ∧ w'.cell? ⟨gb936, 9, none⟩ = some (.string a0_9) ∧ w'.cell? ⟨gb936, 10, none⟩ = some (.int .i64 a0_10) ∧ w'.cell? ⟨gb936, 11, none⟩ = some (.int .i64 a0_11) ∧ w'.cell? ⟨gb936, 12, none⟩ = some (.slice A0_12 l0_12.length c0_12) ∧ w'.cell? ⟨gb936, 13, none⟩ = some (.int .i64 a0_13) ∧ w'.cell? ⟨gb936, 14, none⟩ = some (.slice A0_14 l0_14.length c0_14) ∧ w'.cell? ⟨gb936, 15, none⟩ = some (.slice A0_15 l0_15.length c0_15) ∧ w'.cell? (ad937.add ((x4_2).toNat * 14)) = some (.int .i64 ((rd_T68 l0_3 x4_2).f0)) ∧ w'.cell? ⟨(ad937.add ((x4_2).toNat * 14)).block, (ad937.add ((x4_2).toNat * 14)).off + 1, none⟩ = some (.int .i64 ((rd_T68 l0_3 x4_2).f1)) ∧ w'.cell? ⟨(ad937.add ((x4_2).toNat * 14)).block, (ad937.add ((x4_2).toNat * 14)).off + 2, none⟩ = some (.int .i64 ((rd_T68 l0_3 x4_2).f2)) ∧ w'.cell? ⟨(ad937.add ((x4_2).toNat * 14)).block, (ad937.add ((x4_2).toNat * 14)).off + 3, none⟩ = some (.string ((rd_T68 l0_3 x4_2).f3)) ∧ w'.cell? ⟨(ad937.add ((x4_2).toNat * 14)).block, (ad937.add ((x4_2).toNat * 14)).off + 4, none⟩ = some (.int .i64 ((rd_T68 l0_3 x4_2).f4.f0)) ∧ w'.cell? ⟨(ad937.add ((x4_2).toNat * 14)).block, (ad937.add ((x4_2).toNat * 14)).off + 5, none⟩ = some (.int .i64 ((rd_T68 l0_3 x4_2).f4.f1)) ∧ w'.cell? ⟨(ad937.add ((x4_2).toNat * 14)).block, (ad937.add ((x4_2).toNat * 14)).off + 6, none⟩ = some (.slice A937_6 ((rd_T68 l0_3 x4_2).f4.f2).length c937_6) ∧ w'.cell? ⟨(ad937.add ((x4_2).toNat * 14)).block, (ad937.add ((x4_2).toNat * 14)).off + 7, none⟩ = some (.int .i64 ((rd_T68 l0_3 x4_2).f5.f0)) ∧ w'.cell? ⟨(ad937.add ((x4_2).toNat * 14)).block, (ad937.add ((x4_2).toNat * 14)).off + 8, none⟩ = some (.slice A937_8 ((rd_T68 l0_3 x4_2).f5.f1).length c937_8) ∧ w'.cell? ⟨(ad937.add ((x4_2).toNat * 14)).block, (ad937.add ((x4_2).toNat * 14)).off + 9, none⟩ = some (.slice A937_9 ((rd_T68 l0_3 x4_2).f5.f2).length c937_9) ∧ w'.cell? ⟨(ad937.add ((x4_2).toNat * 14)).block, (ad937.add ((x4_2).toNat * 14)).off + 10, none⟩ = some (.slice A937_10 ((rd_T68 l0_3 x4_2).f6).length c937_10) ∧ w'.cell? ⟨(ad937.add ((x4_2).toNat * 14)).block, (ad937.add ((x4_2).toNat * 14)).off + 11, none⟩ = some (.bool ((rd_T68 l0_3 x4_2).f7)) ∧ w'.cell? ⟨(ad937.add ((x4_2).toNat * 14)).block, (ad937.add ((x4_2).toNat * 14)).off + 12, none⟩ = some (.slice A937_12 ((rd_T68 l0_3 x4_2).f8).length c937_12) ∧ w'.cell? ⟨(ad937.add ((x4_2).toNat * 14)).block, (ad937.add ((x4_2).toNat * 14)).off + 13, none⟩ = some (.string ((rd_T68 l0_3 x4_2).f9)) ∧ w'.cell? (ad937.add ((x4_2).toNat * 14)) = some (.int .i64 ((rd_T68 l0_3 x4_2).f0)) ∧ w'.cell? ⟨(ad937.add ((x4_2).toNat * 14)).block, (ad937.add ((x4_2).toNat * 14)).off + 1, none⟩ = some (.int .i64 ((rd_T68 l0_3 x4_2).f1)) ∧ w'.cell? ⟨(ad937.add ((x4_2).toNat * 14)).block, (ad937.add ((x4_2).toNat * 14)).off + 2, none⟩ = some (.int .i64 ((rd_T68 l0_3 x4_2).f2)) ∧ w'.cell? ⟨(ad937.add ((x4_2).toNat * 14)).block, (ad937.add ((x4_2).toNat * 14)).off + 3, none⟩ = some (.string ((rd_T68 l0_3 x4_2).f3)) ∧ w'.cell? ⟨(ad937.add ((x4_2).toNat * 14)).block, (ad937.add ((x4_2).toNat * 14)).off + 4, none⟩ = some (.int .i64 ((rd_T68 l0_3 x4_2).f4.f0)) ∧ w'.cell? ⟨(ad937.add ((x4_2).toNat * 14)).block, (ad937.add ((x4_2).toNat * 14)).off + 5, none⟩ = some (.int .i64 ((rd_T68 l0_3 x4_2).f4.f1)) ∧ w'.cell? ⟨(ad937.add ((x4_2).toNat * 14)).block, (ad937.add ((x4_2).toNat * 14)).off + 6, none⟩ = some (.slice A939_6 ((rd_T68 l0_3 x4_2).f4.f2).length c939_6) ∧ w'.cell? ⟨(ad937.add ((x4_2).toNat * 14)).block, (ad937.add ((x4_2).toNat * 14)).off + 7, none⟩ = some (.int .i64 ((rd_T68 l0_3 x4_2).f5.f0)) ∧ w'.cell? ⟨(ad937.add ((x4_2).toNat * 14)).block, (ad937.add ((x4_2).toNat * 14)).off + 8, none⟩ = some (.slice A939_8 ((rd_T68 l0_3 x4_2).f5.f1).length c939_8) ∧ w'.cell? ⟨(ad937.add ((x4_2).toNat * 14)).block, (ad937.add ((x4_2).toNat * 14)).off + 9, none⟩ = some (.slice A939_9 ((rd_T68 l0_3 x4_2).f5.f2).length c939_9) ∧ w'.cell? ⟨(ad937.add ((x4_2).toNat * 14)).block, (ad937.add ((x4_2).toNat * 14)).off + 10, none⟩ = some (.slice A939_10 ((rd_T68 l0_3 x4_2).f6).length c939_10) ∧ w'.cell? ⟨(ad937.add ((x4_2).toNat * 14)).block, (ad937.add ((x4_2).toNat * 14)).off + 11, none⟩ = some (.bool ((rd_T68 l0_3 x4_2).f7)) ∧ w'.cell? ⟨(ad937.add ((x4_2).toNat * 14)).block, (ad937.add ((x4_2).toNat * 14)).off + 12, none⟩ = some (.slice A939_12 ((rd_T68 l0_3 x4_2).f8).length c939_12) ∧ w'.cell? ⟨(ad937.add ((x4_2).toNat * 14)).block, (ad937.add ((x4_2).toNat * 14)).off + 13, none⟩ = some (.string ((rd_T68 l0_3 x4_2).f9))) (ds := []) #[false, false, false, false, false, false, false, false, false, false, false, false, false, false, false, false, false, false] (by kernel_rfl) rfl rfl ⟨(blk_cell BK936.out 0).trans rfl, (blk_cell BK936.out 1).trans rfl, (blk_cell BK936.out 2).trans rfl, (blk_cell BK936.out 3).trans rfl, (blk_cell BK936.out 4).trans rfl, (blk_cell BK936.out 5).trans rfl, (blk_cell BK936.out 6).trans rfl, (blk_cell BK936.out 7).trans rfl, (blk_cell BK936.out 8).trans rfl, (blk_cell BK936.out 9).trans rfl, (blk_cell BK936.out 10).trans rfl, (blk_cell BK936.out 11).trans rfl, (blk_cell BK936.out 12).trans rfl, (blk_cell BK936.out 13).trans rfl, (blk_cell BK936.out 14).trans rfl, (blk_cell BK936.out 15).trans rfl, ((HB.out.cell (World.block_lt_of_cell? w _ hw937_0)).trans hw937_0), ((HB.out.cell (World.block_lt_of_cell? w _ hw937_1)).trans hw937_1), ((HB.out.cell (World.block_lt_of_cell? w _ hw937_2)).trans hw937_2), ((HB.out.cell (World.block_lt_of_cell? w _ hw937_3)).trans hw937_3), ((HB.out.cell (World.block_lt_of_cell? w _ hw937_4)).trans hw937_4), ((HB.out.cell (World.block_lt_of_cell? w _ hw937_5)).trans hw937_5), ((HB.out.cell (World.block_lt_of_cell? w _ hw937_6)).trans hw937_6), ((HB.out.cell (World.block_lt_of_cell? w _ hw937_7)).trans hw937_7), ((HB.out.cell (World.block_lt_of_cell? w _ hw937_8)).trans hw937_8), ((HB.out.cell (World.block_lt_of_cell? w _ hw937_9)).trans hw937_9), ((HB.out.cell (World.block_lt_of_cell? w _ hw937_10)).trans hw937_10), ((HB.out.cell (World.block_lt_of_cell? w _ hw937_11)).trans hw937_11), ((HB.out.cell (World.block_lt_of_cell? w _ hw937_12)).trans hw937_12), ((HB.out.cell (World.block_lt_of_cell? w _ hw937_13)).trans hw937_13), ((HB.out.cell (World.block_lt_of_cell? w _ hw939_0)).trans hw939_0), ((HB.out.cell (World.block_lt_of_cell? w _ hw939_1)).trans hw939_1), ((HB.out.cell (World.block_lt_of_cell? w _ hw939_2)).trans hw939_2), ((HB.out.cell (World.block_lt_of_cell? w _ hw939_3)).trans hw939_3), ((HB.out.cell (World.block_lt_of_cell? w _ hw939_4)).trans hw939_4), ((HB.out.cell (World.block_lt_of_cell? w _ hw939_5)).trans hw939_5), ((HB.out.cell (World.block_lt_of_cell? w _ hw939_6)).trans hw939_6), ((HB.out.cell (World.block_lt_of_cell? w _ hw939_7)).trans hw939_7), ((HB.out.cell (World.block_lt_of_cell? w _ hw939_8)).trans hw939_8), ((HB.out.cell (World.block_lt_of_cell? w _ hw939_9)).trans hw939_9), ((HB.out.cell (World.block_lt_of_cell? w _ hw939_10)).trans hw939_10), ((HB.out.cell (World.block_lt_of_cell? w _ hw939_11)).trans hw939_11), ((HB.out.cell (World.block_lt_of_cell? w _ hw939_12)).trans hw939_12), ((HB.out.cell (World.block_lt_of_cell? w _ hw939_13)).trans hw939_13)⟩ (fun hHeld => ?_); refine with_tabW spec_l13Blocks.tab10 spec_l13Blocks.bits10 (fun HT_ HW_ => ?_)
                  generalize wr.drew = w16 at BK936 HB HR937_10 HR937_12 HR937_6 HR937_8 HR937_9 HR939_10 HR939_12 HR939_6 HR939_8 HR939_9 hx937_0 hx937_1 hx937_10 hx937_11 hx937_12 hx937_13 hx937_2 hx937_3 hx937_4 hx937_5 hx937_6 hx937_7 hx937_8 hx937_9 hx939_0 hx939_1 hx939_10 hx939_11 hx939_12 hx939_13 hx939_2 hx939_3 hx939_4 hx939_5 hx939_6 hx939_7 hx939_8 hx939_9 hHeld ⊢
                  refine pure_ (i := 0) (N := some 18) (v := ?_) (a' := ?_) #[true, false, false, false, false, false, false, false, false, false, false, false, false, false, false, false, false, false] rfl rfl (any_of HT_.out (by kernel_rfl)) (fun _ _ _ h => h) (Or.inl ⟨by rfl, ?_⟩) ?_ ?_
                  rotate_left
                  · intro w'
                    go_simp
                    with_reducible rfl
                  rotate_left
                  · simp only [Act.put, List.setIfInBounds_toArray, List.set_cons_zero, List.set_cons_succ, i64_w, i32_w]
                    rfl
                  refine pure_ (i := 2) (N := some 20) (v := ?_) (a' := ?_) #[true, false, true, false, false, false, false, false, false, false, false, false, false, false, false, false, false, false] rfl rfl (any_of HT_.out (by kernel_rfl)) (fun _ _ _ h => h) (Or.inl ⟨by rfl, ?_⟩) ?_ ?_
                  rotate_left
                  · intro w'
                    go_simp
                    with_reducible rfl
                  rotate_left
                  · simp only [Act.put, List.setIfInBounds_toArray, List.set_cons_zero, List.set_cons_succ, i64_w, i32_w]
                    rfl
                  refine take_ (i := 1) (N := some 19) (v := ?_) (a' := ?_) #[true, true, true, false, false, false, false, false, false, false, false, false, false, false, false, false, false, false] rfl rfl (take_ofW HT_.out HW_.out (by kernel_rfl)) (fun _ _ _ h => h) (Or.inl ⟨by rfl, ?_⟩) hHeld ?_ ?_
                  rotate_left
                  · rintro w' ⟨s0, s1, s2, s3, s4, s5, s6, s7, s8, s9, s10, s11, s12, s13, s14, s15, s16, s17, s18, s19, s20, s21, s22, s23, s24, s25, s26, s27, s28, s29, s30, s31, s32, s33, s34, s35, s36, s37, s38, s39, s40, s41, s42, s43⟩
                    go_simp
                    with_reducible rfl
                  rotate_left
                  · simp only [Act.put, List.setIfInBounds_toArray, List.set_cons_zero, List.set_cons_succ, i64_w, i32_w]
                    rfl
                  refine pure_ (i := 3) (N := some 21) (v := ?_) (a' := ?_) #[true, true, true, true, false, false, false, false, false, false, false, false, false, false, false, false, false, false] rfl rfl (any_of HT_.out (by kernel_rfl)) (fun _ _ _ h => h) (Or.inl ⟨by rfl, ?_⟩) ?_ ?_
                  rotate_left
                  · intro w'
                    go_simp
                    with_reducible rfl
                  rotate_left
                  · simp only [Act.put, List.setIfInBounds_toArray, List.set_cons_zero, List.set_cons_succ, i64_w, i32_w]
                    rfl
                  refine take_ (i := 4) (N := some 22) (v := ?_) (a' := ?_) #[true, true, true, true, true, false, false, false, false, false, false, false, false, false, false, false, false, false] rfl rfl (take_ofW HT_.out HW_.out (by kernel_rfl)) (fun _ _ _ h => h) (Or.inl ⟨by rfl, ?_⟩) hHeld ?_ ?_
                  rotate_left
                  · rintro w' ⟨s0, s1, s2, s3, s4, s5, s6, s7, s8, s9, s10, s11, s12, s13, s14, s15, s16, s17, s18, s19, s20, s21, s22, s23, s24, s25, s26, s27, s28, s29, s30, s31, s32, s33, s34, s35, s36, s37, s38, s39, s40, s41, s42, s43⟩
                    go_simp
                    with_reducible rfl
                  rotate_left
                  · simp only [Act.put, List.setIfInBounds_toArray, List.set_cons_zero, List.set_cons_succ, i64_w, i32_w]
                    rfl
                  refine one_ (i := 5) (N := some 23) #[true, true, true, true, true, true, false, false, false, false, false, false, false, false, false, false, false, false] rfl rfl (one_of HT_.out (by kernel_rfl)) (by decide) (fun K hK => ?_)
                  refine goes_ Try.func53 (by kernel_rfl) rfl #[.agg #[.int .i64 ((rd_T68 l0_3 x4_2).f0), .int .i64 ((rd_T68 l0_3 x4_2).f1), .int .i64 ((rd_T68 l0_3 x4_2).f2), .string ((rd_T68 l0_3 x4_2).f3), .int .i64 ((rd_T68 l0_3 x4_2).f4.f0), .int .i64 ((rd_T68 l0_3 x4_2).f4.f1), .slice A937_6 ((rd_T68 l0_3 x4_2).f4.f2).length c937_6, .int .i64 ((rd_T68 l0_3 x4_2).f5.f0), .slice A937_8 ((rd_T68 l0_3 x4_2).f5.f1).length c937_8, .slice A937_9 ((rd_T68 l0_3 x4_2).f5.f2).length c937_9, .slice A937_10 ((rd_T68 l0_3 x4_2).f6).length c937_10, .bool ((rd_T68 l0_3 x4_2).f7), .slice A937_12 ((rd_T68 l0_3 x4_2).f8).length c937_12, .string ((rd_T68 l0_3 x4_2).f9)]] (by rfl) rfl rfl (by (try simp only [List.map_toArray, List.map_cons, List.map_nil]); first | done | rfl | (simp only [List.length_drop, List.length_take]; rfl)) ?_
                  with_reducible refine (spec_BlockOk.calls k2 ((rd_T68 l0_3 x4_2).f0) ((rd_T68 l0_3 x4_2).f1) ((rd_T68 l0_3 x4_2).f2) ((rd_T68 l0_3 x4_2).f3) ((rd_T68 l0_3 x4_2).f4.f0) ((rd_T68 l0_3 x4_2).f4.f1) _ _ ((rd_T68 l0_3 x4_2).f4.f2) ((rd_T68 l0_3 x4_2).f5.f0) _ _ ((rd_T68 l0_3 x4_2).f5.f1) _ _ ((rd_T68 l0_3 x4_2).f5.f2) _ _ ((rd_T68 l0_3 x4_2).f6) ((rd_T68 l0_3 x4_2).f7) _ _ ((rd_T68 l0_3 x4_2).f8) ((rd_T68 l0_3 x4_2).f9) true _ ?side1 ?side2 ?side3 ?side4 ?side5 ?side6 ?side7 ?side8 ?side9 ?side10 A9.out).mono ?_
                  (case side1 => repeat (first | exact (Kd.C_below HR937_6.out HB.out) | (with_reducible refine Kd.C_alloc ?_ _) | (with_reducible refine Kd.C_drewN ?_ _) | (with_reducible refine Kd.C_drew ?_)))
                  (case side2 => exact HC937_6.out)
                  (case side3 => repeat (first | exact (Kd.C_below HR937_8.out HB.out) | (with_reducible refine Kd.C_alloc ?_ _) | (with_reducible refine Kd.C_drewN ?_ _) | (with_reducible refine Kd.C_drew ?_)))
                  (case side4 => exact HC937_8.out)
                  (case side5 => repeat (first | exact (Kd.C_below HR937_9.out HB.out) | (with_reducible refine Kd.C_alloc ?_ _) | (with_reducible refine Kd.C_drewN ?_ _) | (with_reducible refine Kd.C_drew ?_)))
                  (case side6 => exact HC937_9.out)
                  (case side7 => repeat (first | exact (Kd.C_below HR937_10.out HB.out) | (with_reducible refine Kd.C_alloc ?_ _) | (with_reducible refine Kd.C_drewN ?_ _) | (with_reducible refine Kd.C_drew ?_)))
                  (case side8 => exact HC937_10.out)
                  (case side9 => repeat (first | exact (Kd.C_below HR937_12.out HB.out) | (with_reducible refine Kd.C_alloc ?_ _) | (with_reducible refine Kd.C_drewN ?_ _) | (with_reducible refine Kd.C_drew ?_)))
                  (case side10 => exact HC937_12.out)
                  rintro e w17 ⟨rfl, hb⟩
                  refine ⟨_, rfl, ?_⟩
                  have n0_ := Aside0.mk (blk_below (g := gb936) (by (with_reducible repeat (first | refine blk_drewN ?_ _ | refine blk_drew ?_ | refine blk_alloc ?_ _)); exact BK936.out) hb)
                  have n1_ := Aside0.mk (below_step (by repeat (first | (with_reducible first | exact HB.out | apply below_alloc | apply pw_below_drewN | apply below_drew1 | refine below_set ?_ GE936.out) | exact HB.out)) hb)
                  clear BK936
                  clear HB
                  have BK936 := n0_
                  have HB := n1_
                  clear n0_ n1_
                  (try clear hb)
                  (try clear hb2)
                  (try clear hk)
                  (try clear hi)
                  refine hK.out _ _ ⟨(blk_cell BK936.out 0).trans rfl, (blk_cell BK936.out 1).trans rfl, (blk_cell BK936.out 2).trans rfl, (blk_cell BK936.out 3).trans rfl, (blk_cell BK936.out 4).trans rfl, (blk_cell BK936.out 5).trans rfl, (blk_cell BK936.out 6).trans rfl, (blk_cell BK936.out 7).trans rfl, (blk_cell BK936.out 8).trans rfl, (blk_cell BK936.out 9).trans rfl, (blk_cell BK936.out 10).trans rfl, (blk_cell BK936.out 11).trans rfl, (blk_cell BK936.out 12).trans rfl, (blk_cell BK936.out 13).trans rfl, (blk_cell BK936.out 14).trans rfl, (blk_cell BK936.out 15).trans rfl, ((HB.out.cell (World.block_lt_of_cell? w _ hw937_0)).trans hw937_0), ((HB.out.cell (World.block_lt_of_cell? w _ hw937_1)).trans hw937_1), ((HB.out.cell (World.block_lt_of_cell? w _ hw937_2)).trans hw937_2), ((HB.out.cell (World.block_lt_of_cell? w _ hw937_3)).trans hw937_3), ((HB.out.cell (World.block_lt_of_cell? w _ hw937_4)).trans hw937_4), ((HB.out.cell (World.block_lt_of_cell? w _ hw937_5)).trans hw937_5), ((HB.out.cell (World.block_lt_of_cell? w _ hw937_6)).trans hw937_6), ((HB.out.cell (World.block_lt_of_cell? w _ hw937_7)).trans hw937_7), ((HB.out.cell (World.block_lt_of_cell? w _ hw937_8)).trans hw937_8), ((HB.out.cell (World.block_lt_of_cell? w _ hw937_9)).trans hw937_9), ((HB.out.cell (World.block_lt_of_cell? w _ hw937_10)).trans hw937_10), ((HB.out.cell (World.block_lt_of_cell? w _ hw937_11)).trans hw937_11), ((HB.out.cell (World.block_lt_of_cell? w _ hw937_12)).trans hw937_12), ((HB.out.cell (World.block_lt_of_cell? w _ hw937_13)).trans hw937_13), ((HB.out.cell (World.block_lt_of_cell? w _ hw939_0)).trans hw939_0), ((HB.out.cell (World.block_lt_of_cell? w _ hw939_1)).trans hw939_1), ((HB.out.cell (World.block_lt_of_cell? w _ hw939_2)).trans hw939_2), ((HB.out.cell (World.block_lt_of_cell? w _ hw939_3)).trans hw939_3), ((HB.out.cell (World.block_lt_of_cell? w _ hw939_4)).trans hw939_4), ((HB.out.cell (World.block_lt_of_cell? w _ hw939_5)).trans hw939_5), ((HB.out.cell (World.block_lt_of_cell? w _ hw939_6)).trans hw939_6), ((HB.out.cell (World.block_lt_of_cell? w _ hw939_7)).trans hw939_7), ((HB.out.cell (World.block_lt_of_cell? w _ hw939_8)).trans hw939_8), ((HB.out.cell (World.block_lt_of_cell? w _ hw939_9)).trans hw939_9), ((HB.out.cell (World.block_lt_of_cell? w _ hw939_10)).trans hw939_10), ((HB.out.cell (World.block_lt_of_cell? w _ hw939_11)).trans hw939_11), ((HB.out.cell (World.block_lt_of_cell? w _ hw939_12)).trans hw939_12), ((HB.out.cell (World.block_lt_of_cell? w _ hw939_13)).trans hw939_13)⟩ (fun hHeld => ?_)
                  clear hK K
                  refine norm_ (a' := ?_) ?_ ?_
                  rotate_left
                  · show Act.put _ (some 23) _ = _
                    simp only [Act.put, List.setIfInBounds_toArray, List.set_cons_zero, List.set_cons_succ, i64_w, i32_w]
                    rfl
                  refine pure_ (i := 6) (N := some 24) (v := ?_) (a' := ?_) #[true, true, true, true, true, true, true, false, false, false, false, false, false, false, false, false, false, false] rfl rfl (any_of HT_.out (by kernel_rfl)) (fun _ _ _ h => h) (Or.inl ⟨by rfl, ?_⟩) ?_ ?_
                  rotate_left
                  · intro w'
                    go_simp
                    with_reducible rfl
                  rotate_left
                  · simp only [Act.put, List.setIfInBounds_toArray, List.set_cons_zero, List.set_cons_succ, i64_w, i32_w]
                    rfl
                  refine pure_ (i := 7) (N := some 25) (v := ?_) (a' := ?_) #[true, true, true, true, true, true, true, true, false, false, false, false, false, false, false, false, false, false] rfl rfl (any_of HT_.out (by kernel_rfl)) (fun _ _ _ h => h) (Or.inl ⟨by rfl, ?_⟩) ?_ ?_
                  rotate_left
                  · intro w'
                    go_simp
                    with_reducible rfl
                  rotate_left
                  · simp only [Act.put, List.setIfInBounds_toArray, List.set_cons_zero, List.set_cons_succ, i64_w, i32_w]
                    rfl
                  refine pure_ (i := 8) (N := some 26) (v := ?_) (a' := ?_) #[true, true, true, true, true, true, true, true, true, false, false, false, false, false, false, false, false, false] rfl rfl (any_of HT_.out (by kernel_rfl)) (fun _ _ _ h => h) (Or.inl ⟨by rfl, ?_⟩) ?_ ?_
                  rotate_left
                  · intro w'
                    go_simp
                    with_reducible rfl
                  rotate_left
                  · simp only [Act.put, List.setIfInBounds_toArray, List.set_cons_zero, List.set_cons_succ, i64_w, i32_w]
                    rfl
                  refine pure_ (i := 10) (N := some 28) (v := ?_) (a' := ?_) #[true, true, true, true, true, true, true, true, true, false, true, false, false, false, false, false, false, false] rfl rfl (any_of HT_.out (by kernel_rfl)) (fun _ _ _ h => h) (Or.inl ⟨by rfl, ?_⟩) ?_ ?_
                  rotate_left
                  · intro w'
                    go_simp
                    with_reducible rfl
                  rotate_left
                  · simp only [Act.put, List.setIfInBounds_toArray, List.set_cons_zero, List.set_cons_succ, i64_w, i32_w]
                    rfl
                  refine pure_ (i := 14) (N := some 32) (v := ?_) (a' := ?_) #[true, true, true, true, true, true, true, true, true, false, true, false, false, false, true, false, false, false] rfl rfl (any_of HT_.out (by kernel_rfl)) (fun _ _ _ h => h) (Or.inl ⟨by rfl, ?_⟩) ?_ ?_
                  rotate_left
                  · intro w'
                    go_simp
                    with_reducible rfl
                  rotate_left
                  · simp only [Act.put, List.setIfInBounds_toArray, List.set_cons_zero, List.set_cons_succ, i64_w, i32_w]
                    rfl
                  refine take_ (i := 9) (N := some 27) (v := ?_) (a' := ?_) #[true, true, true, true, true, true, true, true, true, true, true, false, false, false, true, false, false, false] rfl rfl (take_ofW HT_.out HW_.out (by kernel_rfl)) (fun _ _ _ h => h) (Or.inl ⟨by rfl, ?_⟩) hHeld ?_ ?_
                  rotate_left
                  · rintro w' ⟨s0, s1, s2, s3, s4, s5, s6, s7, s8, s9, s10, s11, s12, s13, s14, s15, s16, s17, s18, s19, s20, s21, s22, s23, s24, s25, s26, s27, s28, s29, s30, s31, s32, s33, s34, s35, s36, s37, s38, s39, s40, s41, s42, s43⟩
                    go_simp
                    with_reducible rfl
                  rotate_left
                  · simp only [Act.put, List.setIfInBounds_toArray, List.set_cons_zero, List.set_cons_succ, i64_w, i32_w]
                    rfl
                  refine pure_ (i := 11) (N := some 29) (v := ?_) (a' := ?_) #[true, true, true, true, true, true, true, true, true, true, true, true, false, false, true, false, false, false] rfl rfl (any_of HT_.out (by kernel_rfl)) (fun _ _ _ h => h) (Or.inl ⟨by rfl, ?_⟩) ?_ ?_
                  rotate_left
                  · intro w'
                    go_simp
                    with_reducible rfl
                  rotate_left
                  · simp only [Act.put, List.setIfInBounds_toArray, List.set_cons_zero, List.set_cons_succ, i64_w, i32_w]
                    rfl
                  refine pure_ (i := 12) (N := some 30) (v := ?_) (a' := ?_) #[true, true, true, true, true, true, true, true, true, true, true, true, true, false, true, false, false, false] rfl rfl (any_of HT_.out (by kernel_rfl)) (fun _ _ _ h => h) (Or.inl ⟨by rfl, ?_⟩) ?_ ?_
                  rotate_left
                  · intro w'
                    go_simp
                    with_reducible rfl
                  rotate_left
                  · simp only [Act.put, List.setIfInBounds_toArray, List.set_cons_zero, List.set_cons_succ, i64_w, i32_w]
                    rfl
                  refine take_ (i := 13) (N := some 31) (v := ?_) (a' := ?_) #[true, true, true, true, true, true, true, true, true, true, true, true, true, true, true, false, false, false] rfl rfl (take_ofW HT_.out HW_.out (by kernel_rfl)) (fun _ _ _ h => h) (Or.inl ⟨by rfl, ?_⟩) hHeld ?_ ?_
                  rotate_left
                  · rintro w' ⟨s0, s1, s2, s3, s4, s5, s6, s7, s8, s9, s10, s11, s12, s13, s14, s15, s16, s17, s18, s19, s20, s21, s22, s23, s24, s25, s26, s27, s28, s29, s30, s31, s32, s33, s34, s35, s36, s37, s38, s39, s40, s41, s42, s43⟩
                    go_simp
                    with_reducible rfl
                  rotate_left
                  · simp only [Act.put, List.setIfInBounds_toArray, List.set_cons_zero, List.set_cons_succ, i64_w, i32_w]
                    rfl
                  refine take_ (i := 15) (N := some 33) (v := ?_) (a' := ?_) #[true, true, true, true, true, true, true, true, true, true, true, true, true, true, true, true, false, false] rfl rfl (take_ofW HT_.out HW_.out (by kernel_rfl)) (fun _ _ _ h => h) (Or.inl ⟨by rfl, ?_⟩) hHeld ?_ ?_
                  rotate_left
                  · rintro w' ⟨s0, s1, s2, s3, s4, s5, s6, s7, s8, s9, s10, s11, s12, s13, s14, s15, s16, s17, s18, s19, s20, s21, s22, s23, s24, s25, s26, s27, s28, s29, s30, s31, s32, s33, s34, s35, s36, s37, s38, s39, s40, s41, s42, s43⟩
                    go_simp
                    with_reducible rfl
                  rotate_left
                  · simp only [Act.put, List.setIfInBounds_toArray, List.set_cons_zero, List.set_cons_succ, i64_w, i32_w]
                    rfl
                  refine pure_ (i := 16) (N := some 34) (v := ?_) (a' := ?_) #[true, true, true, true, true, true, true, true, true, true, true, true, true, true, true, true, true, false] rfl rfl (any_of HT_.out (by kernel_rfl)) (fun _ _ _ h => h) (Or.inl ⟨by rfl, ?_⟩) ?_ ?_
                  rotate_left
                  · intro w'
                    go_simp
                    with_reducible rfl
                  rotate_left
                  · simp only [Act.put, List.setIfInBounds_toArray, List.set_cons_zero, List.set_cons_succ, i64_w, i32_w]
                    rfl
                  refine pure_ (i := 17) (N := some 35) (v := ?_) (a' := ?_) #[true, true, true, true, true, true, true, true, true, true, true, true, true, true, true, true, true, true] rfl rfl (any_of HT_.out (by kernel_rfl)) (fun _ _ _ h => h) (Or.inl ⟨by rfl, ?_⟩) ?_ ?_
                  rotate_left
                  · intro w'
                    go_simp
                    with_reducible rfl
                  rotate_left
                  · simp only [Act.put, List.setIfInBounds_toArray, List.set_cons_zero, List.set_cons_succ, i64_w, i32_w]
                    rfl
                  refine done_ (done_of HT_.out (by kernel_rfl)) ?_
                  try go_wp2
                  go_ret
                  exact ⟨by first | rfl | (simp [errW_none, errW_some] <;> rfl) | (simp [*, errW_none, errW_some] <;> rfl), by repeat (first | (with_reducible first | exact HB.out | apply below_alloc | apply pw_below_drewN | apply below_drew1 | refine below_set ?_ GE936.out) | exact HB.out)⟩
              · replace c10 := Bool.eq_false_iff.mpr c10
                subst c10
                have H1 : (some false) = some r := by rw [if_neg (show ¬ (false = true) by decide)] at H; exact H
                clear H
                have H := H1
                clear H1
                obtain rfl := Option.some.inj H
                obtain ⟨hcz18_0, hcz18_1, hcz18_2, hcz18_3, hcz18_4, hcz18_5, hcz18_6, hcz18_7, hcz18_8, hcz18_9, hcz18_10, hcz18_11, hcz18_12, hcz18_13, hcz18_14, hcz18_15⟩ := cells16 BK936.out
                obtain ⟨hfz18_0, hfz18_1, hfz18_2, hfz18_3, hfz18_4, hfz18_5, hfz18_6, hfz18_7, hfz18_8, hfz18_9, hfz18_10, hfz18_11, hfz18_12, hfz18_13, hfz18_14, hfz18_15⟩ := frozens16 BK936.out
                try go_wp2
                have n0_ := Aside0.mk (blk_drew BK936.out)
                have n1_ := Aside0.mk (below_drew1 HB.out)
                clear BK936
                clear HB
                have BK936 := n0_
                have HB := n1_
                clear n0_ n1_
                have p937 : 0 ≤ (x4_2 : Int) := of_decide_eq_true (by first | (with_reducible assumption) | assumption)
                have q937 : x4_2 < (l0_3.length : Int) := of_decide_eq_true (by first | (with_reducible assumption) | assumption)
                obtain ⟨ad937, A937_6, c937_6, A937_8, c937_8, A937_9, c937_9, A937_10, c937_10, A937_12, c937_12, e937, hx937_0, hx937_1, hx937_2, hx937_3, hx937_4, hx937_5, hx937_6, hx937_7, hx937_8, hx937_9, hx937_10, hx937_11, hx937_12, hx937_13, hl937_6, hi937_6, hl937_8, hi937_8, hl937_9, hi937_9, hl937_10, hi937_10, hl937_12, hi937_12⟩ := at_T68 HR0_3.out x4_2 p937 q937
                have hw937_13 := hx937_13
                have hw937_12 := hx937_12
                have hw937_11 := hx937_11
                have hw937_10 := hx937_10
                have hw937_9 := hx937_9
                have hw937_8 := hx937_8
                have hw937_7 := hx937_7
                have hw937_6 := hx937_6
                have hw937_5 := hx937_5
                have hw937_4 := hx937_4
                have hw937_3 := hx937_3
                have hw937_2 := hx937_2
                have hw937_1 := hx937_1
                have hw937_0 := hx937_0
                cases e937
                replace hx937_0 := (HB.out.cell (World.block_lt_of_cell? w _ hx937_0)).trans hx937_0
                replace hx937_1 := (HB.out.cell (World.block_lt_of_cell? w _ hx937_1)).trans hx937_1
                replace hx937_2 := (HB.out.cell (World.block_lt_of_cell? w _ hx937_2)).trans hx937_2
                replace hx937_3 := (HB.out.cell (World.block_lt_of_cell? w _ hx937_3)).trans hx937_3
                replace hx937_4 := (HB.out.cell (World.block_lt_of_cell? w _ hx937_4)).trans hx937_4
                replace hx937_5 := (HB.out.cell (World.block_lt_of_cell? w _ hx937_5)).trans hx937_5
                replace hx937_6 := (HB.out.cell (World.block_lt_of_cell? w _ hx937_6)).trans hx937_6
                replace hx937_7 := (HB.out.cell (World.block_lt_of_cell? w _ hx937_7)).trans hx937_7
                replace hx937_8 := (HB.out.cell (World.block_lt_of_cell? w _ hx937_8)).trans hx937_8
                replace hx937_9 := (HB.out.cell (World.block_lt_of_cell? w _ hx937_9)).trans hx937_9
                replace hx937_10 := (HB.out.cell (World.block_lt_of_cell? w _ hx937_10)).trans hx937_10
                replace hx937_11 := (HB.out.cell (World.block_lt_of_cell? w _ hx937_11)).trans hx937_11
                replace hx937_12 := (HB.out.cell (World.block_lt_of_cell? w _ hx937_12)).trans hx937_12
                replace hx937_13 := (HB.out.cell (World.block_lt_of_cell? w _ hx937_13)).trans hx937_13
                have HR937_6 := Aside0.mk hi937_6
                have HC937_6 := Aside0.mk hl937_6
                clear hi937_6 hl937_6
                have HR937_8 := Aside0.mk hi937_8
                have HC937_8 := Aside0.mk hl937_8
                clear hi937_8 hl937_8
                have HR937_9 := Aside0.mk hi937_9
                have HC937_9 := Aside0.mk hl937_9
                clear hi937_9 hl937_9
                have HR937_10 := Aside0.mk hi937_10
                have HC937_10 := Aside0.mk hl937_10
                clear hi937_10 hl937_10
                have HR937_12 := Aside0.mk hi937_12
                have HC937_12 := Aside0.mk hl937_12
                clear hi937_12 hl937_12
                replace p937 := eq_true p937
                replace q937 := eq_true q937
                refine start_ (n := 18) (S := fun w' => w'.cell? ⟨gb936, 0, none⟩ = some (.int .i64 a0_0) ∧ w'.cell? ⟨gb936, 1, none⟩ = some (.string a0_1) ∧ w'.cell? ⟨gb936, 2, none⟩ = some (.int .i64 a0_2) ∧ w'.cell? ⟨gb936, 3, none⟩ = some (.slice (some ad937) l0_3.length c0_3) ∧ w'.cell? ⟨gb936, 4, none⟩ = some (.int .i64 a0_4) ∧ w'.cell? ⟨gb936, 5, none⟩ = some (.int .i64 a0_5) ∧ w'.cell? ⟨gb936, 6, none⟩ = some (.string a0_6) ∧ w'.cell? ⟨gb936, 7, none⟩ = some (.int .i64 a0_7) ∧ w'.cell? ⟨gb936, 8, none⟩ = some (.int .i64 a0_8) ∧ w'.cell? ⟨gb936, 9, none⟩ = some (.string a0_9) ∧ w'.cell? ⟨gb936, 10, none⟩ = some (.int .i64 a0_10) ∧ w'.cell? ⟨gb936, 11, none⟩ = some (.int .i64 a0_11) ∧ w'.cell? ⟨gb936, 12, none⟩ = some (.slice A0_12 l0_12.length c0_12) ∧ w'.cell? ⟨gb936, 13, none⟩ = some (.int .i64 a0_13) ∧ w'.cell? ⟨gb936, 14, none⟩ = some (.slice A0_14 l0_14.length c0_14) ∧ w'.cell? ⟨gb936, 15, none⟩ = some (.slice A0_15 l0_15.length c0_15) ∧ w'.cell? (ad937.add ((x4_2).toNat * 14)) = some (.int .i64 ((rd_T68 l0_3 x4_2).f0)) ∧ w'.cell? ⟨(ad937.add ((x4_2).toNat * 14)).block, (ad937.add ((x4_2).toNat * 14)).off + 1, none⟩ = some (.int .i64 ((rd_T68 l0_3 x4_2).f1)) ∧ w'.cell? ⟨(ad937.add ((x4_2).toNat * 14)).block, (ad937.add ((x4_2).toNat * 14)).off + 2, none⟩ = some (.int .i64 ((rd_T68 l0_3 x4_2).f2)) ∧ w'.cell? ⟨(ad937.add ((x4_2).toNat * 14)).block, (ad937.add ((x4_2).toNat * 14)).off + 3, none⟩ = some (.string ((rd_T68 l0_3 x4_2).f3)) ∧ w'.cell? ⟨(ad937.add ((x4_2).toNat * 14)).block, (ad937.add ((x4_2).toNat * 14)).off + 4, none⟩ = some (.int .i64 ((rd_T68 l0_3 x4_2).f4.f0)) ∧ w'.cell? ⟨(ad937.add ((x4_2).toNat * 14)).block, (ad937.add ((x4_2).toNat * 14)).off + 5, none⟩ = some (.int .i64 ((rd_T68 l0_3 x4_2).f4.f1)) ∧ w'.cell? ⟨(ad937.add ((x4_2).toNat * 14)).block, (ad937.add ((x4_2).toNat * 14)).off + 6, none⟩ = some (.slice A937_6 ((rd_T68 l0_3 x4_2).f4.f2).length c937_6) ∧ w'.cell? ⟨(ad937.add ((x4_2).toNat * 14)).block, (ad937.add ((x4_2).toNat * 14)).off + 7, none⟩ = some (.int .i64 ((rd_T68 l0_3 x4_2).f5.f0)) ∧ w'.cell? ⟨(ad937.add ((x4_2).toNat * 14)).block, (ad937.add ((x4_2).toNat * 14)).off + 8, none⟩ = some (.slice A937_8 ((rd_T68 l0_3 x4_2).f5.f1).length c937_8) ∧ w'.cell? ⟨(ad937.add ((x4_2).toNat * 14)).block, (ad937.add ((x4_2).toNat * 14)).off + 9, none⟩ = some (.slice A937_9 ((rd_T68 l0_3 x4_2).f5.f2).length c937_9) ∧ w'.cell? ⟨(ad937.add ((x4_2).toNat * 14)).block, (ad937.add ((x4_2).toNat * 14)).off + 10, none⟩ = some (.slice A937_10 ((rd_T68 l0_3 x4_2).f6).length c937_10) ∧ w'.cell? ⟨(ad937.add ((x4_2).toNat * 14)).block, (ad937.add ((x4_2).toNat * 14)).off + 11, none⟩ = some (.bool ((rd_T68 l0_3 x4_2).f7)) ∧ w'.cell? ⟨(ad937.add ((x4_2).toNat * 14)).block, (ad937.add ((x4_2).toNat * 14)).off + 12, none⟩ = some (.slice A937_12 ((rd_T68 l0_3 x4_2).f8).length c937_12) ∧ w'.cell? ⟨(ad937.add ((x4_2).toNat * 14)).block, (ad937.add ((x4_2).toNat * 14)).off + 13, none⟩ = some (.string ((rd_T68 l0_3 x4_2).f9))) (ds := []) #[false, false, false, false, false, false, false, false, false, false, false, false, false, false, false, false, false, false] (by kernel_rfl) rfl rfl ⟨(blk_cell BK936.out 0).trans rfl, (blk_cell BK936.out 1).trans rfl, (blk_cell BK936.out 2).trans rfl, (blk_cell BK936.out 3).trans rfl, (blk_cell BK936.out 4).trans rfl, (blk_cell BK936.out 5).trans rfl, (blk_cell BK936.out 6).trans rfl, (blk_cell BK936.out 7).trans rfl, (blk_cell BK936.out 8).trans rfl, (blk_cell BK936.out 9).trans rfl, (blk_cell BK936.out 10).trans rfl, (blk_cell BK936.out 11).trans rfl, (blk_cell BK936.out 12).trans rfl, (blk_cell BK936.out 13).trans rfl, (blk_cell BK936.out 14).trans rfl, (blk_cell BK936.out 15).trans rfl, ((HB.out.cell (World.block_lt_of_cell? w _ hw937_0)).trans hw937_0), ((HB.out.cell (World.block_lt_of_cell? w _ hw937_1)).trans hw937_1), ((HB.out.cell (World.block_lt_of_cell? w _ hw937_2)).trans hw937_2), ((HB.out.cell (World.block_lt_of_cell? w _ hw937_3)).trans hw937_3), ((HB.out.cell (World.block_lt_of_cell? w _ hw937_4)).trans hw937_4), ((HB.out.cell (World.block_lt_of_cell? w _ hw937_5)).trans hw937_5), ((HB.out.cell (World.block_lt_of_cell? w _ hw937_6)).trans hw937_6), ((HB.out.cell (World.block_lt_of_cell? w _ hw937_7)).trans hw937_7), ((HB.out.cell (World.block_lt_of_cell? w _ hw937_8)).trans hw937_8), ((HB.out.cell (World.block_lt_of_cell? w _ hw937_9)).trans hw937_9), ((HB.out.cell (World.block_lt_of_cell? w _ hw937_10)).trans hw937_10), ((HB.out.cell (World.block_lt_of_cell? w _ hw937_11)).trans hw937_11), ((HB.out.cell (World.block_lt_of_cell? w _ hw937_12)).trans hw937_12), ((HB.out.cell (World.block_lt_of_cell? w _ hw937_13)).trans hw937_13)⟩ (fun hHeld => ?_); refine with_tabW spec_l13Blocks.tab10 spec_l13Blocks.bits10 (fun HT_ HW_ => ?_)
                generalize wr.drew = w19 at BK936 HB HR937_10 HR937_12 HR937_6 HR937_8 HR937_9 hx937_0 hx937_1 hx937_10 hx937_11 hx937_12 hx937_13 hx937_2 hx937_3 hx937_4 hx937_5 hx937_6 hx937_7 hx937_8 hx937_9 hHeld ⊢
                refine pure_ (i := 0) (N := some 18) (v := ?_) (a' := ?_) #[true, false, false, false, false, false, false, false, false, false, false, false, false, false, false, false, false, false] rfl rfl (any_of HT_.out (by kernel_rfl)) (fun _ _ _ h => h) (Or.inl ⟨by rfl, ?_⟩) ?_ ?_
                rotate_left
                · intro w'
                  go_simp
                  with_reducible rfl
                rotate_left
                · simp only [Act.put, List.setIfInBounds_toArray, List.set_cons_zero, List.set_cons_succ, i64_w, i32_w]
                  rfl
                refine pure_ (i := 2) (N := some 20) (v := ?_) (a' := ?_) #[true, false, true, false, false, false, false, false, false, false, false, false, false, false, false, false, false, false] rfl rfl (any_of HT_.out (by kernel_rfl)) (fun _ _ _ h => h) (Or.inl ⟨by rfl, ?_⟩) ?_ ?_
                rotate_left
                · intro w'
                  go_simp
                  with_reducible rfl
                rotate_left
                · simp only [Act.put, List.setIfInBounds_toArray, List.set_cons_zero, List.set_cons_succ, i64_w, i32_w]
                  rfl
                refine take_ (i := 1) (N := some 19) (v := ?_) (a' := ?_) #[true, true, true, false, false, false, false, false, false, false, false, false, false, false, false, false, false, false] rfl rfl (take_ofW HT_.out HW_.out (by kernel_rfl)) (fun _ _ _ h => h) (Or.inl ⟨by rfl, ?_⟩) hHeld ?_ ?_
                rotate_left
                · rintro w' ⟨s0, s1, s2, s3, s4, s5, s6, s7, s8, s9, s10, s11, s12, s13, s14, s15, s16, s17, s18, s19, s20, s21, s22, s23, s24, s25, s26, s27, s28, s29⟩
                  go_simp
                  with_reducible rfl
                rotate_left
                · simp only [Act.put, List.setIfInBounds_toArray, List.set_cons_zero, List.set_cons_succ, i64_w, i32_w]
                  rfl
                refine pure_ (i := 3) (N := some 21) (v := ?_) (a' := ?_) #[true, true, true, true, false, false, false, false, false, false, false, false, false, false, false, false, false, false] rfl rfl (any_of HT_.out (by kernel_rfl)) (fun _ _ _ h => h) (Or.inl ⟨by rfl, ?_⟩) ?_ ?_
                rotate_left
                · intro w'
                  go_simp
                  with_reducible rfl
                rotate_left
                · simp only [Act.put, List.setIfInBounds_toArray, List.set_cons_zero, List.set_cons_succ, i64_w, i32_w]
                  rfl
                refine take_ (i := 4) (N := some 22) (v := ?_) (a' := ?_) #[true, true, true, true, true, false, false, false, false, false, false, false, false, false, false, false, false, false] rfl rfl (take_ofW HT_.out HW_.out (by kernel_rfl)) (fun _ _ _ h => h) (Or.inl ⟨by rfl, ?_⟩) hHeld ?_ ?_
                rotate_left
                · rintro w' ⟨s0, s1, s2, s3, s4, s5, s6, s7, s8, s9, s10, s11, s12, s13, s14, s15, s16, s17, s18, s19, s20, s21, s22, s23, s24, s25, s26, s27, s28, s29⟩
                  go_simp
                  with_reducible rfl
                rotate_left
                · simp only [Act.put, List.setIfInBounds_toArray, List.set_cons_zero, List.set_cons_succ, i64_w, i32_w]
                  rfl
                refine one_ (i := 5) (N := some 23) #[true, true, true, true, true, true, false, false, false, false, false, false, false, false, false, false, false, false] rfl rfl (one_of HT_.out (by kernel_rfl)) (by decide) (fun K hK => ?_)
                refine goes_ Try.func53 (by kernel_rfl) rfl #[.agg #[.int .i64 ((rd_T68 l0_3 x4_2).f0), .int .i64 ((rd_T68 l0_3 x4_2).f1), .int .i64 ((rd_T68 l0_3 x4_2).f2), .string ((rd_T68 l0_3 x4_2).f3), .int .i64 ((rd_T68 l0_3 x4_2).f4.f0), .int .i64 ((rd_T68 l0_3 x4_2).f4.f1), .slice A937_6 ((rd_T68 l0_3 x4_2).f4.f2).length c937_6, .int .i64 ((rd_T68 l0_3 x4_2).f5.f0), .slice A937_8 ((rd_T68 l0_3 x4_2).f5.f1).length c937_8, .slice A937_9 ((rd_T68 l0_3 x4_2).f5.f2).length c937_9, .slice A937_10 ((rd_T68 l0_3 x4_2).f6).length c937_10, .bool ((rd_T68 l0_3 x4_2).f7), .slice A937_12 ((rd_T68 l0_3 x4_2).f8).length c937_12, .string ((rd_T68 l0_3 x4_2).f9)]] (by rfl) rfl rfl (by (try simp only [List.map_toArray, List.map_cons, List.map_nil]); first | done | rfl | (simp only [List.length_drop, List.length_take]; rfl)) ?_
                with_reducible refine (spec_BlockOk.calls k2 ((rd_T68 l0_3 x4_2).f0) ((rd_T68 l0_3 x4_2).f1) ((rd_T68 l0_3 x4_2).f2) ((rd_T68 l0_3 x4_2).f3) ((rd_T68 l0_3 x4_2).f4.f0) ((rd_T68 l0_3 x4_2).f4.f1) _ _ ((rd_T68 l0_3 x4_2).f4.f2) ((rd_T68 l0_3 x4_2).f5.f0) _ _ ((rd_T68 l0_3 x4_2).f5.f1) _ _ ((rd_T68 l0_3 x4_2).f5.f2) _ _ ((rd_T68 l0_3 x4_2).f6) ((rd_T68 l0_3 x4_2).f7) _ _ ((rd_T68 l0_3 x4_2).f8) ((rd_T68 l0_3 x4_2).f9) false _ ?side1 ?side2 ?side3 ?side4 ?side5 ?side6 ?side7 ?side8 ?side9 ?side10 A9.out).mono ?_
                (case side1 => repeat (first | exact (Kd.C_below HR937_6.out HB.out) | (with_reducible refine Kd.C_alloc ?_ _) | (with_reducible refine Kd.C_drewN ?_ _) | (with_reducible refine Kd.C_drew ?_)))
                (case side2 => exact HC937_6.out)
                (case side3 => repeat (first | exact (Kd.C_below HR937_8.out HB.out) | (with_reducible refine Kd.C_alloc ?_ _) | (with_reducible refine Kd.C_drewN ?_ _) | (with_reducible refine Kd.C_drew ?_)))
                (case side4 => exact HC937_8.out)
                (case side5 => repeat (first | exact (Kd.C_below HR937_9.out HB.out) | (with_reducible refine Kd.C_alloc ?_ _) | (with_reducible refine Kd.C_drewN ?_ _) | (with_reducible refine Kd.C_drew ?_)))
                (case side6 => exact HC937_9.out)
                (case side7 => repeat (first | exact (Kd.C_below HR937_10.out HB.out) | (with_reducible refine Kd.C_alloc ?_ _) | (with_reducible refine Kd.C_drewN ?_ _) | (with_reducible refine Kd.C_drew ?_)))
                (case side8 => exact HC937_10.out)
                (case side9 => repeat (first | exact (Kd.C_below HR937_12.out HB.out) | (with_reducible refine Kd.C_alloc ?_ _) | (with_reducible refine Kd.C_drewN ?_ _) | (with_reducible refine Kd.C_drew ?_)))
                (case side10 => exact HC937_12.out)
                rintro e w20 ⟨rfl, hb⟩
                refine ⟨_, rfl, ?_⟩
                have n0_ := Aside0.mk (blk_below (g := gb936) (by (with_reducible repeat (first | refine blk_drewN ?_ _ | refine blk_drew ?_ | refine blk_alloc ?_ _)); exact BK936.out) hb)
                have n1_ := Aside0.mk (below_step (by repeat (first | (with_reducible first | exact HB.out | apply below_alloc | apply pw_below_drewN | apply below_drew1 | refine below_set ?_ GE936.out) | exact HB.out)) hb)
                clear BK936
                clear HB
                have BK936 := n0_
                have HB := n1_
                clear n0_ n1_
                (try clear hb)
                (try clear hb2)
                (try clear hk)
                (try clear hi)
                refine hK.out _ _ ⟨(blk_cell BK936.out 0).trans rfl, (blk_cell BK936.out 1).trans rfl, (blk_cell BK936.out 2).trans rfl, (blk_cell BK936.out 3).trans rfl, (blk_cell BK936.out 4).trans rfl, (blk_cell BK936.out 5).trans rfl, (blk_cell BK936.out 6).trans rfl, (blk_cell BK936.out 7).trans rfl, (blk_cell BK936.out 8).trans rfl, (blk_cell BK936.out 9).trans rfl, (blk_cell BK936.out 10).trans rfl, (blk_cell BK936.out 11).trans rfl, (blk_cell BK936.out 12).trans rfl, (blk_cell BK936.out 13).trans rfl, (blk_cell BK936.out 14).trans rfl, (blk_cell BK936.out 15).trans rfl, ((HB.out.cell (World.block_lt_of_cell? w _ hw937_0)).trans hw937_0), ((HB.out.cell (World.block_lt_of_cell? w _ hw937_1)).trans hw937_1), ((HB.out.cell (World.block_lt_of_cell? w _ hw937_2)).trans hw937_2), ((HB.out.cell (World.block_lt_of_cell? w _ hw937_3)).trans hw937_3), ((HB.out.cell (World.block_lt_of_cell? w _ hw937_4)).trans hw937_4), ((HB.out.cell (World.block_lt_of_cell? w _ hw937_5)).trans hw937_5), ((HB.out.cell (World.block_lt_of_cell? w _ hw937_6)).trans hw937_6), ((HB.out.cell (World.block_lt_of_cell? w _ hw937_7)).trans hw937_7), ((HB.out.cell (World.block_lt_of_cell? w _ hw937_8)).trans hw937_8), ((HB.out.cell (World.block_lt_of_cell? w _ hw937_9)).trans hw937_9), ((HB.out.cell (World.block_lt_of_cell? w _ hw937_10)).trans hw937_10), ((HB.out.cell (World.block_lt_of_cell? w _ hw937_11)).trans hw937_11), ((HB.out.cell (World.block_lt_of_cell? w _ hw937_12)).trans hw937_12), ((HB.out.cell (World.block_lt_of_cell? w _ hw937_13)).trans hw937_13)⟩ (fun hHeld => ?_)
                clear hK K
                refine norm_ (a' := ?_) ?_ ?_
                rotate_left
                · show Act.put _ (some 23) _ = _
                  simp only [Act.put, List.setIfInBounds_toArray, List.set_cons_zero, List.set_cons_succ, i64_w, i32_w]
                  rfl
                refine pure_ (i := 6) (N := some 24) (v := ?_) (a' := ?_) #[true, true, true, true, true, true, true, false, false, false, false, false, false, false, false, false, false, false] rfl rfl (any_of HT_.out (by kernel_rfl)) (fun _ _ _ h => h) (Or.inl ⟨by rfl, ?_⟩) ?_ ?_
                rotate_left
                · intro w'
                  go_simp
                  with_reducible rfl
                rotate_left
                · simp only [Act.put, List.setIfInBounds_toArray, List.set_cons_zero, List.set_cons_succ, i64_w, i32_w]
                  rfl
                refine pure_ (i := 7) (N := some 25) (v := ?_) (a' := ?_) #[true, true, true, true, true, true, true, true, false, false, false, false, false, false, false, false, false, false] rfl rfl (any_of HT_.out (by kernel_rfl)) (fun _ _ _ h => h) (Or.inl ⟨by rfl, ?_⟩) ?_ ?_
                rotate_left
                · intro w'
                  go_simp
                  with_reducible rfl
                rotate_left
                · simp only [Act.put, List.setIfInBounds_toArray, List.set_cons_zero, List.set_cons_succ, i64_w, i32_w]
                  rfl
                refine pure_ (i := 8) (N := some 26) (v := undef) (a' := ?_) #[true, true, true, true, true, true, true, true, true, false, false, false, false, false, false, false, false, false] rfl rfl (any_of HT_.out (by kernel_rfl)) (fun _ _ _ h => h) (Or.inr ⟨by rfl, rfl⟩) ?_ ?_
                rotate_left
                · simp only [Act.put, List.setIfInBounds_toArray, List.set_cons_zero, List.set_cons_succ, i64_w, i32_w]
                  rfl
                refine pure_ (i := 9) (N := some 27) (v := undef) (a' := ?_) #[true, true, true, true, true, true, true, true, true, true, false, false, false, false, false, false, false, false] rfl rfl (any_of HT_.out (by kernel_rfl)) (fun _ _ _ h => h) (Or.inr ⟨by rfl, rfl⟩) ?_ ?_
                rotate_left
                · simp only [Act.put, List.setIfInBounds_toArray, List.set_cons_zero, List.set_cons_succ, i64_w, i32_w]
                  rfl
                refine pure_ (i := 10) (N := some 28) (v := undef) (a' := ?_) #[true, true, true, true, true, true, true, true, true, true, true, false, false, false, false, false, false, false] rfl rfl (any_of HT_.out (by kernel_rfl)) (fun _ _ _ h => h) (Or.inr ⟨by rfl, rfl⟩) ?_ ?_
                rotate_left
                · simp only [Act.put, List.setIfInBounds_toArray, List.set_cons_zero, List.set_cons_succ, i64_w, i32_w]
                  rfl
                refine pure_ (i := 11) (N := some 29) (v := undef) (a' := ?_) #[true, true, true, true, true, true, true, true, true, true, true, true, false, false, false, false, false, false] rfl rfl (any_of HT_.out (by kernel_rfl)) (fun _ _ _ h => h) (Or.inr ⟨by rfl, rfl⟩) ?_ ?_
                rotate_left
                · simp only [Act.put, List.setIfInBounds_toArray, List.set_cons_zero, List.set_cons_succ, i64_w, i32_w]
                  rfl
                refine pure_ (i := 12) (N := some 30) (v := undef) (a' := ?_) #[true, true, true, true, true, true, true, true, true, true, true, true, true, false, false, false, false, false] rfl rfl (any_of HT_.out (by kernel_rfl)) (fun _ _ _ h => h) (Or.inr ⟨by rfl, rfl⟩) ?_ ?_
                rotate_left
                · simp only [Act.put, List.setIfInBounds_toArray, List.set_cons_zero, List.set_cons_succ, i64_w, i32_w]
                  rfl
                refine pure_ (i := 13) (N := some 31) (v := undef) (a' := ?_) #[true, true, true, true, true, true, true, true, true, true, true, true, true, true, false, false, false, false] rfl rfl (any_of HT_.out (by kernel_rfl)) (fun _ _ _ h => h) (Or.inr ⟨by rfl, rfl⟩) ?_ ?_
                rotate_left
                · simp only [Act.put, List.setIfInBounds_toArray, List.set_cons_zero, List.set_cons_succ, i64_w, i32_w]
                  rfl
                refine pure_ (i := 14) (N := some 32) (v := undef) (a' := ?_) #[true, true, true, true, true, true, true, true, true, true, true, true, true, true, true, false, false, false] rfl rfl (any_of HT_.out (by kernel_rfl)) (fun _ _ _ h => h) (Or.inr ⟨by rfl, rfl⟩) ?_ ?_
                rotate_left
                · simp only [Act.put, List.setIfInBounds_toArray, List.set_cons_zero, List.set_cons_succ, i64_w, i32_w]
                  rfl
                refine pure_ (i := 15) (N := some 33) (v := undef) (a' := ?_) #[true, true, true, true, true, true, true, true, true, true, true, true, true, true, true, true, false, false] rfl rfl (any_of HT_.out (by kernel_rfl)) (fun _ _ _ h => h) (Or.inr ⟨by rfl, rfl⟩) ?_ ?_
                rotate_left
                · simp only [Act.put, List.setIfInBounds_toArray, List.set_cons_zero, List.set_cons_succ, i64_w, i32_w]
                  rfl
                refine pure_ (i := 16) (N := some 34) (v := undef) (a' := ?_) #[true, true, true, true, true, true, true, true, true, true, true, true, true, true, true, true, true, false] rfl rfl (any_of HT_.out (by kernel_rfl)) (fun _ _ _ h => h) (Or.inr ⟨by rfl, rfl⟩) ?_ ?_
                rotate_left
                · simp only [Act.put, List.setIfInBounds_toArray, List.set_cons_zero, List.set_cons_succ, i64_w, i32_w]
                  rfl
                refine pure_ (i := 17) (N := some 35) (v := ?_) (a' := ?_) #[true, true, true, true, true, true, true, true, true, true, true, true, true, true, true, true, true, true] rfl rfl (any_of HT_.out (by kernel_rfl)) (fun _ _ _ h => h) (Or.inl ⟨by rfl, ?_⟩) ?_ ?_
                rotate_left
                · intro w'
                  go_simp
                  with_reducible rfl
                rotate_left
                · simp only [Act.put, List.setIfInBounds_toArray, List.set_cons_zero, List.set_cons_succ, i64_w, i32_w]
                  rfl
                refine done_ (done_of HT_.out (by kernel_rfl)) ?_
                try go_wp2
                go_ret
                exact ⟨by first | rfl | (simp [errW_none, errW_some] <;> rfl) | (simp [*, errW_none, errW_some] <;> rfl), by repeat (first | (with_reducible first | exact HB.out | apply below_alloc | apply pw_below_drewN | apply below_drew1 | refine below_set ?_ GE936.out) | exact HB.out)⟩
            · rw [if_neg c8] at H
              exact absurd H (by simp)
          · rw [if_neg c7] at H
            have c7b0 : decide (x4_2 < (l0_3.length : Int)) = false := decide_eq_false c7
            clear c7
            by_cases c21 : (l0_3.length : Int) ≤ x3_1
            · rw [if_pos c21] at H
              have c21b0 : decide ((l0_3.length : Int) ≤ x3_1) = true := decide_eq_true c21
              clear c21
              by_cases c22 : a0_0 = 1
              · rw [if_pos c22] at H
                have c22b0 : (a0_0 == 1) = true := beq_iff_eq.mpr c22
                have c22b1 : (a0_0 != 1) = false := bne_eq_false_iff_eq.mpr c22
                clear c22
                obtain rfl := Option.some.inj H
                obtain ⟨hcz23_0, hcz23_1, hcz23_2, hcz23_3, hcz23_4, hcz23_5, hcz23_6, hcz23_7, hcz23_8, hcz23_9, hcz23_10, hcz23_11, hcz23_12, hcz23_13, hcz23_14, hcz23_15⟩ := cells16 BK936.out
                obtain ⟨hfz23_0, hfz23_1, hfz23_2, hfz23_3, hfz23_4, hfz23_5, hfz23_6, hfz23_7, hfz23_8, hfz23_9, hfz23_10, hfz23_11, hfz23_12, hfz23_13, hfz23_14, hfz23_15⟩ := frozens16 BK936.out
                go_wp2
                go_ret
                exact ⟨by first | rfl | (simp [errW_none, errW_some] <;> rfl) | (simp [*, errW_none, errW_some] <;> rfl), by repeat (first | (with_reducible first | exact HB.out | apply below_alloc | apply pw_below_drewN | apply below_drew1 | refine below_set ?_ GE936.out) | exact HB.out)⟩
              · rw [if_neg c22] at H
                have c22b0 : (a0_0 == 1) = false := beq_eq_false_iff_ne.mpr c22
                have c22b1 : (a0_0 != 1) = true := bne_iff_ne.mpr c22
                obtain rfl := Option.some.inj H
                obtain ⟨hcz24_0, hcz24_1, hcz24_2, hcz24_3, hcz24_4, hcz24_5, hcz24_6, hcz24_7, hcz24_8, hcz24_9, hcz24_10, hcz24_11, hcz24_12, hcz24_13, hcz24_14, hcz24_15⟩ := cells16 BK936.out
                obtain ⟨hfz24_0, hfz24_1, hfz24_2, hfz24_3, hfz24_4, hfz24_5, hfz24_6, hfz24_7, hfz24_8, hfz24_9, hfz24_10, hfz24_11, hfz24_12, hfz24_13, hfz24_14, hfz24_15⟩ := frozens16 BK936.out
                go_wp2
                go_ret
                exact ⟨by first | rfl | (simp [errW_none, errW_some] <;> rfl) | (simp [*, errW_none, errW_some] <;> rfl), by repeat (first | (with_reducible first | exact HB.out | apply below_alloc | apply pw_below_drewN | apply below_drew1 | refine below_set ?_ GE936.out) | exact HB.out)⟩
            · rw [if_neg c21] at H
              have c21b0 : decide ((l0_3.length : Int) ≤ x3_1) = false := decide_eq_false c21
              clear c21
              obtain rfl := Option.some.inj H
              obtain ⟨hcz25_0, hcz25_1, hcz25_2, hcz25_3, hcz25_4, hcz25_5, hcz25_6, hcz25_7, hcz25_8, hcz25_9, hcz25_10, hcz25_11, hcz25_12, hcz25_13, hcz25_14, hcz25_15⟩ := cells16 BK936.out
              obtain ⟨hfz25_0, hfz25_1, hfz25_2, hfz25_3, hfz25_4, hfz25_5, hfz25_6, hfz25_7, hfz25_8, hfz25_9, hfz25_10, hfz25_11, hfz25_12, hfz25_13, hfz25_14, hfz25_15⟩ := frozens16 BK936.out
              go_wp2
              go_ret
              exact ⟨by first | rfl | (simp [errW_none, errW_some] <;> rfl) | (simp [*, errW_none, errW_some] <;> rfl), by repeat (first | (with_reducible first | exact HB.out | apply below_alloc | apply pw_below_drewN | apply below_drew1 | refine below_set ?_ GE936.out) | exact HB.out)⟩

theorem spec_l13Blocks.is {m : S86} (hl : m.f3.length ≤ maxLen) (hw : ∀ b ∈ m.f3, blockFit b) : Ev (fun k => spec_l13Blocks.f k m.f0 m.f1 m.f2 m.f3 m.f4.f0 m.f4.f1 m.f4.f2 m.f5.f0 m.f5.f1 m.f5.f2 m.f6.f0 m.f6.f1 m.f6.f2 m.f7.f0 m.f7.f1 m.f7.f2) (blocksIn m.f3 m.f2 && mostB m (msgMost m)) := by
  have hm : maxLen = 9223372036854775807 := rfl
  have j : ∀ n : Int, Ev (fun k => spec_l13Blocks.j0 k n m.f0 m.f1 m.f2 m.f3 m.f4.f0 m.f4.f1 m.f4.f2 m.f5.f0 m.f5.f1 m.f5.f2 m.f6.f0 m.f6.f1 m.f6.f2 m.f7.f0 m.f7.f1 m.f7.f2) (blocksIn m.f3 m.f2 && mostB m n) := fun n => by
    refine Ev.up ?_
    simp only [spec_l13Blocks.j0]
    unfold blocksIn
    refine ev_all (fun k i => spec_l13Blocks.l0 k n i m.f0 m.f1 m.f2 m.f3 m.f4.f0 m.f4.f1 m.f4.f2 m.f5.f0 m.f5.f1 m.f5.f2 m.f6.f0 m.f6.f1 m.f6.f2 m.f7.f0 m.f7.f1 m.f7.f2) ?_ (fun i hi r' ih => ?_)
    · simp only [spec_l13Blocks.l0]
      refine Ev.no (by omega) ?_
      unfold mostB
      exact Ev.pand (Ev.cond (fun h1 => Ev.is (by rw [if_pos h1])) (fun h1 => Ev.is (by rw [if_neg h1])))
    · simp only [spec_l13Blocks.l0]
      refine Ev.yes (by omega) (Ev.yes (by omega) ?_)
      rw [unw (x := (i : Int) + 1) (by omega) (by omega)]
      have hmem := hw (rd_T68 m.f3 (i : Int)) (getD_mem (by omega) _)
      refine Ev.bind (spec_BlockOk.is hmem) (Ev.cond (fun hd => Ev.cond (fun hc => Ev.to ih (by rw [hd, decide_eq_true hc]; simp)) (fun hc => Ev.is (by rw [decide_eq_false hc]; simp))) (fun hd => Ev.is (by rw [Bool.eq_false_iff.2 hd]; simp)))
  unfold spec_l13Blocks.f msgMost
  exact Ev.cond (fun h => Ev.to (j 1) (by rw [if_pos h])) (fun h => Ev.cond (fun h2 => Ev.to (j 400) (by rw [if_neg h, if_pos h2])) (fun h2 => Ev.to (j 0) (by rw [if_neg h, if_neg h2])))

/-! ### spec_l13Cert: function 102 -/
def spec_l13Cert.f (k : Nat) (a0_0 : Int) (a0_1 : Int) (l0_2 : List ByteArray) : Option (Bool) := (spec_l8Root.f a0_0 a0_1 l0_2).bind fun t941 => (if t941 = true then (some true) else ((spec_l1In.f a0_0 1 10000).bind fun t942 => (if t942 = true then ((spec_l1In.f a0_1 0 100000).bind fun t943 => (if t943 = true then ((spec_NamesOk.f k l0_2).bind fun t944 => (some t944)) else (some false))) else (some false))))
theorem spec_l13Cert.mono : ∀ a0 a1 a2 k, LeO (spec_l13Cert.f k a0 a1 a2) (spec_l13Cert.f (k + 1) a0 a1 a2) := by
  intro a0 a1 a2 k
  unfold spec_l13Cert.f
  repeat' first
      | (with_reducible exact spec_NamesOk.mono _ _)
      | (with_reducible exact LeO.refl _)
      | (with_reducible exact LeO.none _)
      | (with_reducible refine LeO.ite ?_ ?_)
      | (with_reducible refine LeO.bind ?_ (fun _ => ?_))
      | exact spec_NamesOk.mono _ _
      | exact LeO.none _
      | refine LeO.ite ?_ ?_
      | refine LeO.bind ?_ (fun _ => ?_)
set_option maxHeartbeats 8000000 in
set_option maxRecDepth 100000 in
theorem spec_l13Cert.calls (k : Nat) (a0_0 : Int) (a0_1 : Int) (A0_2 : Option Addr) (c0_2 : Nat) (l0_2 : List ByteArray) (r : Bool) (w : World) (hr0_2 : Kd.C Kd.string w A0_2 l0_2.length l0_2) (hc0_2 : l0_2.length ≤ c0_2) (h : spec_l13Cert.f k a0_0 a0_1 l0_2 = some r) :
    Calls Try.prog 102 #[.agg #[.int .i64 a0_0, .int .i64 a0_1, .slice A0_2 l0_2.length c0_2]] w fun e w' => e = .returned (.bool r) ∧ Below w.heap.size w w' := by
  have hu57 := Try.underlying57
  have HR0_2 := Aside0.mk hr0_2
  have HC0_2 := Aside0.mk hc0_2
  clear hr0_2 hc0_2
  have HB := Aside0.mk (Below.refl w.heap.size w)
  have H : ((spec_l8Root.f a0_0 a0_1 l0_2).bind fun t941 => (if t941 = true then (some true) else ((spec_l1In.f a0_0 1 10000).bind fun t942 => (if t942 = true then ((spec_l1In.f a0_1 0 100000).bind fun t943 => (if t943 = true then ((spec_NamesOk.f k l0_2).bind fun t944 => (some t944)) else (some false))) else (some false))))) = some r := h
  clear h
  replace H := Option.bind_eq_some_iff.mp H
  obtain ⟨t941, A20, H⟩ := H
  replace H : (if t941 = true then (some true) else ((spec_l1In.f a0_0 1 10000).bind fun t942 => (if t942 = true then ((spec_l1In.f a0_1 0 100000).bind fun t943 => (if t943 = true then ((spec_NamesOk.f k l0_2).bind fun t944 => (some t944)) else (some false))) else (some false)))) = some r := H
  have A2 := Aside0.mk A20
  clear A20
  by_cases c3 : t941 = true
  · subst c3
    have H1 : (some true) = some r := by rw [if_pos rfl] at H; exact H
    clear H
    have H := H1
    clear H1
    obtain rfl := Option.some.inj H
    go_enter Try.func102, Try.ntmps102
    go_wp2_with (first | ((with_reducible refine gate_dst (N := 1) rfl ?_); refine box_event ?hg (N := 1) ?hd (cs := #[.int .i64 a0_0, .int .i64 a0_1, .slice A0_2 l0_2.length c0_2]) (t := 57) ?hr ?_; (case hd => rfl); (case hg => rfl); (case hr => first | (go_simp; done) | (go_simp; rfl)); intro gb940 hg w4 hbox hb; have n0_ := Aside0.mk (below_step (by repeat (first | (with_reducible first | exact HB.out | apply below_alloc | apply pw_below_drewN | apply below_drew1) | exact HB.out)) hb); have n1_ := Aside0.mk (hbox); have n2_ := Aside0.mk ((by rw [hg]; exact (below_size (by repeat (first | (with_reducible first | exact HB.out | apply below_alloc | apply pw_below_drewN | apply below_drew1) | exact HB.out))) : w.heap.size ≤ gb940)); have n3_ := n2_; clear HB; have HB := n0_; have BK940 := n1_; have GW940 := n2_; have GE940 := n3_; clear n0_ n1_ n2_ n3_; clear hb hbox hg; obtain ⟨hcz5_0, hcz5_1, hcz5_2⟩ := cells3 BK940.out; obtain ⟨hfz5_0, hfz5_1, hfz5_2⟩ := frozens3 BK940.out) | ((with_reducible refine gate_callee (f := 79) rfl ?_); refine goesL_ (some 4) rfl rfl Try.func79 (by kernel_rfl) rfl #[.agg #[.int .i64 a0_0, .int .i64 a0_1, .slice A0_2 l0_2.length c0_2]] rfl (by (try simp only [List.map_toArray, List.map_cons, List.map_nil]); first | done | rfl | (simp only [List.length_drop, List.length_take]; rfl)) ?_; (with_reducible refine (spec_l8Root.calls a0_0 a0_1 _ _ l0_2 true _ ?side1 ?side2 A2.out).mono ?_); (case side1 => repeat (first | exact (Kd.C_below HR0_2.out HB.out) | (with_reducible refine Kd.C_alloc ?_ _) | (with_reducible refine Kd.C_drewN ?_ _) | (with_reducible refine Kd.C_drew ?_))); (case side2 => exact HC0_2.out); rintro e w6 ⟨rfl, hb⟩; refine ⟨_, rfl, ?_⟩; have n0_ := Aside0.mk (blk_below (g := gb940) (by (with_reducible repeat (first | refine blk_drewN ?_ _ | refine blk_drew ?_ | refine blk_alloc ?_ _)); exact BK940.out) hb); have n1_ := Aside0.mk (below_step (by repeat (first | (with_reducible first | exact HB.out | apply below_alloc | apply pw_below_drewN | apply below_drew1 | refine below_set ?_ GE940.out) | exact HB.out)) hb); clear BK940; clear HB; have BK940 := n0_; have HB := n1_; clear n0_ n1_; (try clear hb); (try clear hb2); (try clear hk); (try clear hi)))
    go_ret
    exact ⟨by first | rfl | (simp [errW_none, errW_some] <;> rfl) | (simp [*, errW_none, errW_some] <;> rfl), by repeat (first | (with_reducible first | exact HB.out | apply below_alloc | apply pw_below_drewN | apply below_drew1 | refine below_set ?_ GE940.out) | exact HB.out)⟩
  · replace c3 := Bool.eq_false_iff.mpr c3
    subst c3
    have H1 : ((spec_l1In.f a0_0 1 10000).bind fun t942 => (if t942 = true then ((spec_l1In.f a0_1 0 100000).bind fun t943 => (if t943 = true then ((spec_NamesOk.f k l0_2).bind fun t944 => (some t944)) else (some false))) else (some false))) = some r := by rw [if_neg (show ¬ (false = true) by decide)] at H; exact H
    clear H
    have H := H1
    clear H1
    replace H := Option.bind_eq_some_iff.mp H
    obtain ⟨t942, A70, H⟩ := H
    replace H : (if t942 = true then ((spec_l1In.f a0_1 0 100000).bind fun t943 => (if t943 = true then ((spec_NamesOk.f k l0_2).bind fun t944 => (some t944)) else (some false))) else (some false)) = some r := H
    have A7 := Aside0.mk A70
    clear A70
    by_cases c8 : t942 = true
    · subst c8
      have H1 : ((spec_l1In.f a0_1 0 100000).bind fun t943 => (if t943 = true then ((spec_NamesOk.f k l0_2).bind fun t944 => (some t944)) else (some false))) = some r := by rw [if_pos rfl] at H; exact H
      clear H
      have H := H1
      clear H1
      replace H := Option.bind_eq_some_iff.mp H
      obtain ⟨t943, A90, H⟩ := H
      replace H : (if t943 = true then ((spec_NamesOk.f k l0_2).bind fun t944 => (some t944)) else (some false)) = some r := H
      have A9 := Aside0.mk A90
      clear A90
      by_cases c10 : t943 = true
      · subst c10
        have H1 : ((spec_NamesOk.f k l0_2).bind fun t944 => (some t944)) = some r := by rw [if_pos rfl] at H; exact H
        clear H
        have H := H1
        clear H1
        replace H := Option.bind_eq_some_iff.mp H
        obtain ⟨t944, A110, H⟩ := H
        replace H : (some t944) = some r := H
        have A11 := Aside0.mk A110
        clear A110
        obtain rfl := Option.some.inj H
        go_enter Try.func102, Try.ntmps102
        go_wp2_with (first | ((with_reducible refine gate_dst (N := 1) rfl ?_); refine box_event ?hg (N := 1) ?hd (cs := #[.int .i64 a0_0, .int .i64 a0_1, .slice A0_2 l0_2.length c0_2]) (t := 57) ?hr ?_; (case hd => rfl); (case hg => rfl); (case hr => first | (go_simp; done) | (go_simp; rfl)); intro gb940 hg w12 hbox hb; have n0_ := Aside0.mk (below_step (by repeat (first | (with_reducible first | exact HB.out | apply below_alloc | apply pw_below_drewN | apply below_drew1) | exact HB.out)) hb); have n1_ := Aside0.mk (hbox); have n2_ := Aside0.mk ((by rw [hg]; exact (below_size (by repeat (first | (with_reducible first | exact HB.out | apply below_alloc | apply pw_below_drewN | apply below_drew1) | exact HB.out))) : w.heap.size ≤ gb940)); have n3_ := n2_; clear HB; have HB := n0_; have BK940 := n1_; have GW940 := n2_; have GE940 := n3_; clear n0_ n1_ n2_ n3_; clear hb hbox hg; obtain ⟨hcz13_0, hcz13_1, hcz13_2⟩ := cells3 BK940.out; obtain ⟨hfz13_0, hfz13_1, hfz13_2⟩ := frozens3 BK940.out) | ((with_reducible refine gate_callee (f := 79) rfl ?_); refine goesL_ (some 4) rfl rfl Try.func79 (by kernel_rfl) rfl #[.agg #[.int .i64 a0_0, .int .i64 a0_1, .slice A0_2 l0_2.length c0_2]] rfl (by (try simp only [List.map_toArray, List.map_cons, List.map_nil]); first | done | rfl | (simp only [List.length_drop, List.length_take]; rfl)) ?_; (with_reducible refine (spec_l8Root.calls a0_0 a0_1 _ _ l0_2 false _ ?side1 ?side2 A2.out).mono ?_); (case side1 => repeat (first | exact (Kd.C_below HR0_2.out HB.out) | (with_reducible refine Kd.C_alloc ?_ _) | (with_reducible refine Kd.C_drewN ?_ _) | (with_reducible refine Kd.C_drew ?_))); (case side2 => exact HC0_2.out); rintro e w14 ⟨rfl, hb⟩; refine ⟨_, rfl, ?_⟩; have n0_ := Aside0.mk (blk_below (g := gb940) (by (with_reducible repeat (first | refine blk_drewN ?_ _ | refine blk_drew ?_ | refine blk_alloc ?_ _)); exact BK940.out) hb); have n1_ := Aside0.mk (below_step (by repeat (first | (with_reducible first | exact HB.out | apply below_alloc | apply pw_below_drewN | apply below_drew1 | refine below_set ?_ GE940.out) | exact HB.out)) hb); clear BK940; clear HB; have BK940 := n0_; have HB := n1_; clear n0_ n1_; (try clear hb); (try clear hb2); (try clear hk); (try clear hi); obtain ⟨hcz15_0, hcz15_1, hcz15_2⟩ := cells3 BK940.out; obtain ⟨hfz15_0, hfz15_1, hfz15_2⟩ := frozens3 BK940.out) | (go_at_call 64; (with_reducible refine (spec_l1In.calls a0_0 1 10000 true _ A7.out).mono ?_); rintro e w' ⟨rfl, ⟨nd, rfl⟩⟩) | (go_at_call 64; (with_reducible refine (spec_l1In.calls a0_1 0 100000 true _ A9.out).mono ?_); rintro e w' ⟨rfl, ⟨nd, rfl⟩⟩) | (go_at_call 116; (with_reducible refine (spec_NamesOk.calls k _ _ l0_2 t944 _ ?side1 ?side2 A11.out).mono ?_); (case side1 => repeat (first | exact (Kd.C_below HR0_2.out (by repeat (first | (with_reducible first | exact HB.out | apply below_alloc | apply pw_below_drewN | apply below_drew1 | refine below_set ?_ GE940.out) | exact HB.out))) | (with_reducible refine Kd.C_alloc ?_ _) | (with_reducible refine Kd.C_drewN ?_ _) | (with_reducible refine Kd.C_drew ?_))); (case side2 => exact HC0_2.out); rintro e w' ⟨rfl, ⟨nd, rfl⟩⟩))
        go_ret
        exact ⟨by first | rfl | (simp [errW_none, errW_some] <;> rfl) | (simp [*, errW_none, errW_some] <;> rfl), by repeat (first | (with_reducible first | exact HB.out | apply below_alloc | apply pw_below_drewN | apply below_drew1 | refine below_set ?_ GE940.out) | exact HB.out)⟩
      · replace c10 := Bool.eq_false_iff.mpr c10
        subst c10
        have H1 : (some false) = some r := by rw [if_neg (show ¬ (false = true) by decide)] at H; exact H
        clear H
        have H := H1
        clear H1
        obtain rfl := Option.some.inj H
        go_enter Try.func102, Try.ntmps102
        go_wp2_with (first | ((with_reducible refine gate_dst (N := 1) rfl ?_); refine box_event ?hg (N := 1) ?hd (cs := #[.int .i64 a0_0, .int .i64 a0_1, .slice A0_2 l0_2.length c0_2]) (t := 57) ?hr ?_; (case hd => rfl); (case hg => rfl); (case hr => first | (go_simp; done) | (go_simp; rfl)); intro gb940 hg w16 hbox hb; have n0_ := Aside0.mk (below_step (by repeat (first | (with_reducible first | exact HB.out | apply below_alloc | apply pw_below_drewN | apply below_drew1) | exact HB.out)) hb); have n1_ := Aside0.mk (hbox); have n2_ := Aside0.mk ((by rw [hg]; exact (below_size (by repeat (first | (with_reducible first | exact HB.out | apply below_alloc | apply pw_below_drewN | apply below_drew1) | exact HB.out))) : w.heap.size ≤ gb940)); have n3_ := n2_; clear HB; have HB := n0_; have BK940 := n1_; have GW940 := n2_; have GE940 := n3_; clear n0_ n1_ n2_ n3_; clear hb hbox hg; obtain ⟨hcz17_0, hcz17_1, hcz17_2⟩ := cells3 BK940.out; obtain ⟨hfz17_0, hfz17_1, hfz17_2⟩ := frozens3 BK940.out) | ((with_reducible refine gate_callee (f := 79) rfl ?_); refine goesL_ (some 4) rfl rfl Try.func79 (by kernel_rfl) rfl #[.agg #[.int .i64 a0_0, .int .i64 a0_1, .slice A0_2 l0_2.length c0_2]] rfl (by (try simp only [List.map_toArray, List.map_cons, List.map_nil]); first | done | rfl | (simp only [List.length_drop, List.length_take]; rfl)) ?_; (with_reducible refine (spec_l8Root.calls a0_0 a0_1 _ _ l0_2 false _ ?side1 ?side2 A2.out).mono ?_); (case side1 => repeat (first | exact (Kd.C_below HR0_2.out HB.out) | (with_reducible refine Kd.C_alloc ?_ _) | (with_reducible refine Kd.C_drewN ?_ _) | (with_reducible refine Kd.C_drew ?_))); (case side2 => exact HC0_2.out); rintro e w18 ⟨rfl, hb⟩; refine ⟨_, rfl, ?_⟩; have n0_ := Aside0.mk (blk_below (g := gb940) (by (with_reducible repeat (first | refine blk_drewN ?_ _ | refine blk_drew ?_ | refine blk_alloc ?_ _)); exact BK940.out) hb); have n1_ := Aside0.mk (below_step (by repeat (first | (with_reducible first | exact HB.out | apply below_alloc | apply pw_below_drewN | apply below_drew1 | refine below_set ?_ GE940.out) | exact HB.out)) hb); clear BK940; clear HB; have BK940 := n0_; have HB := n1_; clear n0_ n1_; (try clear hb); (try clear hb2); (try clear hk); (try clear hi); obtain ⟨hcz19_0, hcz19_1, hcz19_2⟩ := cells3 BK940.out; obtain ⟨hfz19_0, hfz19_1, hfz19_2⟩ := frozens3 BK940.out) | (go_at_call 64; (with_reducible refine (spec_l1In.calls a0_0 1 10000 true _ A7.out).mono ?_); rintro e w' ⟨rfl, ⟨nd, rfl⟩⟩) | (go_at_call 64; (with_reducible refine (spec_l1In.calls a0_1 0 100000 false _ A9.out).mono ?_); rintro e w' ⟨rfl, ⟨nd, rfl⟩⟩))
        go_ret
        exact ⟨by first | rfl | (simp [errW_none, errW_some] <;> rfl) | (simp [*, errW_none, errW_some] <;> rfl), by repeat (first | (with_reducible first | exact HB.out | apply below_alloc | apply pw_below_drewN | apply below_drew1 | refine below_set ?_ GE940.out) | exact HB.out)⟩
    · replace c8 := Bool.eq_false_iff.mpr c8
      subst c8
      have H1 : (some false) = some r := by rw [if_neg (show ¬ (false = true) by decide)] at H; exact H
      clear H
      have H := H1
      clear H1
      obtain rfl := Option.some.inj H
      go_enter Try.func102, Try.ntmps102
      go_wp2_with (first | ((with_reducible refine gate_dst (N := 1) rfl ?_); refine box_event ?hg (N := 1) ?hd (cs := #[.int .i64 a0_0, .int .i64 a0_1, .slice A0_2 l0_2.length c0_2]) (t := 57) ?hr ?_; (case hd => rfl); (case hg => rfl); (case hr => first | (go_simp; done) | (go_simp; rfl)); intro gb940 hg w20 hbox hb; have n0_ := Aside0.mk (below_step (by repeat (first | (with_reducible first | exact HB.out | apply below_alloc | apply pw_below_drewN | apply below_drew1) | exact HB.out)) hb); have n1_ := Aside0.mk (hbox); have n2_ := Aside0.mk ((by rw [hg]; exact (below_size (by repeat (first | (with_reducible first | exact HB.out | apply below_alloc | apply pw_below_drewN | apply below_drew1) | exact HB.out))) : w.heap.size ≤ gb940)); have n3_ := n2_; clear HB; have HB := n0_; have BK940 := n1_; have GW940 := n2_; have GE940 := n3_; clear n0_ n1_ n2_ n3_; clear hb hbox hg; obtain ⟨hcz21_0, hcz21_1, hcz21_2⟩ := cells3 BK940.out; obtain ⟨hfz21_0, hfz21_1, hfz21_2⟩ := frozens3 BK940.out) | ((with_reducible refine gate_callee (f := 79) rfl ?_); refine goesL_ (some 4) rfl rfl Try.func79 (by kernel_rfl) rfl #[.agg #[.int .i64 a0_0, .int .i64 a0_1, .slice A0_2 l0_2.length c0_2]] rfl (by (try simp only [List.map_toArray, List.map_cons, List.map_nil]); first | done | rfl | (simp only [List.length_drop, List.length_take]; rfl)) ?_; (with_reducible refine (spec_l8Root.calls a0_0 a0_1 _ _ l0_2 false _ ?side1 ?side2 A2.out).mono ?_); (case side1 => repeat (first | exact (Kd.C_below HR0_2.out HB.out) | (with_reducible refine Kd.C_alloc ?_ _) | (with_reducible refine Kd.C_drewN ?_ _) | (with_reducible refine Kd.C_drew ?_))); (case side2 => exact HC0_2.out); rintro e w22 ⟨rfl, hb⟩; refine ⟨_, rfl, ?_⟩; have n0_ := Aside0.mk (blk_below (g := gb940) (by (with_reducible repeat (first | refine blk_drewN ?_ _ | refine blk_drew ?_ | refine blk_alloc ?_ _)); exact BK940.out) hb); have n1_ := Aside0.mk (below_step (by repeat (first | (with_reducible first | exact HB.out | apply below_alloc | apply pw_below_drewN | apply below_drew1 | refine below_set ?_ GE940.out) | exact HB.out)) hb); clear BK940; clear HB; have BK940 := n0_; have HB := n1_; clear n0_ n1_; (try clear hb); (try clear hb2); (try clear hk); (try clear hi); obtain ⟨hcz23_0, hcz23_1, hcz23_2⟩ := cells3 BK940.out; obtain ⟨hfz23_0, hfz23_1, hfz23_2⟩ := frozens3 BK940.out) | (go_at_call 64; (with_reducible refine (spec_l1In.calls a0_0 1 10000 false _ A7.out).mono ?_); rintro e w' ⟨rfl, ⟨nd, rfl⟩⟩))
      go_ret
      exact ⟨by first | rfl | (simp [errW_none, errW_some] <;> rfl) | (simp [*, errW_none, errW_some] <;> rfl), by repeat (first | (with_reducible first | exact HB.out | apply below_alloc | apply pw_below_drewN | apply below_drew1 | refine below_set ?_ GE940.out) | exact HB.out)⟩

theorem spec_l13Cert.is {r b : Int} {who : List ByteArray} (hn : who.length ≤ maxLen) (hw : ∀ s ∈ who, s.size ≤ maxLen) : Ev (fun k => spec_l13Cert.f k r b who) (qcForm r b who 10000 100000) := by
  unfold spec_l13Cert.f qcForm
  simp only [spec_l8Root.is, spec_l1In.is, Option.bind_some]
  refine Ev.cond (fun h => Ev.is (by rw [h]; rfl)) (fun h => ?_)
  rw [Bool.eq_false_iff.2 h, Bool.false_or]
  exact Ev.band (Ev.band (Ev.bind (spec_NamesOk.is hn hw) (Ev.now _)))

/-! ### laws_toBlockS: printed by compact.py -/
set_option maxHeartbeats 2000000 in
set_option maxRecDepth 100000 in
theorem laws_toBlockS.make {xs : List S64} (hs : (fun l : List S64 => l.length ≤ 1048576 ∧ ∀ x ∈ l, s64 x) xs) {B : Option Addr} {c : Nat} {w : World} (hr : Kd.C k64 w B xs.length xs) (hc : xs.length ≤ c) :
    Calls Try.prog 104 #[.slice B xs.length c] w fun e w' => ∃ v, e = .returned v ∧ Kd.R k68 68 w' w.heap.size (fun _ => True) v (xs.map c64) ∧ Below w.heap.size w w' := by
  have hn : (xs.length : Int) ≤ 1048576 := by have := hs.1; omega
  have HR := Aside0.mk hr
  have HS := Aside0.mk hs.2
  clear hr hs
  go_enter Try.func104, Try.ntmps104
  go_wp2_with (first | ((with_reducible refine gate_dst (N := 7) rfl ?_); refine Kd.R_make k68 w.heap.size 68 rfl (N := 7) rfl 82 _ _ rfl (xs.length : Int) rfl rfl Try.underlying82 (.agg #[(.int .i64 0), (.int .i64 0), (.int .i64 0), (.string ⟨#[]⟩), (.int .i64 0), (.int .i64 0), (.slice none 0 0), (.int .i64 0), (.slice none 0 0), (.slice none 0 0), (.slice none 0 0), (.bool false), (.slice none 0 0), (.string ⟨#[]⟩)]) 208 info68 rfl (by decide) (by decide) z68 (ok := fun _ => True) (okp := fun _ => True) (k68_mkM _ _ _ z68 (Kd.R_nil _ _ _ _ _) (Kd.R_nil _ _ _ _ _) (Kd.R_nil _ _ _ _ _) (Kd.R_nil _ _ _ _ _) (Kd.R_nil _ _ _ _ _)) (fun _ hk => hk) trivial (by omega) (by omega) (Below.refl _ _) (Nat.le_refl _) ?_; intro v w1 ho hb _ _; have HO := Aside0.mk (Eq.mp (congrArg (fun l => Kd.R k68 68 w1 w.heap.size (fun _ => True) v l) (upto_zero (f := c64) (z := z68) (xs := xs))) ho); have HB := Aside0.mk hb; clear ho hb))
  go_loopg [4] xs.length (fun g v4 w' => ∃ i : Int, v4 = .int .i64 i ∧ 0 ≤ i ∧ i ≤ xs.length ∧ Aside0 ((xs.length : Int) - i ≤ g) ∧ Aside0 (Kd.R k68 68 w' w.heap.size (fun _ => True) v (upto c64 z68 xs i)) ∧ Aside0 (Below w.heap.size w w'))
  case atStart => exact ⟨0, rfl, Int.le_refl _, by omega, ⟨by omega⟩, HO, HB⟩
  case round =>
    clear HO HB
    obtain ⟨i, rfl, hi0, hi1, HG, HO, HB⟩ := hrel
    by_cases c1 : i < (xs.length : Int)
    rotate_left
    · have H1 := HO.out
      rw [upto_all (by omega)] at H1
      have H2 := Aside0.mk H1
      clear H1
      go_wp2
      go_ret
      exact ⟨_, rfl, H2.out, HB.out⟩
    obtain ⟨gr, cap, hv, _, hlt, _⟩ := Kd.R_form HO.out (by rw [upto_len hi1]; omega)
    rw [upto_len hi1] at hv
    cases hv
    have HL := Aside0.mk hlt
    clear hlt
    obtain ⟨ad, A6, a6, A8, a8, A9, a9, A10, a10, A12, a12, e1, h0, h1, h2, h3, h4, h5, h6, h7, h8, h9, h10, h11, h12, h13, l6, g6, l8, g8, l9, g9, l10, g10, l12, g12⟩ := at_T64 (Kd.C_below HR.out HB.out) i hi0 c1
    cases e1
    obtain ⟨y, hy⟩ : ∃ y, rd_T64 xs i = y := ⟨_, rfl⟩
    rw [hy] at h0 h1 h2 h3 h4 h5 h6 h7 h8 h9 h10 h11 h12 h13 l6 g6 l8 g8 l9 g9 l10 g10 l12 g12
    have E1 := Aside0.mk (laws_toBlock.make (x := y) (HS.out _ (by rw [← hy]; exact getD_mem (by omega) z64)) (k64_mk wr y l6 g6 l8 g8 l9 g9 l10 g10 l12 g12))
    have HY := Aside0.mk hy
    clear hy l6 g6 l8 g8 l9 g9 l10 g10 l12 g12
    go_wp2_with fail
    refine E1.out.mono ?_
    rintro _ W2 ⟨ds, rfl, hM, hb⟩
    clear E1 h0 h1 h2 h3 h4 h5 h6 h7 h8 h9 h10 h11 h12 h13
    have hlt := HL.out
    have HM := Aside0.mk (k68.M_mono (ok' := fun k => gr < k) (fun k hk => Nat.lt_of_lt_of_le hlt hk.2.1) (k68.M_bound hM))
    replace HM := Aside0.mk (k68.M_lower HB.out.size HM.out)
    replace HO := Aside0.mk (Kd.R_below HO.out hb)
    replace HB := Aside0.mk (then_ HB.out hb)
    clear hb hM hlt
    have hdl : ds.length = 14 := k68.K_len (k68.K_of_M HM.out)
    obtain ⟨c_, hcl, _, hcc, _⟩ := Kd.R_elem HO.out z68 i hi0 c1
    have HC := Aside0.mk hcc
    have HD := Aside0.mk hdl
    have HE := Aside0.mk hcl
    clear hcc hdl hcl
    go_wp2_with (first | ((with_reducible refine gate_ (.store 68 (.tmp 21) (.tmp 20)) rfl ?_); refine Kd.R_store k68 (w0 := w) w.heap.size rfl rfl 68 _ _ rfl 68 i 0 (upto c64 z68 xs i) (c64 y) _ ds c_ (fun _ => True) (fun k => gr < k) rfl rfl rfl rfl (by rw [HD.out]; kernel_rfl) (k68.K_one (k68.K_of_M HM.out)) HO.out hi0 c1 HE.out HC.out (by rw [HD.out]; exact Nat.le_refl _) (by rw [List.take_zero, List.nil_append, List.drop_eq_nil_of_le (by rw [HE.out, HD.out]; exact Nat.le_refl _), List.append_nil]; exact HM.out) (fun k hk => ⟨trivial, by omega⟩) HB.out ?_; intro w3 hr3 hb3 _; have HO3 := Aside0.mk (Eq.mp (congrArg (fun l => Kd.R k68 68 w3 w.heap.size (fun _ => True) _ l) (upto_set (f := c64) (z := z68) hi0 c1 z64 HY.out)) hr3); have HB3 := Aside0.mk hb3; clear hr3 hb3))
    go_roundg (xs.length - i.toNat - 1)
    case measure => have := HG.out; omega
    case rel => exact ⟨i + 1, rfl, by omega, by omega, ⟨by omega⟩, HO3, HB3⟩

/-! ### laws_toVote: printed by compact.py -/
def c75 (x : S75) : S83 := ⟨x.f0, x.f1, x.f2⟩
set_option maxHeartbeats 2000000 in
set_option maxRecDepth 100000 in
theorem laws_toVote.make {x : S75} {cs : List Value} {w : World} (hK : k75.K w x cs) :
    Calls Try.prog 105 #[.agg cs.toArray] w fun e w' => ∃ ds : List Value, e = .returned (.agg ds.toArray) ∧ k83.M w' w.heap.size (fun _ => True) (c75 x) ds ∧ Below w.heap.size w w' := by
  obtain rfl := k75_open hK
  clear hK
  go_enter Try.func105, Try.ntmps105
  go_wp2_with (first | ((with_reducible refine gate_ (.load 83 (.tmp 3)) rfl ?_); refine wpList_load_row rfl 83 _ rfl _ rfl 83 #[.int .i64 (c75 x).f0, .int .i64 (c75 x).f1, .string (c75 x).f2] (0, 0) _ new3 Try.underlying83 rfl (by kernel_rfl) ?_))
  refine bodyPost_ret (results_cell_row rfl _ _ _ 83 #[.int .i64 (c75 x).f0, .int .i64 (c75 x).f1, .string (c75 x).f2] (0, 0) _ rfl new2 Try.underlying83 rfl (by kernel_rfl)) rfl ?_
  exact ⟨_, rfl, k83_mkM _ _ _ (c75 x), atop (atop (atop (Below.refl _ _)))⟩

/-! ### laws_toGone: printed by compact.py -/
def c77 (x : S77) : S84 := ⟨x.f0, x.f1, x.f2⟩
set_option maxHeartbeats 2000000 in
set_option maxRecDepth 100000 in
theorem laws_toGone.make {x : S77} {cs : List Value} {w : World} (hK : k77.K w x cs) :
    Calls Try.prog 106 #[.agg cs.toArray] w fun e w' => ∃ ds : List Value, e = .returned (.agg ds.toArray) ∧ k84.M w' w.heap.size (fun _ => True) (c77 x) ds ∧ Below w.heap.size w w' := by
  obtain rfl := k77_open hK
  clear hK
  go_enter Try.func106, Try.ntmps106
  go_wp2_with (first | ((with_reducible refine gate_ (.load 84 (.tmp 3)) rfl ?_); refine wpList_load_row rfl 84 _ rfl _ rfl 84 #[.int .i64 (c77 x).f0, .int .i64 (c77 x).f1, .string (c77 x).f2] (0, 0) _ new3 Try.underlying84 rfl (by kernel_rfl) ?_))
  refine bodyPost_ret (results_cell_row rfl _ _ _ 84 #[.int .i64 (c77 x).f0, .int .i64 (c77 x).f1, .string (c77 x).f2] (0, 0) _ rfl new2 Try.underlying84 rfl (by kernel_rfl)) rfl ?_
  exact ⟨_, rfl, k84_mkM _ _ _ (c77 x), atop (atop (atop (Below.refl _ _)))⟩

/-! ### laws_toMsg: printed by compact.py -/
def c79 (x : S79) : S86 := ⟨x.f0, x.f1, x.f2, (x.f3.map c64), (c75 x.f4), (c77 x.f5), (c54 x.f6), (c33 x.f7)⟩
def s79 (x : S79) : Prop := (fun l : List S64 => l.length ≤ 1048576 ∧ ∀ x ∈ l, s64 x) x.f3 ∧ s54 x.f6 ∧ s33 x.f7
set_option maxHeartbeats 2000000 in
set_option maxRecDepth 100000 in
theorem laws_toMsg.make {x : S79} (hs : s79 x) {cs : List Value} {w : World} (hK : k79.K w x cs) :
    Calls Try.prog 57 #[.agg cs.toArray] w fun e w' => ∃ ds : List Value, e = .returned (.agg ds.toArray) ∧ k86.M w' w.heap.size (fun _ => True) (c79 x) ds ∧ Below w.heap.size w w' := by
  obtain ⟨A3, a3, A12, a12, A14, a14, A15, a15, rfl, l3, g3, l12, g12, l14, g14, l15, g15⟩ := k79_open hK
  have E3 := Aside0.mk (fun (W : World) (hb : Below w.heap.size w W) => laws_toBlockS.make (w := W) hs.1 (Kd.C_below g3 hb) l3)
  have E4 := Aside0.mk (fun (W : World) (hb : Below w.heap.size w W) => laws_toVote.make (w := W) (k75_mk W x.f4))
  have E5 := Aside0.mk (fun (W : World) (hb : Below w.heap.size w W) => laws_toGone.make (w := W) (k77_mk W x.f5))
  have E6 := Aside0.mk (fun (W : World) (hb : Below w.heap.size w W) => laws_toQc.make (w := W) hs.2.1 (k54_mk W x.f6 l12 (Kd.C_below g12 hb)))
  have E7 := Aside0.mk (fun (W : World) (hb : Below w.heap.size w W) => laws_toTc.make (w := W) hs.2.2 (k33_mk W x.f7 l14 (Kd.C_below g14 hb) l15 (Kd.C_below g15 hb)))
  clear hs hK l3 g3 l12 g12 l14 g14 l15 g15
  go_enter Try.func57, Try.ntmps57
  go_wp2_with fail
  refine (E3.out _ (atop (atop (atop (Below.refl _ _))))).mono ?_
  rintro _ V1 ⟨v3, rfl, hR3, hb⟩
  obtain ⟨B3, d3, rfl⟩ := Kd.R_slice hR3
  rw [List.length_map] at hR3
  have BX := Aside0.mk (blk_below new1 hb)
  have BR := Aside0.mk (blk_below new2 hb)
  have BO := Aside0.mk (blk_below new3 hb)
  have HB := Aside0.mk (off1 (off1 (off1 hb)))
  have G3 := Aside0.mk (Kd.R_mono (ok' := fun k => w.heap.size + 3 ≤ k) (Kd.R_lower (base' := w.heap.size) (Kd.R_bound hR3) (by rw [size3]; omega)) (fun k hk => by have h := hk.2.1; rw [size3] at h; exact h))
  have hz0 : w.heap.size + 3 ≤ V1.heap.size := by have h := hb.size; rw [size3] at h; exact h
  clear hb E3 hR3
  go_wp2_with (first | ((with_reducible refine gate_ (.store 82 (.tmp 16) (.tmp 15)) rfl ?_); refine put rfl rfl 82 _ _ rfl (.slice B3 x.f3.length d3) [.slice B3 x.f3.length d3] rfl rfl rfl (by kernel_rfl) rfl BO.out (Nat.le_of_ble_eq_true rfl) ?_; intro V2 q1 q2; simp only [putSeg, List.setIfInBounds_toArray, List.set_cons_zero, List.set_cons_succ] at q1; replace BO := Aside0.mk q1; replace BR := Aside0.mk (blk_on BR.out q2 (by omega)); replace BX := Aside0.mk (blk_on BX.out q2 (by omega)); replace G3 := Aside0.mk (Kd.R_grown G3.out q2 (fun k hk => by simp only [ne_eq, Option.some.injEq]; omega)); replace HB := Aside0.mk (on HB.out q2 (by omega)); replace hz0 : w.heap.size + 3 ≤ V2.heap.size := Nat.le_trans hz0 q2.size; clear q1 q2; obtain ⟨b0, b1, b2, b3, b4, b5, b6, b7, b8, b9, b10, b11, b12, b13, b14, b15⟩ := cells16 BX.out))
  refine (E4.out _ HB.out).mono ?_
  rintro _ V3 ⟨es, rfl, hM, hb⟩
  obtain rfl := k83_openM hM
  clear b0 b1 b2 b3 b4 b5 b6 b7 b8 b9 b10 b11 b12 b13 b14 b15
  replace BX := Aside0.mk (blk_below BX.out hb)
  replace BR := Aside0.mk (blk_below BR.out hb)
  replace BO := Aside0.mk (blk_below BO.out hb)
  replace G3 := Aside0.mk (Kd.R_below G3.out hb)
  replace HB := Aside0.mk (then_ HB.out hb)
  replace hz0 : w.heap.size + 3 ≤ V3.heap.size := by have h := hb.size; omega
  clear hb E4 hM
  go_wp2_with (first | ((with_reducible refine gate_ (.store 83 (.tmp 20) (.tmp 19)) rfl ?_); refine put rfl rfl 83 _ _ rfl (.agg #[.int .i64 (c79 x).f4.f0, .int .i64 (c79 x).f4.f1, .string (c79 x).f4.f2]) [.int .i64 (c79 x).f4.f0, .int .i64 (c79 x).f4.f1, .string (c79 x).f4.f2] rfl rfl rfl (by kernel_rfl) rfl BO.out (Nat.le_of_ble_eq_true rfl) ?_; intro V4 q1 q2; simp only [putSeg, List.setIfInBounds_toArray, List.set_cons_zero, List.set_cons_succ] at q1; replace BO := Aside0.mk q1; replace BR := Aside0.mk (blk_on BR.out q2 (by omega)); replace BX := Aside0.mk (blk_on BX.out q2 (by omega)); replace G3 := Aside0.mk (Kd.R_grown G3.out q2 (fun k hk => by simp only [ne_eq, Option.some.injEq]; omega)); replace HB := Aside0.mk (on HB.out q2 (by omega)); replace hz0 : w.heap.size + 3 ≤ V4.heap.size := Nat.le_trans hz0 q2.size; clear q1 q2; obtain ⟨b0, b1, b2, b3, b4, b5, b6, b7, b8, b9, b10, b11, b12, b13, b14, b15⟩ := cells16 BX.out))
  refine (E5.out _ HB.out).mono ?_
  rintro _ V5 ⟨es, rfl, hM, hb⟩
  obtain rfl := k84_openM hM
  clear b0 b1 b2 b3 b4 b5 b6 b7 b8 b9 b10 b11 b12 b13 b14 b15
  replace BX := Aside0.mk (blk_below BX.out hb)
  replace BR := Aside0.mk (blk_below BR.out hb)
  replace BO := Aside0.mk (blk_below BO.out hb)
  replace G3 := Aside0.mk (Kd.R_below G3.out hb)
  replace HB := Aside0.mk (then_ HB.out hb)
  replace hz0 : w.heap.size + 3 ≤ V5.heap.size := by have h := hb.size; omega
  clear hb E5 hM
  go_wp2_with (first | ((with_reducible refine gate_ (.store 84 (.tmp 24) (.tmp 23)) rfl ?_); refine put rfl rfl 84 _ _ rfl (.agg #[.int .i64 (c79 x).f5.f0, .int .i64 (c79 x).f5.f1, .string (c79 x).f5.f2]) [.int .i64 (c79 x).f5.f0, .int .i64 (c79 x).f5.f1, .string (c79 x).f5.f2] rfl rfl rfl (by kernel_rfl) rfl BO.out (Nat.le_of_ble_eq_true rfl) ?_; intro V6 q1 q2; simp only [putSeg, List.setIfInBounds_toArray, List.set_cons_zero, List.set_cons_succ] at q1; replace BO := Aside0.mk q1; replace BR := Aside0.mk (blk_on BR.out q2 (by omega)); replace BX := Aside0.mk (blk_on BX.out q2 (by omega)); replace G3 := Aside0.mk (Kd.R_grown G3.out q2 (fun k hk => by simp only [ne_eq, Option.some.injEq]; omega)); replace HB := Aside0.mk (on HB.out q2 (by omega)); replace hz0 : w.heap.size + 3 ≤ V6.heap.size := Nat.le_trans hz0 q2.size; clear q1 q2; obtain ⟨b0, b1, b2, b3, b4, b5, b6, b7, b8, b9, b10, b11, b12, b13, b14, b15⟩ := cells16 BX.out))
  refine (E6.out _ HB.out).mono ?_
  rintro _ V7 ⟨es, rfl, hM, hb⟩
  obtain ⟨v12, rfl, hR12⟩ := k57_openM hM
  obtain ⟨B12, d12, rfl⟩ := Kd.R_slice hR12
  clear b0 b1 b2 b3 b4 b5 b6 b7 b8 b9 b10 b11 b12 b13 b14 b15
  have G12 := Aside0.mk (Kd.R_mono (ok' := fun k => w.heap.size + 3 ≤ k) (Kd.R_lower (base' := w.heap.size) (Kd.R_bound hR12) (by omega)) (fun k hk => Nat.le_trans hz0 hk.2.1))
  replace BX := Aside0.mk (blk_below BX.out hb)
  replace BR := Aside0.mk (blk_below BR.out hb)
  replace BO := Aside0.mk (blk_below BO.out hb)
  replace G3 := Aside0.mk (Kd.R_below G3.out hb)
  replace HB := Aside0.mk (then_ HB.out hb)
  replace hz0 : w.heap.size + 3 ≤ V7.heap.size := by have h := hb.size; omega
  clear hb E6 hR12 hM
  go_wp2_with (first | ((with_reducible refine gate_ (.store 57 (.tmp 28) (.tmp 27)) rfl ?_); refine put rfl rfl 57 _ _ rfl (.agg #[.int .i64 (c79 x).f6.f0, .int .i64 (c79 x).f6.f1, .slice B12 (c79 x).f6.f2.length d12]) [.int .i64 (c79 x).f6.f0, .int .i64 (c79 x).f6.f1, .slice B12 (c79 x).f6.f2.length d12] rfl rfl rfl (by kernel_rfl) rfl BO.out (Nat.le_of_ble_eq_true rfl) ?_; intro V8 q1 q2; simp only [putSeg, List.setIfInBounds_toArray, List.set_cons_zero, List.set_cons_succ] at q1; replace BO := Aside0.mk q1; replace BR := Aside0.mk (blk_on BR.out q2 (by omega)); replace BX := Aside0.mk (blk_on BX.out q2 (by omega)); replace G3 := Aside0.mk (Kd.R_grown G3.out q2 (fun k hk => by simp only [ne_eq, Option.some.injEq]; omega)); replace G12 := Aside0.mk (Kd.R_grown G12.out q2 (fun k hk => by simp only [ne_eq, Option.some.injEq]; omega)); replace HB := Aside0.mk (on HB.out q2 (by omega)); replace hz0 : w.heap.size + 3 ≤ V8.heap.size := Nat.le_trans hz0 q2.size; clear q1 q2; obtain ⟨b0, b1, b2, b3, b4, b5, b6, b7, b8, b9, b10, b11, b12, b13, b14, b15⟩ := cells16 BX.out))
  refine (E7.out _ HB.out).mono ?_
  rintro _ V9 ⟨es, rfl, hM, hb⟩
  obtain ⟨v14, v15, rfl, hR14, hR15⟩ := k36_openM hM
  obtain ⟨B14, d14, rfl⟩ := Kd.R_slice hR14
  obtain ⟨B15, d15, rfl⟩ := Kd.R_slice hR15
  clear b0 b1 b2 b3 b4 b5 b6 b7 b8 b9 b10 b11 b12 b13 b14 b15
  have G14 := Aside0.mk (Kd.R_mono (ok' := fun k => w.heap.size + 3 ≤ k) (Kd.R_lower (base' := w.heap.size) (Kd.R_bound hR14) (by omega)) (fun k hk => Nat.le_trans hz0 hk.2.1))
  have G15 := Aside0.mk (Kd.R_mono (ok' := fun k => w.heap.size + 3 ≤ k) (Kd.R_lower (base' := w.heap.size) (Kd.R_bound hR15) (by omega)) (fun k hk => Nat.le_trans hz0 hk.2.1))
  replace BX := Aside0.mk (blk_below BX.out hb)
  replace BR := Aside0.mk (blk_below BR.out hb)
  replace BO := Aside0.mk (blk_below BO.out hb)
  replace G3 := Aside0.mk (Kd.R_below G3.out hb)
  replace G12 := Aside0.mk (Kd.R_below G12.out hb)
  replace HB := Aside0.mk (then_ HB.out hb)
  replace hz0 : w.heap.size + 3 ≤ V9.heap.size := by have h := hb.size; omega
  clear hb E7 hR14 hR15 hM
  go_wp2_with (first | ((with_reducible refine gate_ (.store 36 (.tmp 32) (.tmp 31)) rfl ?_); refine put rfl rfl 36 _ _ rfl (.agg #[.int .i64 (c79 x).f7.f0, .slice B14 (c79 x).f7.f1.length d14, .slice B15 (c79 x).f7.f2.length d15]) [.int .i64 (c79 x).f7.f0, .slice B14 (c79 x).f7.f1.length d14, .slice B15 (c79 x).f7.f2.length d15] rfl rfl rfl (by kernel_rfl) rfl BO.out (Nat.le_of_ble_eq_true rfl) ?_; intro V10 q1 q2; simp only [putSeg, List.setIfInBounds_toArray, List.set_cons_zero, List.set_cons_succ] at q1; replace BO := Aside0.mk q1; replace BR := Aside0.mk (blk_on BR.out q2 (by omega)); replace BX := Aside0.mk (blk_on BX.out q2 (by omega)); replace G3 := Aside0.mk (Kd.R_grown G3.out q2 (fun k hk => by simp only [ne_eq, Option.some.injEq]; omega)); replace G12 := Aside0.mk (Kd.R_grown G12.out q2 (fun k hk => by simp only [ne_eq, Option.some.injEq]; omega)); replace G14 := Aside0.mk (Kd.R_grown G14.out q2 (fun k hk => by simp only [ne_eq, Option.some.injEq]; omega)); replace G15 := Aside0.mk (Kd.R_grown G15.out q2 (fun k hk => by simp only [ne_eq, Option.some.injEq]; omega)); replace HB := Aside0.mk (on HB.out q2 (by omega)); replace hz0 : w.heap.size + 3 ≤ V10.heap.size := Nat.le_trans hz0 q2.size; clear q1 q2; obtain ⟨b0, b1, b2, b3, b4, b5, b6, b7, b8, b9, b10, b11, b12, b13, b14, b15⟩ := cells16 BX.out) | ((with_reducible refine gate_ (.load 86 (.tmp 3)) rfl ?_); refine wpList_load_row rfl 86 _ rfl _ rfl 86 #[.int .i64 (c79 x).f0, .string (c79 x).f1, .int .i64 (c79 x).f2, .slice B3 x.f3.length d3, .int .i64 (c79 x).f4.f0, .int .i64 (c79 x).f4.f1, .string (c79 x).f4.f2, .int .i64 (c79 x).f5.f0, .int .i64 (c79 x).f5.f1, .string (c79 x).f5.f2, .int .i64 (c79 x).f6.f0, .int .i64 (c79 x).f6.f1, .slice B12 (c79 x).f6.f2.length d12, .int .i64 (c79 x).f7.f0, .slice B14 (c79 x).f7.f1.length d14, .slice B15 (c79 x).f7.f2.length d15] (0, 0) _ BO.out Try.underlying86 rfl (by kernel_rfl) ?_) | ((with_reducible refine gate_ (.store 86 (.tmp 2) (.tmp 33)) rfl ?_); refine put rfl rfl 86 _ _ rfl (.agg #[.int .i64 (c79 x).f0, .string (c79 x).f1, .int .i64 (c79 x).f2, .slice B3 x.f3.length d3, .int .i64 (c79 x).f4.f0, .int .i64 (c79 x).f4.f1, .string (c79 x).f4.f2, .int .i64 (c79 x).f5.f0, .int .i64 (c79 x).f5.f1, .string (c79 x).f5.f2, .int .i64 (c79 x).f6.f0, .int .i64 (c79 x).f6.f1, .slice B12 (c79 x).f6.f2.length d12, .int .i64 (c79 x).f7.f0, .slice B14 (c79 x).f7.f1.length d14, .slice B15 (c79 x).f7.f2.length d15]) [.int .i64 (c79 x).f0, .string (c79 x).f1, .int .i64 (c79 x).f2, .slice B3 x.f3.length d3, .int .i64 (c79 x).f4.f0, .int .i64 (c79 x).f4.f1, .string (c79 x).f4.f2, .int .i64 (c79 x).f5.f0, .int .i64 (c79 x).f5.f1, .string (c79 x).f5.f2, .int .i64 (c79 x).f6.f0, .int .i64 (c79 x).f6.f1, .slice B12 (c79 x).f6.f2.length d12, .int .i64 (c79 x).f7.f0, .slice B14 (c79 x).f7.f1.length d14, .slice B15 (c79 x).f7.f2.length d15] rfl rfl rfl (by kernel_rfl) rfl BR.out (Nat.le_of_ble_eq_true rfl) ?_; intro V11 q1 q2; simp only [putSeg, List.setIfInBounds_toArray, List.set_cons_zero, List.set_cons_succ] at q1; replace BR := Aside0.mk q1; replace BO := Aside0.mk (blk_on BO.out q2 (by omega)); replace G3 := Aside0.mk (Kd.R_grown G3.out q2 (fun k hk => by simp only [ne_eq, Option.some.injEq]; omega)); replace G12 := Aside0.mk (Kd.R_grown G12.out q2 (fun k hk => by simp only [ne_eq, Option.some.injEq]; omega)); replace G14 := Aside0.mk (Kd.R_grown G14.out q2 (fun k hk => by simp only [ne_eq, Option.some.injEq]; omega)); replace G15 := Aside0.mk (Kd.R_grown G15.out q2 (fun k hk => by simp only [ne_eq, Option.some.injEq]; omega)); replace HB := Aside0.mk (on HB.out q2 (by omega)); clear q1 q2))
  refine bodyPost_ret (results_cell_row rfl _ _ _ 86 #[.int .i64 (c79 x).f0, .string (c79 x).f1, .int .i64 (c79 x).f2, .slice B3 x.f3.length d3, .int .i64 (c79 x).f4.f0, .int .i64 (c79 x).f4.f1, .string (c79 x).f4.f2, .int .i64 (c79 x).f5.f0, .int .i64 (c79 x).f5.f1, .string (c79 x).f5.f2, .int .i64 (c79 x).f6.f0, .int .i64 (c79 x).f6.f1, .slice B12 (c79 x).f6.f2.length d12, .int .i64 (c79 x).f7.f0, .slice B14 (c79 x).f7.f1.length d14, .slice B15 (c79 x).f7.f2.length d15] (0, 0) _ rfl BR.out Try.underlying86 rfl (by kernel_rfl)) rfl ?_
  exact ⟨_, rfl, k86_mkM _ _ _ (c79 x) (Kd.R_mono G3.out (fun _ _ => trivial)) (Kd.R_mono G12.out (fun _ _ => trivial)) (Kd.R_mono G14.out (fun _ _ => trivial)) (Kd.R_mono G15.out (fun _ _ => trivial)), HB.out⟩

theorem sums_le64 : ∀ {xs : List S64} {y : S64}, y ∈ xs → hold64 y ≤ sums hold64 xs
  | [], _, hy => by cases hy
  | x :: xs, y, hy => by
    have h0 := hold64.nn x
    have h1 := sums_nn hold64.nn xs
    unfold sums
    rcases List.mem_cons.1 hy with rfl | hy
    · omega
    · have := sums_le64 hy
      omega

theorem small79 {x : S79} (h : hold79 x ≤ 1048576) : s79 x := by
  unfold hold79 at h
  have n1 : 0 ≤ (x.f1.size : Int) := (Int.natCast_nonneg _)
  have n3 : 0 ≤ ((x.f3.length : Int) + sums hold64 x.f3) := (Int.add_nonneg (Int.natCast_nonneg _) (sums_nn hold64.nn x.f3))
  have n4 : 0 ≤ (hold75 x.f4) := (hold75.nn x.f4)
  have n5 : 0 ≤ (hold77 x.f5) := (hold77.nn x.f5)
  have n6 : 0 ≤ (hold54 x.f6) := (hold54.nn x.f6)
  have n7 : 0 ≤ (hold33 x.f7) := (hold33.nn x.f7)
  exact ⟨⟨(by have := sums_nn hold64.nn x.f3; omega), fun y hy => small64 (by have := sums_le64 hy; omega)⟩, small54 (by omega), small33 (by omega)⟩

theorem msgFit_of {x : S79} (h : w79 x) : msgFit (c79 x) :=
  ⟨h.2.1, ⟨by show (x.f3.map c64).length ≤ _; rw [List.length_map]; exact h.2.2.2.1.1, fun b hb => by
    obtain ⟨y, hy, rfl⟩ := List.mem_map.1 hb
    exact blockFit_of (h.2.2.2.1.2 y hy)⟩, h.2.2.2.2.1.2.2, h.2.2.2.2.2.1.2.2, h.2.2.2.2.2.2.1.2.2, h.2.2.2.2.2.2.2.2.1, h.2.2.2.2.2.2.2.2.2.1⟩

/-! ### impl_voteOk: function 108 -/
def impl_voteOk.f (k : Nat) (a0_0 : Int) (a0_1 : Int) (a0_2 : ByteArray) : Option (Bool) := (impl_inRange.f a0_0 1 10000).bind fun t1033 => (if t1033 = true then ((impl_inRange.f a0_1 0 100000).bind fun t1034 => (if t1034 = true then ((impl_NameOk.f k a0_2).bind fun t1035 => (some t1035)) else (some false))) else (some false))
theorem impl_voteOk.mono : ∀ a0 a1 a2 k, LeO (impl_voteOk.f k a0 a1 a2) (impl_voteOk.f (k + 1) a0 a1 a2) := by
  intro a0 a1 a2 k
  unfold impl_voteOk.f
  repeat' first
      | (with_reducible exact impl_NameOk.mono _ _)
      | (with_reducible exact LeO.refl _)
      | (with_reducible exact LeO.none _)
      | (with_reducible refine LeO.ite ?_ ?_)
      | (with_reducible refine LeO.bind ?_ (fun _ => ?_))
      | exact impl_NameOk.mono _ _
      | exact LeO.none _
      | refine LeO.ite ?_ ?_
      | refine LeO.bind ?_ (fun _ => ?_)
set_option maxHeartbeats 8000000 in
set_option maxRecDepth 100000 in
theorem impl_voteOk.calls (k : Nat) (a0_0 : Int) (a0_1 : Int) (a0_2 : ByteArray) (r : Bool) (w : World) (h : impl_voteOk.f k a0_0 a0_1 a0_2 = some r) :
    Calls Try.prog 108 #[.agg #[.int .i64 a0_0, .int .i64 a0_1, .string a0_2]] w fun e w' => e = .returned (.bool r) ∧ Below w.heap.size w w' := by
  have hu83 := Try.underlying83
  have HB := Aside0.mk (Below.refl w.heap.size w)
  have H : ((impl_inRange.f a0_0 1 10000).bind fun t1033 => (if t1033 = true then ((impl_inRange.f a0_1 0 100000).bind fun t1034 => (if t1034 = true then ((impl_NameOk.f k a0_2).bind fun t1035 => (some t1035)) else (some false))) else (some false))) = some r := h
  clear h
  replace H := Option.bind_eq_some_iff.mp H
  obtain ⟨t1033, A20, H⟩ := H
  replace H : (if t1033 = true then ((impl_inRange.f a0_1 0 100000).bind fun t1034 => (if t1034 = true then ((impl_NameOk.f k a0_2).bind fun t1035 => (some t1035)) else (some false))) else (some false)) = some r := H
  have A2 := Aside0.mk A20
  clear A20
  by_cases c3 : t1033 = true
  · subst c3
    have H1 : ((impl_inRange.f a0_1 0 100000).bind fun t1034 => (if t1034 = true then ((impl_NameOk.f k a0_2).bind fun t1035 => (some t1035)) else (some false))) = some r := by rw [if_pos rfl] at H; exact H
    clear H
    have H := H1
    clear H1
    replace H := Option.bind_eq_some_iff.mp H
    obtain ⟨t1034, A40, H⟩ := H
    replace H : (if t1034 = true then ((impl_NameOk.f k a0_2).bind fun t1035 => (some t1035)) else (some false)) = some r := H
    have A4 := Aside0.mk A40
    clear A40
    by_cases c5 : t1034 = true
    · subst c5
      have H1 : ((impl_NameOk.f k a0_2).bind fun t1035 => (some t1035)) = some r := by rw [if_pos rfl] at H; exact H
      clear H
      have H := H1
      clear H1
      replace H := Option.bind_eq_some_iff.mp H
      obtain ⟨t1035, A60, H⟩ := H
      replace H : (some t1035) = some r := H
      have A6 := Aside0.mk A60
      clear A60
      obtain rfl := Option.some.inj H
      go_enter Try.func108, Try.ntmps108
      go_wp2_with (first | ((with_reducible refine gate_dst (N := 1) rfl ?_); refine box_event ?hg (N := 1) ?hd (cs := #[.int .i64 a0_0, .int .i64 a0_1, .string a0_2]) (t := 83) ?hr ?_; (case hd => rfl); (case hg => rfl); (case hr => first | (go_simp; done) | (go_simp; rfl)); intro gb1032 hg w7 hbox hb; have n0_ := Aside0.mk (below_step (by repeat (first | (with_reducible first | exact HB.out | apply below_alloc | apply pw_below_drewN | apply below_drew1) | exact HB.out)) hb); have n1_ := Aside0.mk (hbox); have n2_ := Aside0.mk ((by rw [hg]; exact (below_size (by repeat (first | (with_reducible first | exact HB.out | apply below_alloc | apply pw_below_drewN | apply below_drew1) | exact HB.out))) : w.heap.size ≤ gb1032)); have n3_ := n2_; clear HB; have HB := n0_; have BK1032 := n1_; have GW1032 := n2_; have GE1032 := n3_; clear n0_ n1_ n2_ n3_; clear hb hbox hg; obtain ⟨hcz8_0, hcz8_1, hcz8_2⟩ := cells3 BK1032.out; obtain ⟨hfz8_0, hfz8_1, hfz8_2⟩ := frozens3 BK1032.out) | ((with_reducible refine gate_callee (f := 66) rfl ?_); refine goesL_ (some 5) rfl rfl Try.func66 (by kernel_rfl) rfl #[.int .i64 a0_0, .int .i64 1, .int .i64 10000] rfl (by (try simp only [List.map_toArray, List.map_cons, List.map_nil]); first | done | rfl | (simp only [List.length_drop, List.length_take]; rfl)) ?_; (with_reducible refine (impl_inRange.calls a0_0 1 10000 true _ A2.out).mono ?_); rintro e w' ⟨rfl, ⟨nd, rfl⟩⟩; refine ⟨_, rfl, ?_⟩) | (go_at_call 66; (with_reducible refine (impl_inRange.calls a0_1 0 100000 true _ A4.out).mono ?_); rintro e w' ⟨rfl, ⟨nd, rfl⟩⟩) | (go_at_call 65; (with_reducible refine (impl_NameOk.calls k a0_2 t1035 _ A6.out).mono ?_); rintro e w' ⟨rfl, ⟨nd, rfl⟩⟩))
      go_ret
      exact ⟨by first | rfl | (simp [errW_none, errW_some] <;> rfl) | (simp [*, errW_none, errW_some] <;> rfl), by repeat (first | (with_reducible first | exact HB.out | apply below_alloc | apply pw_below_drewN | apply below_drew1 | refine below_set ?_ GE1032.out) | exact HB.out)⟩
    · replace c5 := Bool.eq_false_iff.mpr c5
      subst c5
      have H1 : (some false) = some r := by rw [if_neg (show ¬ (false = true) by decide)] at H; exact H
      clear H
      have H := H1
      clear H1
      obtain rfl := Option.some.inj H
      go_enter Try.func108, Try.ntmps108
      go_wp2_with (first | ((with_reducible refine gate_dst (N := 1) rfl ?_); refine box_event ?hg (N := 1) ?hd (cs := #[.int .i64 a0_0, .int .i64 a0_1, .string a0_2]) (t := 83) ?hr ?_; (case hd => rfl); (case hg => rfl); (case hr => first | (go_simp; done) | (go_simp; rfl)); intro gb1032 hg w9 hbox hb; have n0_ := Aside0.mk (below_step (by repeat (first | (with_reducible first | exact HB.out | apply below_alloc | apply pw_below_drewN | apply below_drew1) | exact HB.out)) hb); have n1_ := Aside0.mk (hbox); have n2_ := Aside0.mk ((by rw [hg]; exact (below_size (by repeat (first | (with_reducible first | exact HB.out | apply below_alloc | apply pw_below_drewN | apply below_drew1) | exact HB.out))) : w.heap.size ≤ gb1032)); have n3_ := n2_; clear HB; have HB := n0_; have BK1032 := n1_; have GW1032 := n2_; have GE1032 := n3_; clear n0_ n1_ n2_ n3_; clear hb hbox hg; obtain ⟨hcz10_0, hcz10_1, hcz10_2⟩ := cells3 BK1032.out; obtain ⟨hfz10_0, hfz10_1, hfz10_2⟩ := frozens3 BK1032.out) | ((with_reducible refine gate_callee (f := 66) rfl ?_); refine goesL_ (some 5) rfl rfl Try.func66 (by kernel_rfl) rfl #[.int .i64 a0_0, .int .i64 1, .int .i64 10000] rfl (by (try simp only [List.map_toArray, List.map_cons, List.map_nil]); first | done | rfl | (simp only [List.length_drop, List.length_take]; rfl)) ?_; (with_reducible refine (impl_inRange.calls a0_0 1 10000 true _ A2.out).mono ?_); rintro e w' ⟨rfl, ⟨nd, rfl⟩⟩; refine ⟨_, rfl, ?_⟩) | (go_at_call 66; (with_reducible refine (impl_inRange.calls a0_1 0 100000 false _ A4.out).mono ?_); rintro e w' ⟨rfl, ⟨nd, rfl⟩⟩))
      go_ret
      exact ⟨by first | rfl | (simp [errW_none, errW_some] <;> rfl) | (simp [*, errW_none, errW_some] <;> rfl), by repeat (first | (with_reducible first | exact HB.out | apply below_alloc | apply pw_below_drewN | apply below_drew1 | refine below_set ?_ GE1032.out) | exact HB.out)⟩
  · replace c3 := Bool.eq_false_iff.mpr c3
    subst c3
    have H1 : (some false) = some r := by rw [if_neg (show ¬ (false = true) by decide)] at H; exact H
    clear H
    have H := H1
    clear H1
    obtain rfl := Option.some.inj H
    go_enter Try.func108, Try.ntmps108
    go_wp2_with (first | ((with_reducible refine gate_dst (N := 1) rfl ?_); refine box_event ?hg (N := 1) ?hd (cs := #[.int .i64 a0_0, .int .i64 a0_1, .string a0_2]) (t := 83) ?hr ?_; (case hd => rfl); (case hg => rfl); (case hr => first | (go_simp; done) | (go_simp; rfl)); intro gb1032 hg w11 hbox hb; have n0_ := Aside0.mk (below_step (by repeat (first | (with_reducible first | exact HB.out | apply below_alloc | apply pw_below_drewN | apply below_drew1) | exact HB.out)) hb); have n1_ := Aside0.mk (hbox); have n2_ := Aside0.mk ((by rw [hg]; exact (below_size (by repeat (first | (with_reducible first | exact HB.out | apply below_alloc | apply pw_below_drewN | apply below_drew1) | exact HB.out))) : w.heap.size ≤ gb1032)); have n3_ := n2_; clear HB; have HB := n0_; have BK1032 := n1_; have GW1032 := n2_; have GE1032 := n3_; clear n0_ n1_ n2_ n3_; clear hb hbox hg; obtain ⟨hcz12_0, hcz12_1, hcz12_2⟩ := cells3 BK1032.out; obtain ⟨hfz12_0, hfz12_1, hfz12_2⟩ := frozens3 BK1032.out) | ((with_reducible refine gate_callee (f := 66) rfl ?_); refine goesL_ (some 5) rfl rfl Try.func66 (by kernel_rfl) rfl #[.int .i64 a0_0, .int .i64 1, .int .i64 10000] rfl (by (try simp only [List.map_toArray, List.map_cons, List.map_nil]); first | done | rfl | (simp only [List.length_drop, List.length_take]; rfl)) ?_; (with_reducible refine (impl_inRange.calls a0_0 1 10000 false _ A2.out).mono ?_); rintro e w' ⟨rfl, ⟨nd, rfl⟩⟩; refine ⟨_, rfl, ?_⟩))
    go_ret
    exact ⟨by first | rfl | (simp [errW_none, errW_some] <;> rfl) | (simp [*, errW_none, errW_some] <;> rfl), by repeat (first | (with_reducible first | exact HB.out | apply below_alloc | apply pw_below_drewN | apply below_drew1 | refine below_set ?_ GE1032.out) | exact HB.out)⟩

theorem impl_voteOk.is {r b : Int} {s : ByteArray} (hs : s.size ≤ maxLen) : Ev (fun k => impl_voteOk.f k r b s) (voteOk r b s) := by
  unfold impl_voteOk.f voteOk
  simp only [impl_inRange.is, Option.bind_some]
  exact Ev.band (Ev.band (Ev.bind (impl_NameOk.is hs) (Ev.now _)))

/-! ### laws_eqBlockS: printed by compact.py -/
set_option maxHeartbeats 2000000 in
set_option maxRecDepth 100000 in
theorem laws_eqBlockS.same {xs : List S68} (hl : (fun l : List S68 => l.length ≤ 9223372036854775807 ∧ ∀ x ∈ l, l68 x) xs) {B D : Option Addr} {c d : Nat} {w : World} (hr : Kd.C k68 w B xs.length xs) (hc : xs.length ≤ c) (hs : Kd.C k68 w D xs.length xs) (hd : xs.length ≤ d) :
    Calls Try.prog 110 #[.slice B xs.length c, .slice D xs.length d] w fun e w' => e = .returned (.bool true) ∧ Below w.heap.size w w' := by
  have hn : (xs.length : Int) ≤ 9223372036854775807 := by have := hl.1; omega
  have HR := Aside0.mk hr
  have HS := Aside0.mk hs
  have HL := Aside0.mk hl.2
  clear hr hs hl
  go_enter Try.func110, Try.ntmps110
  go_wp2
  go_loopg [5] xs.length (fun g v5 w' => ∃ (i : Int) (e : On w), v5 = .int .i64 i ∧ w' = e.now ∧ 0 ≤ i ∧ i ≤ xs.length ∧ Aside0 ((xs.length : Int) - i ≤ g))
  case atStart => exact ⟨0, On.here w, rfl, rfl, Int.le_refl _, by omega, ⟨by omega⟩⟩
  case round =>
    obtain ⟨i, e, rfl, rfl, hi0, hi1, HG⟩ := hrel
    by_cases c1 : i < (xs.length : Int)
    rotate_left
    · go_wp2
      go_ret
      exact ⟨rfl, e.ok⟩
    obtain ⟨ad, A6, a6, A8, a8, A9, a9, A10, a10, A12, a12, e1, h0, h1, h2, h3, h4, h5, h6, h7, h8, h9, h10, h11, h12, h13, l6, g6, l8, g8, l9, g9, l10, g10, l12, g12⟩ := at_T68 HR.out i hi0 c1
    cases e1
    obtain ⟨ad', D6, d6, D8, d8, D9, d9, D10, d10, D12, d12, e1, k0, k1, k2, k3, k4, k5, k6, k7, k8, k9, k10, k11, k12, k13, m6, n6, m8, n8, m9, n9, m10, n10, m12, n12⟩ := at_T68 HS.out i hi0 c1
    cases e1
    have E1 := Aside0.mk (fun e : On w => laws_eqBlock.same (x := (rd_T68 xs i)) (HL.out _ (getD_mem (by omega) z68)) (k68_mk e.now (rd_T68 xs i) l6 (On.row g6 e) l8 (On.row g8 e) l9 (On.row g9 e) l10 (On.row g10 e) l12 (On.row g12 e)) (k68_mk e.now (rd_T68 xs i) m6 (On.row n6 e) m8 (On.row n8 e) m9 (On.row n9 e) m10 (On.row n10 e) m12 (On.row n12 e)))
    have R0 := On.cell h0
    have S0 := On.cell k0
    have R1 := On.cell h1
    have S1 := On.cell k1
    have R2 := On.cell h2
    have S2 := On.cell k2
    have R3 := On.cell h3
    have S3 := On.cell k3
    have R4 := On.cell h4
    have S4 := On.cell k4
    have R5 := On.cell h5
    have S5 := On.cell k5
    have R6 := On.cell h6
    have S6 := On.cell k6
    have R7 := On.cell h7
    have S7 := On.cell k7
    have R8 := On.cell h8
    have S8 := On.cell k8
    have R9 := On.cell h9
    have S9 := On.cell k9
    have R10 := On.cell h10
    have S10 := On.cell k10
    have R11 := On.cell h11
    have S11 := On.cell k11
    have R12 := On.cell h12
    have S12 := On.cell k12
    have R13 := On.cell h13
    have S13 := On.cell k13
    clear h0 k0 h1 k1 h2 k2 h3 k3 h4 k4 h5 k5 h6 k6 h7 k7 h8 k8 h9 k9 h10 k10 h11 k11 h12 k12 h13 k13 l6 g6 m6 n6 l8 g8 m8 n8 l9 g9 m9 n9 l10 g10 m10 n10 l12 g12 m12 n12
    go_wp2
    refine BW.region (by kernel_rfl) (by kernel_rfl) ?_
    repeat (go_big_quiet_step (first | exact BW.quiet (E1.out _)))
    refine wpQuiet_nil ?_
    rintro _ ⟨e2, rfl⟩
    go_wp2
    go_roundg (xs.length - i.toNat - 1)
    case measure => have := HG.out; omega
    case rel => exact ⟨i + 1, e2, rfl, rfl, by omega, by omega, ⟨by omega⟩⟩

/-! ### laws_eqVote: printed by compact.py -/
set_option maxHeartbeats 2000000 in
set_option maxRecDepth 100000 in
theorem laws_eqVote.same {x : S83} {cs ds : List Value} {w : World} (hK : k83.K w x cs) (hL : k83.K w x ds) :
    Calls Try.prog 111 #[.agg cs.toArray, .agg ds.toArray] w fun e w' => e = .returned (.bool true) ∧ Below w.heap.size w w' := by
  obtain rfl := k83_open hK
  obtain rfl := k83_open hL
  clear hK hL 
  go_enter Try.func111, Try.ntmps111
  go_wp2
  go_ret
  exact ⟨rfl, atop (atop (Below.refl _ _))⟩

/-! ### laws_eqGone: printed by compact.py -/
set_option maxHeartbeats 2000000 in
set_option maxRecDepth 100000 in
theorem laws_eqGone.same {x : S84} {cs ds : List Value} {w : World} (hK : k84.K w x cs) (hL : k84.K w x ds) :
    Calls Try.prog 112 #[.agg cs.toArray, .agg ds.toArray] w fun e w' => e = .returned (.bool true) ∧ Below w.heap.size w w' := by
  obtain rfl := k84_open hK
  obtain rfl := k84_open hL
  clear hK hL 
  go_enter Try.func112, Try.ntmps112
  go_wp2
  go_ret
  exact ⟨rfl, atop (atop (Below.refl _ _))⟩

/-! ### laws_eqMsg: printed by compact.py -/
def l86 (x : S86) : Prop := (fun l : List S68 => l.length ≤ 9223372036854775807 ∧ ∀ x ∈ l, l68 x) x.f3 ∧ l57 x.f6 ∧ l36 x.f7
set_option maxHeartbeats 2000000 in
set_option maxRecDepth 100000 in
theorem laws_eqMsg.same {x : S86} (hl : l86 x) {cs ds : List Value} {w : World} (hK : k86.K w x cs) (hL : k86.K w x ds) :
    Calls Try.prog 59 #[.agg cs.toArray, .agg ds.toArray] w fun e w' => e = .returned (.bool true) ∧ Below w.heap.size w w' := by
  obtain ⟨A3, a3, A12, a12, A14, a14, A15, a15, rfl, l3, g3, l12, g12, l14, g14, l15, g15⟩ := k86_open hK
  obtain ⟨D3, d3, D12, d12, D14, d14, D15, d15, rfl, m3, n3, m12, n12, m14, n14, m15, n15⟩ := k86_open hL
  have E3 := Aside0.mk (fun (W : World) (hb : Below w.heap.size w W) => laws_eqBlockS.same (w := W) (hl.1) (Kd.C_below g3 hb) l3 (Kd.C_below n3 hb) m3)
  have E4 := Aside0.mk (fun (W : World) (hb : Below w.heap.size w W) => laws_eqVote.same (w := W) (k83_mk W x.f4) (k83_mk W x.f4))
  have E5 := Aside0.mk (fun (W : World) (hb : Below w.heap.size w W) => laws_eqGone.same (w := W) (k84_mk W x.f5) (k84_mk W x.f5))
  have E6 := Aside0.mk (fun (W : World) (hb : Below w.heap.size w W) => laws_eqQc.same (w := W) (hl.2.1) (k57_mk W x.f6 l12 (Kd.C_below g12 hb)) (k57_mk W x.f6 m12 (Kd.C_below n12 hb)))
  have E7 := Aside0.mk (fun (W : World) (hb : Below w.heap.size w W) => laws_eqTc.same (w := W) (hl.2.2) (k36_mk W x.f7 l14 (Kd.C_below g14 hb) l15 (Kd.C_below g15 hb)) (k36_mk W x.f7 m14 (Kd.C_below n14 hb) m15 (Kd.C_below n15 hb)))
  clear hl hK hL l3 g3 m3 n3 l12 g12 m12 n12 l14 g14 m14 n14 l15 g15 m15 n15
  go_enter Try.func59, Try.ntmps59
  go_wp2_with fail
  refine (E3.out _ (atop (atop (Below.refl _ _)))).mono ?_
  rintro _ W1 ⟨rfl, hb⟩
  have BX := Aside0.mk (boxA hb)
  have BY := Aside0.mk (boxB hb)
  have HB := Aside0.mk (off1 (off1 hb))
  clear hb E3
  obtain ⟨b0, b1, b2, b3, b4, b5, b6, b7, b8, b9, b10, b11, b12, b13, b14, b15⟩ := cells16 BX.out
  obtain ⟨y0, y1, y2, y3, y4, y5, y6, y7, y8, y9, y10, y11, y12, y13, y14, y15⟩ := cells16 BY.out
  go_wp2_with fail
  refine (E4.out _ HB.out).mono ?_
  rintro _ W1 ⟨rfl, hb⟩
  clear b0 y0 b1 y1 b2 y2 b3 y3 b4 y4 b5 y5 b6 y6 b7 y7 b8 y8 b9 y9 b10 y10 b11 y11 b12 y12 b13 y13 b14 y14 b15 y15
  replace BX := Aside0.mk (blk_below BX.out hb)
  replace BY := Aside0.mk (blk_below BY.out hb)
  replace HB := Aside0.mk (then_ HB.out hb)
  clear hb E4
  obtain ⟨b0, b1, b2, b3, b4, b5, b6, b7, b8, b9, b10, b11, b12, b13, b14, b15⟩ := cells16 BX.out
  obtain ⟨y0, y1, y2, y3, y4, y5, y6, y7, y8, y9, y10, y11, y12, y13, y14, y15⟩ := cells16 BY.out
  go_wp2_with fail
  refine (E5.out _ HB.out).mono ?_
  rintro _ W1 ⟨rfl, hb⟩
  clear b0 y0 b1 y1 b2 y2 b3 y3 b4 y4 b5 y5 b6 y6 b7 y7 b8 y8 b9 y9 b10 y10 b11 y11 b12 y12 b13 y13 b14 y14 b15 y15
  replace BX := Aside0.mk (blk_below BX.out hb)
  replace BY := Aside0.mk (blk_below BY.out hb)
  replace HB := Aside0.mk (then_ HB.out hb)
  clear hb E5
  obtain ⟨b0, b1, b2, b3, b4, b5, b6, b7, b8, b9, b10, b11, b12, b13, b14, b15⟩ := cells16 BX.out
  obtain ⟨y0, y1, y2, y3, y4, y5, y6, y7, y8, y9, y10, y11, y12, y13, y14, y15⟩ := cells16 BY.out
  go_wp2_with fail
  refine (E6.out _ HB.out).mono ?_
  rintro _ W1 ⟨rfl, hb⟩
  clear b0 y0 b1 y1 b2 y2 b3 y3 b4 y4 b5 y5 b6 y6 b7 y7 b8 y8 b9 y9 b10 y10 b11 y11 b12 y12 b13 y13 b14 y14 b15 y15
  replace BX := Aside0.mk (blk_below BX.out hb)
  replace BY := Aside0.mk (blk_below BY.out hb)
  replace HB := Aside0.mk (then_ HB.out hb)
  clear hb E6
  obtain ⟨b0, b1, b2, b3, b4, b5, b6, b7, b8, b9, b10, b11, b12, b13, b14, b15⟩ := cells16 BX.out
  obtain ⟨y0, y1, y2, y3, y4, y5, y6, y7, y8, y9, y10, y11, y12, y13, y14, y15⟩ := cells16 BY.out
  go_wp2_with fail
  refine (E7.out _ HB.out).mono ?_
  rintro _ W1 ⟨rfl, hb⟩
  clear b0 y0 b1 y1 b2 y2 b3 y3 b4 y4 b5 y5 b6 y6 b7 y7 b8 y8 b9 y9 b10 y10 b11 y11 b12 y12 b13 y13 b14 y14 b15 y15
  replace BX := Aside0.mk (blk_below BX.out hb)
  replace BY := Aside0.mk (blk_below BY.out hb)
  replace HB := Aside0.mk (then_ HB.out hb)
  clear hb E7
  obtain ⟨b0, b1, b2, b3, b4, b5, b6, b7, b8, b9, b10, b11, b12, b13, b14, b15⟩ := cells16 BX.out
  obtain ⟨y0, y1, y2, y3, y4, y5, y6, y7, y8, y9, y10, y11, y12, y13, y14, y15⟩ := cells16 BY.out
  go_wp2
  go_ret
  exact ⟨rfl, HB.out⟩

theorem long79 {x : S79} (h : s79 x) : l86 (c79 x) := by
  exact ⟨⟨by show (x.f3.map c64).length ≤ _; rw [List.length_map]; exact Nat.le_trans h.1.1 (by decide), fun y hy => by obtain ⟨z, hz, rfl⟩ := List.mem_map.1 hy; exact long64 (h.1.2 z hz)⟩, long54 h.2.1, long33 h.2.2⟩

end Go.Proofs.Ytieecjilnaijkaa.F
