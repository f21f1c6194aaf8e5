/-
Functions of the program, what they come to, and that Go comes to just that: laws_szTx, laws_szTxS, laws_toTx, laws_toTxS.
Conditions: those that each theorem names.
-/
import Derived.Test.YtadkhkpchankjaaFAbs
import Derived.Test.YtadkhkpchankjaaFew
import Derived.Test.YtadkhkpchankjaaFam
set_option linter.unusedVariables false
set_option linter.unusedSimpArgs false
namespace Go.Proofs.Ytadkhkpchankjaa.F
open Go.RowKit Go.Proofs.YtadkhkpchankjaaW.PrintWords Go.Proofs.YtadkhkpchankjaaW.PrintLast Go.Proofs.Ytadkhkpchankjaa.Base Go.Proofs.Ytadkhkpchankjaa.BW
open Go.Proofs.Ytadkhkpchankjaa.FamW
open Go.Proofs.Ytadkhkpchankjaa.Few

/-! ### laws_szTx: printed by compact.py -/
/-- How much a value of struct type 191 holds. -/
def hold191 (x : S191) : Int := (x.f1.size : Int) + ((x.f2.size : Int) + (0))
theorem hold191.nn (x : S191) : 0 ≤ hold191 x := by
  unfold hold191
  have n1 := (show 0 ≤ (x.f1.size : Int) from (Int.natCast_nonneg _))
  have n2 := (show 0 ≤ (x.f2.size : Int) from (Int.natCast_nonneg _))
  omega
set_option maxHeartbeats 2000000 in
set_option maxRecDepth 100000 in
theorem laws_szTx.does {x : S191} {left : Int} (hw : w191 x) (h0 : 0 ≤ left) (h1 : left ≤ 1048576) {cs : List Value} {w : World} (hK : k191.K w x cs) :
    Calls Try.prog 165 #[.agg cs.toArray, .int .i64 left] w fun e w' => e = .returned (.int .i64 (szR (hold191 x) left)) ∧ Below w.heap.size w w' := by
  obtain rfl := k191_open hK
  obtain ⟨r, hR⟩ : ∃ r, szR (hold191 x) left = r := ⟨_, rfl⟩
  rw [hR]
  unfold hold191 at hR
  have n1 : 0 ≤ (x.f1.size : Int) := (Int.natCast_nonneg _)
  have z1 : (x.f1.size : Int) ≤ 9223372036854775807 := by have h := hw.2.1; have : maxLen = 9223372036854775807 := rfl; omega
  have n2 : 0 ≤ (x.f2.size : Int) := (Int.natCast_nonneg _)
  have z2 : (x.f2.size : Int) ≤ 9223372036854775807 := by have h := hw.2.2.1; have : maxLen = 9223372036854775807 := rfl; omega
  obtain ⟨m1, hm1⟩ : ∃ m : Int, m = (x.f1.size : Int) := ⟨_, rfl⟩
  obtain ⟨m2, hm2⟩ : ∃ m : Int, m = (x.f2.size : Int) := ⟨_, rfl⟩
  rw [← hm1] at hR n1 z1
  rw [← hm2] at hR n2 z2
  clear hw hK
  have HR := Aside0.mk hR
  clear hR
  have HM1 := Aside0.mk hm1
  clear hm1
  have HM2 := Aside0.mk hm2
  clear hm2
  have HB := Aside0.mk (Below.refl w.heap.size w)
  go_enter Try.func165, Try.ntmps165
  by_cases d1 : m1 ≤ left
  rotate_left
  · have H1 : Aside0 (r = -1) := ⟨HR.out ▸ szR_no (by omega)⟩
    have c_ : decide (left - ((x.f1.size : Int) : Int) < 0) = true := decide_eq_true (by have := HM1.out; omega)
    have z_ : (x.f1.size : Int) ≤ 9223372036854775807 := by have := HM1.out; omega
    clear d1 HR
    go_wp2
    go_ret
    exact ⟨by obtain rfl := H1.out; rfl, atop HB.out⟩
  replace HR := Aside0.mk ((sz_part d1).symm.trans HR.out)
  have HN1 := HM1.out
  subst HN1
  clear HM1
  have c_1 : decide (left - ((x.f1.size : Int)) < 0) = false := decide_eq_false (by omega)
  have p_1 : 0 ≤ left - (x.f1.size : Int) := by omega
  have q_1 : left - (x.f1.size : Int) ≤ 1048576 := by omega
  clear d1
  by_cases d2 : m2 ≤ left - (x.f1.size : Int)
  rotate_left
  · have H1 : Aside0 (r = -1) := ⟨HR.out ▸ szR_no (by omega)⟩
    have c_ : decide (left - (x.f1.size : Int) - ((x.f2.size : Int) : Int) < 0) = true := decide_eq_true (by have := HM2.out; omega)
    have z_ : (x.f2.size : Int) ≤ 9223372036854775807 := by have := HM2.out; omega
    clear d2 HR
    go_wp2
    go_ret
    exact ⟨by obtain rfl := H1.out; rfl, atop HB.out⟩
  replace HR := Aside0.mk ((sz_part d2).symm.trans HR.out)
  have HN2 := HM2.out
  subst HN2
  clear HM2
  have c_2 : decide (left - (x.f1.size : Int) - ((x.f2.size : Int)) < 0) = false := decide_eq_false (by omega)
  have p_2 : 0 ≤ left - (x.f1.size : Int) - (x.f2.size : Int) := by omega
  have q_2 : left - (x.f1.size : Int) - (x.f2.size : Int) ≤ 1048576 := by omega
  clear d2
  have H1 := Aside0.mk (HR.out.symm.trans (szR_zero (by omega)))
  clear HR
  go_wp2
  go_ret
  exact ⟨by obtain rfl := H1.out; rfl, atop HB.out⟩

/-! ### laws_szTxS: printed by compact.py -/
set_option maxHeartbeats 1000000 in
set_option maxRecDepth 100000 in
theorem laws_szTxS.does {xs : List S191} {left : Int} (hw : (fun l : List S191 => l.length ≤ maxLen ∧ ∀ x ∈ l, w191 x) xs) (h0 : 0 ≤ left) (h1 : left ≤ 1048576) {B : Option Addr} {c : Nat} {w : World} (hr : Kd.C k191 w B xs.length xs) (hc : xs.length ≤ c) :
    Calls Try.prog 83 #[.slice B xs.length c, .int .i64 left] w fun e w' => e = .returned (.int .i64 (szR ((xs.length : Int) + sums hold191 xs) left)) ∧ Below w.heap.size w w' := by
  have hlen : (xs.length : Int) ≤ 9223372036854775807 := by have h := hw.1; have : maxLen = 9223372036854775807 := rfl; omega
  have hnn := sums_nn (h := hold191) hold191.nn xs
  obtain ⟨r, hR⟩ : ∃ r, szR ((xs.length : Int) + sums hold191 xs) left = r := ⟨_, rfl⟩
  rw [hR]
  by_cases c0 : (xs.length : Int) ≤ left
  rotate_left
  · have H0 : r = -1 := hR ▸ szR_no (by omega)
    have c0' : decide (left - (xs.length : Int) < 0) = true := decide_eq_true (by omega)
    clear hw hr hc hR c0 hnn
    subst H0
    go_enter Try.func83, Try.ntmps83
    go_wp2
    go_ret
    exact ⟨rfl, Below.refl _ _⟩
  have c0' : decide (left - (xs.length : Int) < 0) = false := decide_eq_false (by omega)
  have HT := Aside0.mk (sz_first (h := hold191) hold191.nn hR c0)
  have HR := Aside0.mk hr
  have HW := Aside0.mk hw.2
  have hb0 : left - (xs.length : Int) ≤ 1048576 := by omega
  have hb1 : 0 ≤ left - (xs.length : Int) := by omega
  clear hw hr hR hnn
  go_enter Try.func83, Try.ntmps83
  go_wp2
  go_loopg [1, 5] xs.length (fun g v1 v5 w' => ∃ (s i : Int) (e : On w), v1 = .int .i64 s ∧ v5 = .int .i64 i ∧ w' = e.now ∧ 0 ≤ i ∧ i ≤ xs.length ∧ 0 ≤ s ∧ s ≤ 1048576 ∧ Aside0 ((xs.length : Int) - i ≤ g) ∧ Aside0 (szR (sums hold191 (xs.drop i.toNat)) s = r))
  case atStart => exact ⟨_, 0, On.here w, rfl, rfl, rfl, Int.le_refl _, by omega, hb1, hb0, ⟨by omega⟩, HT⟩
  case round =>
    clear HT c0 hb0 hb1 c0' h0 h1
    obtain ⟨s, i, e, rfl, rfl, rfl, hi0, hi1, hs0, hs1, HG, HT⟩ := hrel
    by_cases c1 : i < (xs.length : Int)
    rotate_left
    · have HF := Aside0.mk (sz_end (by omega) hs0 HT.out)
      go_wp2
      go_ret
      exact ⟨by obtain rfl := HF.out; rfl, e.ok⟩
    obtain ⟨ad, e1, h0, h1, h2, h3, h4⟩ := at_T191 HR.out i hi0 c1
    cases e1
    have R0 := On.cell h0
    have R1 := On.cell h1
    have R2 := On.cell h2
    have R3 := On.cell h3
    have R4 := On.cell h4
    have hz : xs.getD i.toNat z191 = rd_T191 xs i := rfl
    have E1 := Aside0.mk (fun e : On w => laws_szTx.does (HW.out _ (getD_mem (by omega) z191)) hs0 hs1 (k191_mk e.now (rd_T191 xs i)))
    obtain ⟨m, hm⟩ : ∃ m, hold191 (rd_T191 xs i) = m := ⟨_, rfl⟩
    have hm0 : 0 ≤ m := hm ▸ hold191.nn _
    simp only [show xs.getD i.toNat z191 = rd_T191 xs i from rfl, hm] at E1
    clear h0 h1 h2 h3 h4
    by_cases c2 : m ≤ s
    rotate_left
    · have H1 := Aside0.mk (sz_over (z := z191) hold191.nn hi0 c1 HT.out (by rw [hz, hm]; omega))
      rw [szR_no (by omega)] at E1
      clear hz hm c2 hm0
      go_wp2_with fail
      refine BW.call (E1.out _) (fun e2 => ?_)
      go_wp2
      go_ret
      exact ⟨by obtain rfl := H1.out; rfl, e2.ok⟩
    have H1 := Aside0.mk (sz_next (z := z191) hold191.nn hi0 c1 hs0 HT.out (by rw [hz, hm]; omega))
    rw [hz, hm] at H1
    rw [szR_ge c2] at E1
    have c2' : decide (s - m < 0) = false := decide_eq_false (by omega)
    have hq : 0 ≤ s - m := by omega
    have hq2 : s - m ≤ 1048576 := by omega
    clear hz hm c2
    go_wp2_with fail
    refine BW.call (E1.out _) (fun e2 => ?_)
    go_wp2
    go_roundg (xs.length - i.toNat - 1)
    case measure => have := HG.out; omega
    case rel => exact ⟨_, i + 1, e2, rfl, rfl, rfl, by omega, by omega, hq, hq2, ⟨by omega⟩, H1⟩

/-! ### laws_toTx: function 167 -/
def laws_toTx.f (a0_0 : Int) (a0_1 : ByteArray) (a0_2 : ByteArray) (a0_3 : Int) (a0_4 : Int) : Option (Int × ByteArray × ByteArray × Int × Int) := some (a0_0, a0_1, a0_2, a0_3, a0_4)
set_option maxHeartbeats 8000000 in
set_option maxRecDepth 100000 in
theorem laws_toTx.calls (a0_0 : Int) (a0_1 : ByteArray) (a0_2 : ByteArray) (a0_3 : Int) (a0_4 : Int) (r1 : Int) (r2 : ByteArray) (r3 : ByteArray) (r4 : Int) (r5 : Int) (w : World) (h : laws_toTx.f a0_0 a0_1 a0_2 a0_3 a0_4 = some (r1, r2, r3, r4, r5)) :
    Calls Try.prog 167 #[.agg #[.int .i64 a0_0, .string a0_1, .string a0_2, .int .i64 a0_3, .int .i64 a0_4]] w fun e w' => e = .returned (.agg #[.int .i64 r1, .string r2, .string r3, .int .i64 r4, .int .i64 r5]) ∧ Below w.heap.size w w' := by
  have hu191 := Try.underlying191
  have hu186 := Try.underlying186
  have HB := Aside0.mk (Below.refl w.heap.size w)
  have H : (some (a0_0, a0_1, a0_2, a0_3, a0_4)) = some (r1, r2, r3, r4, r5) := h
  clear h
  simp only [Option.some.injEq, Prod.mk.injEq] at H
  obtain ⟨rfl, rfl, rfl, rfl, rfl⟩ := H
  go_enter Try.func167, Try.ntmps167
  go_wp2_with (first | ((with_reducible refine gate_dst (N := 1) rfl ?_); refine box_event ?hg (N := 1) ?hd (cs := #[.int .i64 a0_0, .string a0_1, .string a0_2, .int .i64 a0_3, .int .i64 a0_4]) (t := 191) ?hr ?_; (case hd => rfl); (case hg => rfl); (case hr => first | (go_simp; done) | (go_simp; rfl)); intro gb1552 hg w2 hbox hb; have n0_ := Aside0.mk (below_step (by repeat (first | (with_reducible first | exact HB.out | apply below_alloc | apply pw_below_drewN | apply below_drew1) | exact HB.out)) hb); have n1_ := Aside0.mk (hbox); have n2_ := Aside0.mk ((by rw [hg]; exact (below_size (by repeat (first | (with_reducible first | exact HB.out | apply below_alloc | apply pw_below_drewN | apply below_drew1) | exact HB.out))) : w.heap.size ≤ gb1552)); have n3_ := n2_; clear HB; have HB := n0_; have BK1552 := n1_; have GW1552 := n2_; have GE1552 := n3_; clear n0_ n1_ n2_ n3_; clear hb hbox hg) | ((with_reducible refine gate_dst (N := 2) rfl ?_); refine box_event ?hg (N := 2) ?hd (cs := #[.int .i64 0, .string (⟨#[]⟩ : ByteArray), .string (⟨#[]⟩ : ByteArray), .int .i64 0, .int .i64 0]) (t := 186) ?hr ?_; (case hd => rfl); (case hg => rfl); (case hr => first | (go_simp; done) | (go_simp; rfl)); intro gb1553 hg w3 hbox hb; have n0_ := Aside0.mk (blk_below (g := gb1552) (by (with_reducible repeat (first | refine blk_drewN ?_ _ | refine blk_drew ?_ | refine blk_alloc ?_ _)); exact BK1552.out) hb); have n1_ := Aside0.mk (below_step (by repeat (first | (with_reducible first | exact HB.out | apply below_alloc | apply pw_below_drewN | apply below_drew1 | refine below_set ?_ GE1552.out) | exact HB.out)) hb); have n2_ := Aside0.mk (hbox); have n3_ := Aside0.mk ((by rw [hg]; exact (below_size (by repeat (first | (with_reducible first | exact HB.out | apply below_alloc | apply pw_below_drewN | apply below_drew1 | refine below_set ?_ GE1552.out) | exact HB.out))) : w.heap.size ≤ gb1553)); have n4_ := Aside0.mk ((by rw [hg]; exact (below_size (by repeat (first | (with_reducible first | exact HB.out | apply below_alloc | apply pw_below_drewN | apply below_drew1 | refine below_set ?_ GE1552.out) | exact HB.out))) : w.heap.size ≤ gb1553)); have n5_ := Aside0.mk ((by rw [hg]; exact Nat.ne_of_lt (blk_lt (g := gb1552) (o := .cells #[.int .i64 a0_0, .string a0_1, .string a0_2, .int .i64 a0_3, .int .i64 a0_4] 191 (0, 0)) (by (with_reducible repeat (first | refine blk_drewN ?_ _ | refine blk_drew ?_ | refine blk_alloc ?_ _)); exact BK1552.out)) : gb1552 ≠ gb1553)); have n6_ := Aside0.mk ((by rw [hg]; exact Nat.ne_of_gt (blk_lt (g := gb1552) (o := .cells #[.int .i64 a0_0, .string a0_1, .string a0_2, .int .i64 a0_3, .int .i64 a0_4] 191 (0, 0)) (by (with_reducible repeat (first | refine blk_drewN ?_ _ | refine blk_drew ?_ | refine blk_alloc ?_ _)); exact BK1552.out)) : gb1553 ≠ gb1552)); clear BK1552; clear HB; have BK1552 := n0_; have HB := n1_; have BK1553 := n2_; have GW1553 := n3_; have GE1553 := n4_; have NB1552_1553 := n5_; have NB1553_1552 := n6_; clear n0_ n1_ n2_ n3_ n4_ n5_ n6_; clear hb hbox hg) | ((with_reducible refine gate_dst (N := 3) rfl ?_); refine box_event ?hg (N := 3) ?hd (cs := #[.int .i64 0, .string (⟨#[]⟩ : ByteArray), .string (⟨#[]⟩ : ByteArray), .int .i64 0, .int .i64 0]) (t := 186) ?hr ?_; (case hd => rfl); (case hg => rfl); (case hr => first | (go_simp; done) | (go_simp; rfl)); intro gb1554 hg w4 hbox hb; have n0_ := Aside0.mk (blk_below (g := gb1552) (by (with_reducible repeat (first | refine blk_drewN ?_ _ | refine blk_drew ?_ | refine blk_alloc ?_ _)); exact BK1552.out) hb); have n1_ := Aside0.mk (blk_below (g := gb1553) (o := .cells #[.int .i64 0, .string (⟨#[]⟩ : ByteArray), .string (⟨#[]⟩ : ByteArray), .int .i64 0, .int .i64 0] 186 (0, 0)) (by (with_reducible repeat (first | refine blk_drewN ?_ _ | refine blk_drew ?_ | refine blk_alloc ?_ _)); exact BK1553.out) hb); have n2_ := Aside0.mk (below_step (by repeat (first | (with_reducible first | exact HB.out | apply below_alloc | apply pw_below_drewN | apply below_drew1 | refine below_set ?_ GE1552.out | refine below_set ?_ GE1553.out) | exact HB.out)) hb); have n3_ := Aside0.mk (hbox); have n4_ := Aside0.mk ((by rw [hg]; exact (below_size (by repeat (first | (with_reducible first | exact HB.out | apply below_alloc | apply pw_below_drewN | apply below_drew1 | refine below_set ?_ GE1552.out | refine below_set ?_ GE1553.out) | exact HB.out))) : w.heap.size ≤ gb1554)); have n5_ := Aside0.mk ((by rw [hg]; exact (below_size (by repeat (first | (with_reducible first | exact HB.out | apply below_alloc | apply pw_below_drewN | apply below_drew1 | refine below_set ?_ GE1552.out | refine below_set ?_ GE1553.out) | exact HB.out))) : w.heap.size ≤ gb1554)); have n6_ := Aside0.mk ((by rw [hg]; exact Nat.ne_of_lt (blk_lt (g := gb1552) (o := .cells #[.int .i64 a0_0, .string a0_1, .string a0_2, .int .i64 a0_3, .int .i64 a0_4] 191 (0, 0)) (by (with_reducible repeat (first | refine blk_drewN ?_ _ | refine blk_drew ?_ | refine blk_alloc ?_ _)); exact BK1552.out)) : gb1552 ≠ gb1554)); have n7_ := Aside0.mk ((by rw [hg]; exact Nat.ne_of_gt (blk_lt (g := gb1552) (o := .cells #[.int .i64 a0_0, .string a0_1, .string a0_2, .int .i64 a0_3, .int .i64 a0_4] 191 (0, 0)) (by (with_reducible repeat (first | refine blk_drewN ?_ _ | refine blk_drew ?_ | refine blk_alloc ?_ _)); exact BK1552.out)) : gb1554 ≠ gb1552)); have n8_ := Aside0.mk ((by rw [hg]; exact Nat.ne_of_lt (blk_lt (g := gb1553) (o := .cells #[.int .i64 0, .string (⟨#[]⟩ : ByteArray), .string (⟨#[]⟩ : ByteArray), .int .i64 0, .int .i64 0] 186 (0, 0)) (by (with_reducible repeat (first | refine blk_drewN ?_ _ | refine blk_drew ?_ | refine blk_alloc ?_ _)); exact BK1553.out)) : gb1553 ≠ gb1554)); have n9_ := Aside0.mk ((by rw [hg]; exact Nat.ne_of_gt (blk_lt (g := gb1553) (o := .cells #[.int .i64 0, .string (⟨#[]⟩ : ByteArray), .string (⟨#[]⟩ : ByteArray), .int .i64 0, .int .i64 0] 186 (0, 0)) (by (with_reducible repeat (first | refine blk_drewN ?_ _ | refine blk_drew ?_ | refine blk_alloc ?_ _)); exact BK1553.out)) : gb1554 ≠ gb1553)); clear BK1552; clear BK1553; clear HB; have BK1552 := n0_; have BK1553 := n1_; have HB := n2_; have BK1554 := n3_; have GW1554 := n4_; have GE1554 := n5_; have NB1552_1554 := n6_; have NB1554_1552 := n7_; have NB1553_1554 := n8_; have NB1554_1553 := n9_; clear n0_ n1_ n2_ n3_ n4_ n5_ n6_ n7_ n8_ n9_; clear hb hbox hg; have hnb5 := NB1552_1553.out; have hnc5 := NB1553_1552.out; have hnb6 := NB1552_1554.out; have hnc6 := NB1554_1552.out; obtain ⟨hcz7_0, hcz7_1, hcz7_2, hcz7_3, hcz7_4⟩ := cells5 BK1552.out; obtain ⟨hfz7_0, hfz7_1, hfz7_2, hfz7_3, hfz7_4⟩ := frozens5 BK1552.out; have hnb8 := NB1554_1553.out; have hnc8 := NB1553_1554.out; obtain ⟨hcz9_0, hcz9_1, hcz9_2, hcz9_3, hcz9_4⟩ := cells5 BK1554.out; obtain ⟨hfz9_0, hfz9_1, hfz9_2, hfz9_3, hfz9_4⟩ := frozens5 BK1554.out; obtain ⟨hcz10_0, hcz10_1, hcz10_2, hcz10_3, hcz10_4⟩ := cells5 BK1553.out; obtain ⟨hfz10_0, hfz10_1, hfz10_2, hfz10_3, hfz10_4⟩ := frozens5 BK1553.out))
  refine bodyPost_ret (results_cell_row rfl _ _ gb1553 186 #[.int .i64 a0_0, .string a0_1, .string a0_2, .int .i64 a0_3, .int .i64 a0_4] (0, 0) _ rfl (by (with_reducible repeat (first | refine blk_drewN ?_ _ | refine blk_drew ?_ | refine blk_alloc ?_ _)); refine blk_put (cs := #[.int .i64 a0_0, .string a0_1, .string a0_2, .int .i64 a0_3, .int .i64 0]) ?_ 4 _ rfl; (with_reducible repeat (first | refine blk_drewN ?_ _ | refine blk_drew ?_ | refine blk_alloc ?_ _)); refine blk_put (cs := #[.int .i64 a0_0, .string a0_1, .string a0_2, .int .i64 0, .int .i64 0]) ?_ 3 _ rfl; (with_reducible repeat (first | refine blk_drewN ?_ _ | refine blk_drew ?_ | refine blk_alloc ?_ _)); refine blk_put (cs := #[.int .i64 a0_0, .string a0_1, .string (⟨#[]⟩ : ByteArray), .int .i64 0, .int .i64 0]) ?_ 2 _ rfl; (with_reducible repeat (first | refine blk_drewN ?_ _ | refine blk_drew ?_ | refine blk_alloc ?_ _)); refine blk_put (cs := #[.int .i64 a0_0, .string (⟨#[]⟩ : ByteArray), .string (⟨#[]⟩ : ByteArray), .int .i64 0, .int .i64 0]) ?_ 1 _ rfl; (with_reducible repeat (first | refine blk_drewN ?_ _ | refine blk_drew ?_ | refine blk_alloc ?_ _)); refine blk_put (cs := #[.int .i64 0, .string (⟨#[]⟩ : ByteArray), .string (⟨#[]⟩ : ByteArray), .int .i64 0, .int .i64 0]) ?_ 0 _ rfl; (with_reducible repeat (first | refine blk_drewN ?_ _ | refine blk_drew ?_ | refine blk_alloc ?_ _)); refine blk_far ?_ NB1553_1554.out _; (with_reducible repeat (first | refine blk_drewN ?_ _ | refine blk_drew ?_ | refine blk_alloc ?_ _)); refine blk_far ?_ NB1553_1554.out _; (with_reducible repeat (first | refine blk_drewN ?_ _ | refine blk_drew ?_ | refine blk_alloc ?_ _)); refine blk_far ?_ NB1553_1554.out _; (with_reducible repeat (first | refine blk_drewN ?_ _ | refine blk_drew ?_ | refine blk_alloc ?_ _)); refine blk_far ?_ NB1553_1554.out _; (with_reducible repeat (first | refine blk_drewN ?_ _ | refine blk_drew ?_ | refine blk_alloc ?_ _)); refine blk_far ?_ NB1553_1554.out _; (with_reducible repeat (first | refine blk_drewN ?_ _ | refine blk_drew ?_ | refine blk_alloc ?_ _)); exact BK1553.out) Try.underlying186 rfl (by kernel_rfl)) rfl ?_
  exact ⟨by first | rfl | (simp [errW_none, errW_some] <;> rfl) | (simp [*, errW_none, errW_some] <;> rfl), by repeat (first | (with_reducible first | exact HB.out | apply below_alloc | apply pw_below_drewN | apply below_drew1 | refine below_set ?_ GE1552.out | refine below_set ?_ GE1553.out | refine below_set ?_ GE1554.out) | exact HB.out)⟩

def c191 (x : S191) : S186 := ⟨x.f0, x.f1, x.f2, x.f3, x.f4⟩

theorem laws_toTx.is {x : S191} : Ev (fun k => laws_toTx.f x.f0 x.f1 x.f2 x.f3 x.f4) ((c191 x).f0, (c191 x).f1, (c191 x).f2, (c191 x).f3, (c191 x).f4) := Ev.now _

theorem laws_toTx.does {x : S191} {cs : List Value} {w : World} (hK : k191.K w x cs) :
    Calls Try.prog 167 #[.agg cs.toArray] w fun e w' => ∃ ds : List Value, e = .returned (.agg ds.toArray) ∧ k186.K w' (c191 x) ds ∧ Below w.heap.size w w' := by
  obtain rfl := k191_open hK
  obtain ⟨k, h⟩ := (laws_toTx.is).rounds
  refine (laws_toTx.calls x.f0 x.f1 x.f2 x.f3 x.f4 _ _ _ _ _ w  h).mono fun e w' ⟨hv, hb⟩ => ?_
  exact ⟨_, hv, k186_mk w' (c191 x) , hb⟩

/-! ### laws_toTxS: function 85 -/
def laws_toTxS.l0 : Nat → List (S191) → List (S186) → Int → Option ((List (S186)))
  | 0, _, _, _ => none
  | k + 1, x0, x3, x4 => if x4 < (x0.length : Int) then (if 0 ≤ x4 then ((laws_toTx.f ((rd_T191 x0 x4).f0) ((rd_T191 x0 x4).f1) ((rd_T191 x0 x4).f2) ((rd_T191 x0 x4).f3) ((rd_T191 x0 x4).f4)).bind fun bt1559 => (if x4 < (x3.length : Int) then (laws_toTxS.l0 k x0 (x3.set (x4 : Int).toNat (⟨bt1559.1, bt1559.2.1, bt1559.2.2.1, bt1559.2.2.2.1, bt1559.2.2.2.2⟩ : S186)) (wrap64 (x4 + 1))) else (none))) else (none)) else (some x3)
def laws_toTxS.f (k : Nat) (l0 : List (S191)) : Option ((List (S186))) := if 0 ≤ (l0.length : Int) then (if ((l0.length : Int) : Int).toNat ≤ 5026338869833 then (laws_toTxS.l0 k l0 (List.replicate ((l0.length : Int) : Int).toNat z186) 0) else (none)) else (none)
theorem laws_toTxS.mono_l : ∀ k, (∀ y0 y1 y2, LeO (laws_toTxS.l0 k y0 y1 y2) (laws_toTxS.l0 (k + 1) y0 y1 y2))
  | 0 => fun _ _ _ r h => by simp [laws_toTxS.l0] at h
  | k + 1 => by
    have ih0 := laws_toTxS.mono_l k
    · intro y0 y1 y2
      unfold laws_toTxS.l0
      repeat' first
      | (with_reducible exact ih0 _ _ _)
      | (with_reducible exact LeO.refl _)
      | (with_reducible exact LeO.none _)
      | (with_reducible refine LeO.ite ?_ ?_)
      | (with_reducible refine LeO.bind ?_ (fun _ => ?_))
      | exact ih0 _ _ _
      | exact LeO.none _
      | refine LeO.ite ?_ ?_
      | refine LeO.bind ?_ (fun _ => ?_)
theorem laws_toTxS.mono : ∀ a0 k, LeO (laws_toTxS.f k a0) (laws_toTxS.f (k + 1) a0) := by
  intro a0 k
  have ih0 := laws_toTxS.mono_l k
  unfold laws_toTxS.f
  repeat' first
      | (with_reducible exact ih0 _ _ _)
      | (with_reducible exact LeO.refl _)
      | (with_reducible exact LeO.none _)
      | (with_reducible refine LeO.ite ?_ ?_)
      | (with_reducible refine LeO.bind ?_ (fun _ => ?_))
      | exact ih0 _ _ _
      | exact LeO.none _
      | refine LeO.ite ?_ ?_
      | refine LeO.bind ?_ (fun _ => ?_)
set_option maxHeartbeats 8000000 in
set_option maxRecDepth 100000 in
theorem laws_toTxS.calls (k : Nat) (A0 : Option Addr) (c0 : Nat) (l0 : List (S191)) (r : List (S186)) (w : World) (hr0 : Kd.C k191 w A0 l0.length l0) (hc0 : l0.length ≤ c0) (h : laws_toTxS.f k l0 = some r) :
    Calls Try.prog 85 #[.slice A0 l0.length c0] w fun e w' => ∃ v0_ : Value, e = .returned (v0_) ∧ Kd.R k186 186 w' w.heap.size (fun _ => True) v0_ r ∧ Below w.heap.size w w' := by
  have hu191 := Try.underlying191
  have hu186 := Try.underlying186
  have HR0 := Aside0.mk hr0
  have HC0 := Aside0.mk hc0
  clear hr0 hc0
  have HB := Aside0.mk (Below.refl w.heap.size w)
  have H : (if 0 ≤ (l0.length : Int) then (if ((l0.length : Int) : Int).toNat ≤ 5026338869833 then (laws_toTxS.l0 k l0 (List.replicate ((l0.length : Int) : Int).toNat z186) 0) else (none)) else (none)) = some r := h
  clear h
  by_cases c2 : 0 ≤ (l0.length : Int)
  · rw [if_pos c2] at H
    have c2b0 := eq_true c2
    have c2b1 : decide (0 ≤ (l0.length : Int)) = true := decide_eq_true c2
    clear c2
    by_cases c3 : ((l0.length : Int) : Int).toNat ≤ 5026338869833
    · rw [if_pos c3] at H
      have c3b0 := eq_true c3
      have c3b1 : decide (((l0.length : Int) : Int).toNat ≤ 5026338869833) = true := decide_eq_true c3
      clear c3
      obtain ⟨y1555, hy1555⟩ : ∃ y_ : List (S186), y_ = (List.replicate ((l0.length : Int) : Int).toNat z186) := ⟨_, rfl⟩
      replace H : (laws_toTxS.l0 k l0 y1555 0) = some r := by first | (rw [hy1555]; with_reducible exact H) | (have H2_ := (Option.bind_some _ _).symm.trans H; rw [hy1555]; with_reducible exact H2_) | (have H2_ := (Option.bind_some _ _).symm.trans H; with_reducible exact H2_) | with_reducible exact H | (rw [hy1555]; exact H) | exact H
      have Ny1555 := Aside0.mk hy1555
      clear hy1555
      have H' := Aside0.mk H
      clear H
      go_enter Try.func85, Try.ntmps85
      go_wp2_with (first | ((with_reducible refine gate_dst (N := 7) rfl ?_); refine Kd.R_make k186 _ 186 rfl (N := 7) rfl 97 _ _ rfl (l0.length : Int) rfl rfl Try.underlying97 (.agg #[(.int .i64 0), (.string ⟨#[]⟩), (.string ⟨#[]⟩), (.int .i64 0), (.int .i64 0)]) 56 info186 rfl (by decide) (by omega) z186 (ok := fun _ => True) (okp := fun _ => True) (k186_mkM _ _ _ z186 ) (fun _ hk => hk) trivial (of_decide_eq_true (by first | (with_reducible assumption) | assumption)) (Nat.le_trans (Nat.mul_le_mul_right _ (of_decide_eq_true (by first | (with_reducible assumption) | assumption) : (l0.length : Int).toNat ≤ 5026338869833)) (by omega)) (Below.refl _ _) (Nat.le_refl _) ?_; intro v1556 w4 ho5 hb hg_ hnew_; clear hg_ hnew_; (first | rw [← Ny1555.out] at ho5 | (simp only [Int.reduceToNat] at ho5; rw [← Ny1555.out] at ho5)); have n0_ := Aside0.mk (Kd.R_lower ho5 (below_size (by repeat (first | (with_reducible first | exact HB.out | apply below_alloc | apply pw_below_drewN | apply below_drew1) | exact HB.out)))); have n1_ := Aside0.mk (below_step (by repeat (first | (with_reducible first | exact HB.out | apply below_alloc | apply pw_below_drewN | apply below_drew1) | exact HB.out)) hb); clear HB; have HO1557 := n0_; have HB := n1_; clear n0_ n1_; clear hb ho5))
      go_loopg [4] k (fun kq v4 w' => ∃ (x3_1 : List (S186)) (x4_1 : Int), v4 = .int .i64 x4_1 ∧ Aside0 (laws_toTxS.l0 kq l0 x3_1 x4_1 = some r) ∧ Aside0 (kq ≤ k) ∧ Aside0 (Kd.R k186 186 w' w.heap.size (fun _ => True) v1556 x3_1) ∧ Aside0 (Below w.heap.size w w'))
      case atStart => exact ⟨(y1555), (0), (by first | rfl | (simp; done) | (simp [*]; done)), H', ⟨Nat.le_refl _⟩, ⟨by (with_reducible repeat (first | apply Kd.R_alloc | apply Kd.R_drewN | apply Kd.R_drew)); exact HO1557.out⟩, ⟨by repeat (first | (with_reducible first | exact HB.out | apply below_alloc | apply pw_below_drewN | apply below_drew1) | exact HB.out)⟩⟩
      case round =>
        clear H'
        try clear c2
        try clear c2b0
        try clear c2b1
        try clear p2
        try clear c3
        try clear c3b0
        try clear c3b1
        obtain ⟨x3_1, x4_1, rfl, HA, HK1, HO_3, HB⟩ := hrel
        cases gk with
        | zero => exact absurd HA.out (by simp [laws_toTxS.l0])
        | succ k1 =>
          have H := HA.out
          clear HA
          simp only [laws_toTxS.l0] at H
          by_cases c6 : x4_1 < (l0.length : Int)
          · rw [if_pos c6] at H
            have c6b0 : decide (x4_1 < (l0.length : Int)) = true := decide_eq_true c6
            clear c6
            by_cases c7 : 0 ≤ x4_1
            · rw [if_pos c7] at H
              have c7b0 : decide (0 ≤ x4_1) = true := decide_eq_true c7
              clear c7
              replace H := Option.bind_eq_some_iff.mp H
              obtain ⟨⟨t1559, t1560, t1561, t1562, t1563⟩, A80, H⟩ := H
              replace H : (if x4_1 < (x3_1.length : Int) then (laws_toTxS.l0 k1 l0 (x3_1.set (x4_1 : Int).toNat (⟨t1559, t1560, t1561, t1562, t1563⟩ : S186)) (wrap64 (x4_1 + 1))) else (none)) = some r := H
              have A8 := Aside0.mk A80
              clear A80
              by_cases c9 : x4_1 < (x3_1.length : Int)
              · rw [if_pos c9] at H
                have c9b0 : decide (x4_1 < (x3_1.length : Int)) = true := decide_eq_true c9
                clear c9
                obtain ⟨y1564, hy1564⟩ : ∃ y_ : List (S186), y_ = (x3_1.set (x4_1 : Int).toNat (⟨t1559, t1560, t1561, t1562, t1563⟩ : S186)) := ⟨_, rfl⟩
                replace H : (laws_toTxS.l0 k1 l0 y1564 (wrap64 (x4_1 + 1))) = some r := by first | (rw [hy1564]; with_reducible exact H) | (have H2_ := (Option.bind_some _ _).symm.trans H; rw [hy1564]; with_reducible exact H2_) | (have H2_ := (Option.bind_some _ _).symm.trans H; with_reducible exact H2_) | with_reducible exact H | (rw [hy1564]; exact H) | exact H
                have Ny1564 := Aside0.mk hy1564
                clear hy1564
                have H' := Aside0.mk H
                clear H
                have p1558 : 0 ≤ (x4_1 : Int) := of_decide_eq_true (by first | (with_reducible assumption) | assumption)
                have q1558 : x4_1 < (l0.length : Int) := of_decide_eq_true (by first | (with_reducible assumption) | assumption)
                obtain ⟨ad1558, e1558, hx1558_0, hx1558_1, hx1558_2, hx1558_3, hx1558_4⟩ := at_T191 HR0.out x4_1 p1558 q1558
                cases e1558
                replace hx1558_0 := (HB.out.cell (World.block_lt_of_cell? w _ hx1558_0)).trans hx1558_0
                replace hx1558_1 := (HB.out.cell (World.block_lt_of_cell? w _ hx1558_1)).trans hx1558_1
                replace hx1558_2 := (HB.out.cell (World.block_lt_of_cell? w _ hx1558_2)).trans hx1558_2
                replace hx1558_3 := (HB.out.cell (World.block_lt_of_cell? w _ hx1558_3)).trans hx1558_3
                replace hx1558_4 := (HB.out.cell (World.block_lt_of_cell? w _ hx1558_4)).trans hx1558_4
                replace p1558 := eq_true p1558
                replace q1558 := eq_true q1558
                go_wp2_with (first | ((with_reducible refine gate_callee (f := 167) rfl ?_); refine goesL_ (some 20) rfl rfl Try.func167 (by kernel_rfl) rfl #[.agg #[.int .i64 ((rd_T191 l0 x4_1).f0), .string ((rd_T191 l0 x4_1).f1), .string ((rd_T191 l0 x4_1).f2), .int .i64 ((rd_T191 l0 x4_1).f3), .int .i64 ((rd_T191 l0 x4_1).f4)]] rfl (by (try simp only [List.map_toArray, List.map_cons, List.map_nil]); first | done | rfl | (simp only [List.length_drop, List.length_take]; rfl)) ?_; (with_reducible refine (laws_toTx.calls ((rd_T191 l0 x4_1).f0) ((rd_T191 l0 x4_1).f1) ((rd_T191 l0 x4_1).f2) ((rd_T191 l0 x4_1).f3) ((rd_T191 l0 x4_1).f4) t1559 t1560 t1561 t1562 t1563 _ A8.out).mono ?_); rintro e w11 ⟨rfl, hb⟩; refine ⟨_, rfl, ?_⟩; have n0_ := Aside0.mk (Kd.R_below (by (with_reducible repeat (first | apply Kd.R_alloc | apply Kd.R_drewN | apply Kd.R_drew)); exact HO_3.out) hb); have n1_ := Aside0.mk (below_step (by repeat (first | (with_reducible first | exact HB.out | apply below_alloc | apply pw_below_drewN | apply below_drew1) | exact HB.out)) hb); clear HO_3; clear HB; have HO_3 := n0_; have HB := n1_; clear n0_ n1_; (try clear hb); (try clear hb2); (try clear hk); (try clear hi); have p10 : 0 ≤ (x4_1 : Int) := of_decide_eq_true (by first | (with_reducible assumption) | assumption); have q10 : (x4_1 : Int) < ((x3_1.length : Int) : Int) := of_decide_eq_true (by first | (with_reducible assumption) | assumption); obtain ⟨go10, co10, eo10, gb10, gl10, cl10, HG10⟩ := Kd.R_form HO_3.out (by omega); (first | cases eo10 | (injection eo10 with ea_ en_ ec_; (first | subst ea_ | (injection ea_ with ea_; subst ea_)); subst ec_; clear en_)); have GB10 := Aside0.mk gb10; have GG10 := Aside0.mk HG10; clear gb10 gl10 HG10; obtain ⟨ce10, hcl10, hM10, hcc10, hfr10⟩ := Kd.R_elem HO_3.out z186 (x4_1 : Int) p10 q10; obtain rfl := k186_openM hM10; have hx10_0 : w11.cell? ⟨go10, (x4_1 : Int).toNat * 5, none⟩ = some (.int .i64 ((rd_T186 x3_1 x4_1).f0)) := hcc10 0 _ rfl; have hx10_1 : w11.cell? ⟨go10, (x4_1 : Int).toNat * 5 + 1, none⟩ = some (.string ((rd_T186 x3_1 x4_1).f1)) := hcc10 1 _ rfl; have hx10_2 : w11.cell? ⟨go10, (x4_1 : Int).toNat * 5 + 2, none⟩ = some (.string ((rd_T186 x3_1 x4_1).f2)) := hcc10 2 _ rfl; have hx10_3 : w11.cell? ⟨go10, (x4_1 : Int).toNat * 5 + 3, none⟩ = some (.int .i64 ((rd_T186 x3_1 x4_1).f3)) := hcc10 3 _ rfl; have hx10_4 : w11.cell? ⟨go10, (x4_1 : Int).toNat * 5 + 4, none⟩ = some (.int .i64 ((rd_T186 x3_1 x4_1).f4)) := hcc10 4 _ rfl; have hf10_0 : w11.frozen? ⟨go10, (x4_1 : Int).toNat * 5, none⟩ = false := hfr10 0; have hf10_1 : w11.frozen? ⟨go10, (x4_1 : Int).toNat * 5 + 1, none⟩ = false := hfr10 1; have hf10_2 : w11.frozen? ⟨go10, (x4_1 : Int).toNat * 5 + 2, none⟩ = false := hfr10 2; have hf10_3 : w11.frozen? ⟨go10, (x4_1 : Int).toNat * 5 + 3, none⟩ = false := hfr10 3; have hf10_4 : w11.frozen? ⟨go10, (x4_1 : Int).toNat * 5 + 4, none⟩ = false := hfr10 4; clear hcl10 hcc10 hfr10 hM10; replace p10 := eq_true p10; replace q10 := eq_true q10; have HX12 := Aside0.mk (show Kd.R k186 186 w11 w.heap.size (fun _ => True) (.slice (some ⟨go10, 0, none⟩) x3_1.length co10) x3_1 from (by (with_reducible repeat (first | apply Kd.R_alloc | apply Kd.R_drewN | apply Kd.R_drew)); exact HO_3.out)); obtain ⟨ce12, hcl12, hM12, hcc12, hfr12⟩ := Kd.R_elem HX12.out z186 (x4_1 : Int) (of_decide_eq_true (by first | (with_reducible assumption) | assumption)) (by have h_ : (x4_1 : Int) < ((x3_1.length : Int) : Int) := of_decide_eq_true (by first | (with_reducible assumption) | assumption); first | exact h_ | (have e_ := (Kd.R_reads' HO_3.out).1; omega) | simpa using h_); obtain rfl := k186_openM hM12; have HP12 := Kd.R_seg HX12.out (x4_1 : Int) (of_decide_eq_true (by first | (with_reducible assumption) | assumption)) (by have h_ : (x4_1 : Int) < ((x3_1.length : Int) : Int) := of_decide_eq_true (by first | (with_reducible assumption) | assumption); first | exact h_ | (have e_ := (Kd.R_reads' HO_3.out).1; omega) | simpa using h_) (seg := [.int .i64 t1559, .string t1560, .string t1561, .int .i64 t1562, .int .i64 t1563]) (j := 0) hcl12 hcc12 (show 5 ≤ 5 from by decide) (x' := (⟨t1559, t1560, t1561, t1562, t1563⟩ : S186)) (k186_mkM _ _ _ (⟨t1559, t1560, t1561, t1562, t1563⟩ : S186) ) (fun _ hk => hk); have hx12_0 := hcc12 0 _ rfl; (try simp only [show (k186).sz = 5 from rfl, Nat.mul_one, Nat.add_zero] at hx12_0); have hf12_0 := hfr12 0; (try simp only [show (k186).sz = 5 from rfl, Nat.mul_one, Nat.add_zero] at hf12_0); have hx12_1 := hcc12 1 _ rfl; (try simp only [show (k186).sz = 5 from rfl, Nat.mul_one, Nat.add_zero] at hx12_1); have hf12_1 := hfr12 1; (try simp only [show (k186).sz = 5 from rfl, Nat.mul_one, Nat.add_zero] at hf12_1); have hx12_2 := hcc12 2 _ rfl; (try simp only [show (k186).sz = 5 from rfl, Nat.mul_one, Nat.add_zero] at hx12_2); have hf12_2 := hfr12 2; (try simp only [show (k186).sz = 5 from rfl, Nat.mul_one, Nat.add_zero] at hf12_2); have hx12_3 := hcc12 3 _ rfl; (try simp only [show (k186).sz = 5 from rfl, Nat.mul_one, Nat.add_zero] at hx12_3); have hf12_3 := hfr12 3; (try simp only [show (k186).sz = 5 from rfl, Nat.mul_one, Nat.add_zero] at hf12_3); have hx12_4 := hcc12 4 _ rfl; (try simp only [show (k186).sz = 5 from rfl, Nat.mul_one, Nat.add_zero] at hx12_4); have hf12_4 := hfr12 4; (try simp only [show (k186).sz = 5 from rfl, Nat.mul_one, Nat.add_zero] at hf12_4); clear hcl12 hcc12 hfr12 hM12) | ((with_reducible refine gate_store (t := 186) (p := 21) rfl ?_); refine store_event (t := 186) (p := 21) (v := ?vo_w13) (w1 := (((((w11.setCell ⟨go10, (x4_1 : Int).toNat * 5, none⟩ (.int .i64 t1559)).setCell ⟨go10, (x4_1 : Int).toNat * 5 + 1, none⟩ (.string t1560)).setCell ⟨go10, (x4_1 : Int).toNat * 5 + 2, none⟩ (.string t1561)).setCell ⟨go10, (x4_1 : Int).toNat * 5 + 3, none⟩ (.int .i64 t1562)).setCell ⟨go10, (x4_1 : Int).toNat * 5 + 4, none⟩ (.int .i64 t1563))) ?hg ?ho ?hn ?hr ?_; (case ho => rfl); (case hg => rfl); (case hn => rfl); (case hr => first | (go_simp; done) | (go_simp; rfl)); intro w13 hw; have hg : w11.grownBy w13 (some go10) := (by rw [hw]; exact HP12.2); have hp_ : Kd.R k186 186 w13 w.heap.size (fun _ => True) (.slice (some ⟨go10, 0, none⟩) x3_1.length co10) y1564 := (by rw [hw, Ny1564.out]; exact HP12.1); clear HP12; have n0_ := Aside0.mk (hp_); have n1_ := Aside0.mk ((by rw [hw]; exact below_set (below_set (below_set (below_set (below_set (HB.out) GB10.out) GB10.out) GB10.out) GB10.out) GB10.out : Below w.heap.size w w13)); clear HO_3; clear HB; have HO_3 := n0_; have HB := n1_; clear n0_ n1_; clear hg hw hp_))
                go_roundg k1
                case measure => have := HK1.out; omega
                case rel => exact ⟨(y1564), (wrap64 (x4_1 + 1)), (by first | rfl | (simp; done) | (simp [*]; done)), H', ⟨by have := HK1.out; omega⟩, ⟨by (with_reducible repeat (first | apply Kd.R_alloc | apply Kd.R_drewN | apply Kd.R_drew)); exact HO_3.out⟩, ⟨by repeat (first | (with_reducible first | exact HB.out | apply below_alloc | apply pw_below_drewN | apply below_drew1) | exact HB.out)⟩⟩
              · rw [if_neg c9] at H
                exact absurd H (by simp)
            · rw [if_neg c7] at H
              exact absurd H (by simp)
          · rw [if_neg c6] at H
            have c6b0 : decide (x4_1 < (l0.length : Int)) = false := decide_eq_false c6
            clear c6
            obtain rfl := Option.some.inj H
            go_wp2
            go_ret
            exact ⟨_, by first | rfl | (simp [errW_none, errW_some] <;> rfl) | (simp [*, errW_none, errW_some] <;> rfl), by (with_reducible repeat (first | apply Kd.R_alloc | apply Kd.R_drewN | apply Kd.R_drew)); exact HO_3.out, by repeat (first | (with_reducible first | exact HB.out | apply below_alloc | apply pw_below_drewN | apply below_drew1) | exact HB.out)⟩
    · rw [if_neg c3] at H
      exact absurd H (by simp)
  · rw [if_neg c2] at H
    exact absurd H (by simp)

theorem laws_toTxS.is {xs : List S191} (hs : (fun l : List S191 => l.length ≤ 1048576) xs) : Ev (fun k => laws_toTxS.f k xs) (xs.map c191) := by
  unfold laws_toTxS.f
  exact to_slice (z := z191) (zb := z186) (l := fun k out i => laws_toTxS.l0 k xs out i) (g := fun k x => laws_toTx.f x.f0 x.f1 x.f2 x.f3 x.f4) (mk := fun t : Int × ByteArray × ByteArray × Int × Int => (⟨t.1, t.2.1, t.2.2.1, t.2.2.2.1, t.2.2.2.2⟩ : S186)) (tup := fun x => ((c191 x).f0, (c191 x).f1, (c191 x).f2, (c191 x).f3, (c191 x).f4)) (fun k out i => rfl) (fun x hx => laws_toTx.is) hs (by decide)

theorem laws_toTxS.does {xs : List S191} (hs : (fun l : List S191 => l.length ≤ 1048576) xs) {B : Option Addr} {c : Nat} {w : World} (hr : Kd.C k191 w B xs.length xs) (hc : xs.length ≤ c) :
    Calls Try.prog 85 #[.slice B xs.length c] w fun e w' => ∃ A d, e = .returned (.slice A (xs.map c191).length d) ∧ (xs.map c191).length ≤ d ∧ Kd.C k186 w' A (xs.map c191).length (xs.map c191) ∧ Below w.heap.size w w' := by
  obtain ⟨k, h⟩ := (laws_toTxS.is hs).rounds
  refine (laws_toTxS.calls k _ _ _ _ w hr hc h).mono fun e w' ⟨v, hv, hR, hb⟩ => ?_
  obtain ⟨A, d, rfl, h1, h2⟩ := Kd.R_reads hR
  exact ⟨A, d, hv, h1, h2, hb⟩

end Go.Proofs.Ytadkhkpchankjaa.F
