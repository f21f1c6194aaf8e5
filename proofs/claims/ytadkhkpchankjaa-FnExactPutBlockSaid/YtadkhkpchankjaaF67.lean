/-
Functions of the program, what they come to, and that Go comes to just that: laws_szTx, laws_szTxS, laws_toTx, laws_toTxS.
Conditions: those that each theorem names.
-/
import Derived.Test.YtadkhkpchankjaaFAbs
import Derived.Test.YtadkhkpchankjaaFam
set_option linter.unusedVariables false
set_option linter.unusedSimpArgs false
namespace Go.Proofs.Ytadkhkpchankjaa.F
open Go.RowKit Go.Proofs.YtadkhkpchankjaaW.PrintWords Go.Proofs.YtadkhkpchankjaaW.PrintLast Go.Proofs.Ytadkhkpchankjaa.Base Go.Proofs.Ytadkhkpchankjaa.BW
open Go.Proofs.Ytadkhkpchankjaa.FamW

/-! ### laws_szTx: printed by compact.py -/
/-- How much a value of struct type 191 holds. -/
def hold191 (x : S191) : Int := (x.f1.size : Int) + ((x.f2.size : Int) + (0))
theorem hold191.nn (x : S191) : 0 ≤ hold191 x := by
  unfold hold191
  have n1 := (show 0 ≤ (x.f1.size : Int) from (Int.natCast_nonneg _))
  have n2 := (show 0 ≤ (x.f2.size : Int) from (Int.natCast_nonneg _))
  omega
set_option maxHeartbeats 2000000 in
set_option maxRecDepth 100000 in
theorem laws_szTx.does {x : S191} {left : Int} (hw : w191 x) (h0 : 0 ≤ left) (h1 : left ≤ 1048576) {cs : List Value} {w : World} (hK : k191.K w x cs) :
    Calls Try.prog 165 #[.agg cs.toArray, .int .i64 left] w fun e w' => e = .returned (.int .i64 (szR (hold191 x) left)) ∧ Below w.heap.size w w' := by
  obtain rfl := k191_open hK
  obtain ⟨r, hR⟩ : ∃ r, szR (hold191 x) left = r := ⟨_, rfl⟩
  rw [hR]
  unfold hold191 at hR
  have n1 : 0 ≤ (x.f1.size : Int) := (Int.natCast_nonneg _)
  have z1 : (x.f1.size : Int) ≤ 9223372036854775807 := by have h := hw.2.1; have : maxLen = 9223372036854775807 := rfl; omega
  have n2 : 0 ≤ (x.f2.size : Int) := (Int.natCast_nonneg _)
  have z2 : (x.f2.size : Int) ≤ 9223372036854775807 := by have h := hw.2.2.1; have : maxLen = 9223372036854775807 := rfl; omega
  obtain ⟨m1, hm1⟩ : ∃ m : Int, m = (x.f1.size : Int) := ⟨_, rfl⟩
  obtain ⟨m2, hm2⟩ : ∃ m : Int, m = (x.f2.size : Int) := ⟨_, rfl⟩
  rw [← hm1] at hR n1 z1
  rw [← hm2] at hR n2 z2
  clear hw hK
  have HR := Aside0.mk hR
  clear hR
  have HM1 := Aside0.mk hm1
  clear hm1
  have HM2 := Aside0.mk hm2
  clear hm2
  have HB := Aside0.mk (Below.refl w.heap.size w)
  go_enter Try.func165, Try.ntmps165
  by_cases d1 : m1 ≤ left
  rotate_left
  · have H1 : Aside0 (r = -1) := ⟨HR.out ▸ szR_no (by omega)⟩
    have c_ : decide (left - ((x.f1.size : Int) : Int) < 0) = true := decide_eq_true (by have := HM1.out; omega)
    have z_ : (x.f1.size : Int) ≤ 9223372036854775807 := by have := HM1.out; omega
    clear d1 HR
    go_wp2
    go_ret
    exact ⟨by obtain rfl := H1.out; rfl, atop HB.out⟩
  replace HR := Aside0.mk ((sz_part d1).symm.trans HR.out)
  have HN1 := HM1.out
  subst HN1
  clear HM1
  have c_1 : decide (left - ((x.f1.size : Int)) < 0) = false := decide_eq_false (by omega)
  have p_1 : 0 ≤ left - (x.f1.size : Int) := by omega
  have q_1 : left - (x.f1.size : Int) ≤ 1048576 := by omega
  clear d1
  by_cases d2 : m2 ≤ left - (x.f1.size : Int)
  rotate_left
  · have H1 : Aside0 (r = -1) := ⟨HR.out ▸ szR_no (by omega)⟩
    have c_ : decide (left - (x.f1.size : Int) - ((x.f2.size : Int) : Int) < 0) = true := decide_eq_true (by have := HM2.out; omega)
    have z_ : (x.f2.size : Int) ≤ 9223372036854775807 := by have := HM2.out; omega
    clear d2 HR
    go_wp2
    go_ret
    exact ⟨by obtain rfl := H1.out; rfl, atop HB.out⟩
  replace HR := Aside0.mk ((sz_part d2).symm.trans HR.out)
  have HN2 := HM2.out
  subst HN2
  clear HM2
  have c_2 : decide (left - (x.f1.size : Int) - ((x.f2.size : Int)) < 0) = false := decide_eq_false (by omega)
  have p_2 : 0 ≤ left - (x.f1.size : Int) - (x.f2.size : Int) := by omega
  have q_2 : left - (x.f1.size : Int) - (x.f2.size : Int) ≤ 1048576 := by omega
  clear d2
  have H1 := Aside0.mk (HR.out.symm.trans (szR_zero (by omega)))
  clear HR
  go_wp2
  go_ret
  exact ⟨by obtain rfl := H1.out; rfl, atop HB.out⟩

/-! ### laws_szTxS: printed by compact.py -/
set_option maxHeartbeats 1000000 in
set_option maxRecDepth 100000 in
theorem laws_szTxS.does {xs : List S191} {left : Int} (hw : (fun l : List S191 => l.length ≤ maxLen ∧ ∀ x ∈ l, w191 x) xs) (h0 : 0 ≤ left) (h1 : left ≤ 1048576) {B : Option Addr} {c : Nat} {w : World} (hr : Kd.C k191 w B xs.length xs) (hc : xs.length ≤ c) :
    Calls Try.prog 83 #[.slice B xs.length c, .int .i64 left] w fun e w' => e = .returned (.int .i64 (szR ((xs.length : Int) + sums hold191 xs) left)) ∧ Below w.heap.size w w' := by
  have hlen : (xs.length : Int) ≤ 9223372036854775807 := by have h := hw.1; have : maxLen = 9223372036854775807 := rfl; omega
  have hnn := sums_nn (h := hold191) hold191.nn xs
  obtain ⟨r, hR⟩ : ∃ r, szR ((xs.length : Int) + sums hold191 xs) left = r := ⟨_, rfl⟩
  rw [hR]
  by_cases c0 : (xs.length : Int) ≤ left
  rotate_left
  · have H0 : r = -1 := hR ▸ szR_no (by omega)
    have c0' : decide (left - (xs.length : Int) < 0) = true := decide_eq_true (by omega)
    clear hw hr hc hR c0 hnn
    subst H0
    go_enter Try.func83, Try.ntmps83
    go_wp2
    go_ret
    exact ⟨rfl, Below.refl _ _⟩
  have c0' : decide (left - (xs.length : Int) < 0) = false := decide_eq_false (by omega)
  have HT := Aside0.mk (sz_first (h := hold191) hold191.nn hR c0)
  have HR := Aside0.mk hr
  have HW := Aside0.mk hw.2
  have hb0 : left - (xs.length : Int) ≤ 1048576 := by omega
  have hb1 : 0 ≤ left - (xs.length : Int) := by omega
  clear hw hr hR hnn
  go_enter Try.func83, Try.ntmps83
  go_wp2
  go_loopg [1, 5] xs.length (fun g v1 v5 w' => ∃ (s i : Int) (e : On w), v1 = .int .i64 s ∧ v5 = .int .i64 i ∧ w' = e.now ∧ 0 ≤ i ∧ i ≤ xs.length ∧ 0 ≤ s ∧ s ≤ 1048576 ∧ Aside0 ((xs.length : Int) - i ≤ g) ∧ Aside0 (szR (sums hold191 (xs.drop i.toNat)) s = r))
  case atStart => exact ⟨_, 0, On.here w, rfl, rfl, rfl, Int.le_refl _, by omega, hb1, hb0, ⟨by omega⟩, HT⟩
  case round =>
    clear HT c0 hb0 hb1 c0' h0 h1
    obtain ⟨s, i, e, rfl, rfl, rfl, hi0, hi1, hs0, hs1, HG, HT⟩ := hrel
    by_cases c1 : i < (xs.length : Int)
    rotate_left
    · have HF := Aside0.mk (sz_end (by omega) hs0 HT.out)
      go_wp2
      go_ret
      exact ⟨by obtain rfl := HF.out; rfl, e.ok⟩
    obtain ⟨ad, e1, h0, h1, h2, h3, h4⟩ := at_T191 HR.out i hi0 c1
    cases e1
    have R0 := On.cell h0
    have R1 := On.cell h1
    have R2 := On.cell h2
    have R3 := On.cell h3
    have R4 := On.cell h4
    have hz : xs.getD i.toNat z191 = rd_T191 xs i := rfl
    have E1 := Aside0.mk (fun e : On w => laws_szTx.does (HW.out _ (getD_mem (by omega) z191)) hs0 hs1 (k191_mk e.now (rd_T191 xs i)))
    obtain ⟨m, hm⟩ : ∃ m, hold191 (rd_T191 xs i) = m := ⟨_, rfl⟩
    have hm0 : 0 ≤ m := hm ▸ hold191.nn _
    simp only [show xs.getD i.toNat z191 = rd_T191 xs i from rfl, hm] at E1
    clear h0 h1 h2 h3 h4
    by_cases c2 : m ≤ s
    rotate_left
    · have H1 := Aside0.mk (sz_over (z := z191) hold191.nn hi0 c1 HT.out (by rw [hz, hm]; omega))
      rw [szR_no (by omega)] at E1
      clear hz hm c2 hm0
      go_wp2_with fail
      refine BW.call (E1.out _) (fun e2 => ?_)
      go_wp2
      go_ret
      exact ⟨by obtain rfl := H1.out; rfl, e2.ok⟩
    have H1 := Aside0.mk (sz_next (z := z191) hold191.nn hi0 c1 hs0 HT.out (by rw [hz, hm]; omega))
    rw [hz, hm] at H1
    rw [szR_ge c2] at E1
    have c2' : decide (s - m < 0) = false := decide_eq_false (by omega)
    have hq : 0 ≤ s - m := by omega
    have hq2 : s - m ≤ 1048576 := by omega
    clear hz hm c2
    go_wp2_with fail
    refine BW.call (E1.out _) (fun e2 => ?_)
    go_wp2
    go_roundg (xs.length - i.toNat - 1)
    case measure => have := HG.out; omega
    case rel => exact ⟨_, i + 1, e2, rfl, rfl, rfl, by omega, by omega, hq, hq2, ⟨by omega⟩, H1⟩

/-! ### laws_toTx: printed by compact.py -/
def c191 (x : S191) : S186 := ⟨x.f0, x.f1, x.f2, x.f3, x.f4⟩
set_option maxHeartbeats 2000000 in
set_option maxRecDepth 100000 in
theorem laws_toTx.make {x : S191} {cs : List Value} {w : World} (hK : k191.K w x cs) :
    Calls Try.prog 167 #[.agg cs.toArray] w fun e w' => ∃ ds : List Value, e = .returned (.agg ds.toArray) ∧ k186.M w' w.heap.size (fun _ => True) (c191 x) ds ∧ Below w.heap.size w w' := by
  obtain rfl := k191_open hK
  clear hK
  go_enter Try.func167, Try.ntmps167
  go_wp2_with (first | ((with_reducible refine gate_ (.load 186 (.tmp 3)) rfl ?_); refine wpList_load_row rfl 186 _ rfl _ rfl 186 #[.int .i64 (c191 x).f0, .string (c191 x).f1, .string (c191 x).f2, .int .i64 (c191 x).f3, .int .i64 (c191 x).f4] (0, 0) _ new3 Try.underlying186 rfl (by kernel_rfl) ?_))
  refine bodyPost_ret (results_cell_row rfl _ _ _ 186 #[.int .i64 (c191 x).f0, .string (c191 x).f1, .string (c191 x).f2, .int .i64 (c191 x).f3, .int .i64 (c191 x).f4] (0, 0) _ rfl new2 Try.underlying186 rfl (by kernel_rfl)) rfl ?_
  exact ⟨_, rfl, k186_mkM _ _ _ (c191 x), atop (atop (atop (Below.refl _ _)))⟩

/-! ### laws_toTxS: printed by compact.py -/
set_option maxHeartbeats 2000000 in
set_option maxRecDepth 100000 in
theorem laws_toTxS.make {xs : List S191} (hs : (fun l : List S191 => l.length ≤ 1048576) xs) {B : Option Addr} {c : Nat} {w : World} (hr : Kd.C k191 w B xs.length xs) (hc : xs.length ≤ c) :
    Calls Try.prog 85 #[.slice B xs.length c] w fun e w' => ∃ v, e = .returned v ∧ Kd.R k186 186 w' w.heap.size (fun _ => True) v (xs.map c191) ∧ Below w.heap.size w w' := by
  have hn : (xs.length : Int) ≤ 1048576 := by have := hs; omega
  have HR := Aside0.mk hr
  clear hr hs
  go_enter Try.func85, Try.ntmps85
  go_wp2_with (first | ((with_reducible refine gate_dst (N := 7) rfl ?_); refine Kd.R_make k186 w.heap.size 186 rfl (N := 7) rfl 97 _ _ rfl (xs.length : Int) rfl rfl Try.underlying97 (.agg #[(.int .i64 0), (.string ⟨#[]⟩), (.string ⟨#[]⟩), (.int .i64 0), (.int .i64 0)]) 56 info186 rfl (by decide) (by decide) z186 (ok := fun _ => True) (okp := fun _ => True) (k186_mkM _ _ _ z186) (fun _ hk => hk) trivial (by omega) (by omega) (Below.refl _ _) (Nat.le_refl _) ?_; intro v w1 ho hb _ _; have HO := Aside0.mk (Eq.mp (congrArg (fun l => Kd.R k186 186 w1 w.heap.size (fun _ => True) v l) (upto_zero (f := c191) (z := z186) (xs := xs))) ho); have HB := Aside0.mk hb; clear ho hb))
  go_loopg [4] xs.length (fun g v4 w' => ∃ i : Int, v4 = .int .i64 i ∧ 0 ≤ i ∧ i ≤ xs.length ∧ Aside0 ((xs.length : Int) - i ≤ g) ∧ Aside0 (Kd.R k186 186 w' w.heap.size (fun _ => True) v (upto c191 z186 xs i)) ∧ Aside0 (Below w.heap.size w w'))
  case atStart => exact ⟨0, rfl, Int.le_refl _, by omega, ⟨by omega⟩, HO, HB⟩
  case round =>
    clear HO HB
    obtain ⟨i, rfl, hi0, hi1, HG, HO, HB⟩ := hrel
    by_cases c1 : i < (xs.length : Int)
    rotate_left
    · have H1 := HO.out
      rw [upto_all (by omega)] at H1
      have H2 := Aside0.mk H1
      clear H1
      go_wp2
      go_ret
      exact ⟨_, rfl, H2.out, HB.out⟩
    obtain ⟨gr, cap, hv, _, hlt, _⟩ := Kd.R_form HO.out (by rw [upto_len hi1]; omega)
    rw [upto_len hi1] at hv
    cases hv
    have HL := Aside0.mk hlt
    clear hlt
    obtain ⟨ad, e1, h0, h1, h2, h3, h4⟩ := at_T191 (Kd.C_below HR.out HB.out) i hi0 c1
    cases e1
    obtain ⟨y, hy⟩ : ∃ y, rd_T191 xs i = y := ⟨_, rfl⟩
    rw [hy] at h0 h1 h2 h3 h4
    have E1 := Aside0.mk (laws_toTx.make (x := y) (k191_mk wr y))
    have HY := Aside0.mk hy
    clear hy
    go_wp2_with fail
    refine E1.out.mono ?_
    rintro _ W2 ⟨ds, rfl, hM, hb⟩
    clear E1 h0 h1 h2 h3 h4
    have hlt := HL.out
    have HM := Aside0.mk (k186.M_mono (ok' := fun k => gr < k) (fun k hk => Nat.lt_of_lt_of_le hlt hk.2.1) (k186.M_bound hM))
    replace HM := Aside0.mk (k186.M_lower HB.out.size HM.out)
    replace HO := Aside0.mk (Kd.R_below HO.out hb)
    replace HB := Aside0.mk (then_ HB.out hb)
    clear hb hM hlt
    have hdl : ds.length = 5 := k186.K_len (k186.K_of_M HM.out)
    obtain ⟨c_, hcl, _, hcc, _⟩ := Kd.R_elem HO.out z186 i hi0 c1
    have HC := Aside0.mk hcc
    have HD := Aside0.mk hdl
    have HE := Aside0.mk hcl
    clear hcc hdl hcl
    go_wp2_with (first | ((with_reducible refine gate_ (.store 186 (.tmp 21) (.tmp 20)) rfl ?_); refine Kd.R_store k186 (w0 := w) w.heap.size rfl rfl 186 _ _ rfl 186 i 0 (upto c191 z186 xs i) (c191 y) _ ds c_ (fun _ => True) (fun k => gr < k) rfl rfl rfl rfl (by rw [HD.out]; kernel_rfl) (k186.K_one (k186.K_of_M HM.out)) HO.out hi0 c1 HE.out HC.out (by rw [HD.out]; exact Nat.le_refl _) (by rw [List.take_zero, List.nil_append, List.drop_eq_nil_of_le (by rw [HE.out, HD.out]; exact Nat.le_refl _), List.append_nil]; exact HM.out) (fun k hk => ⟨trivial, by omega⟩) HB.out ?_; intro w3 hr3 hb3 _; have HO3 := Aside0.mk (Eq.mp (congrArg (fun l => Kd.R k186 186 w3 w.heap.size (fun _ => True) _ l) (upto_set (f := c191) (z := z186) hi0 c1 z191 HY.out)) hr3); have HB3 := Aside0.mk hb3; clear hr3 hb3))
    go_roundg (xs.length - i.toNat - 1)
    case measure => have := HG.out; omega
    case rel => exact ⟨i + 1, rfl, by omega, by omega, ⟨by omega⟩, HO3, HB3⟩

end Go.Proofs.Ytadkhkpchankjaa.F
