/-
Functions of the program, what they come to, and that Go comes to just that: laws_szVal, laws_szValS, laws_toVal, laws_toValS.
Conditions: those that each theorem names.
-/
import Derived.Test.YtadkhkpchankjaaFAbs
import Derived.Test.YtadkhkpchankjaaFam
set_option linter.unusedVariables false
set_option linter.unusedSimpArgs false
namespace Go.Proofs.Ytadkhkpchankjaa.F
open Go.RowKit Go.Proofs.YtadkhkpchankjaaW.PrintWords Go.Proofs.YtadkhkpchankjaaW.PrintLast Go.Proofs.Ytadkhkpchankjaa.Base Go.Proofs.Ytadkhkpchankjaa.BW
open Go.Proofs.Ytadkhkpchankjaa.FamW

/-! ### laws_szVal: printed by compact.py -/
/-- How much a value of struct type 159 holds. -/
def hold159 (x : S159) : Int := (x.f0.size : Int) + (0)
theorem hold159.nn (x : S159) : 0 ≤ hold159 x := by
  unfold hold159
  have n0 := (show 0 ≤ (x.f0.size : Int) from (Int.natCast_nonneg _))
  omega
set_option maxHeartbeats 2000000 in
set_option maxRecDepth 100000 in
theorem laws_szVal.does {x : S159} {left : Int} (hw : w159 x) (h0 : 0 ≤ left) (h1 : left ≤ 1048576) {cs : List Value} {w : World} (hK : k159.K w x cs) :
    Calls Try.prog 124 #[.agg cs.toArray, .int .i64 left] w fun e w' => e = .returned (.int .i64 (szR (hold159 x) left)) ∧ Below w.heap.size w w' := by
  obtain rfl := k159_open hK
  obtain ⟨r, hR⟩ : ∃ r, szR (hold159 x) left = r := ⟨_, rfl⟩
  rw [hR]
  unfold hold159 at hR
  have n0 : 0 ≤ (x.f0.size : Int) := (Int.natCast_nonneg _)
  have z0 : (x.f0.size : Int) ≤ 9223372036854775807 := by have h := hw.1; have : maxLen = 9223372036854775807 := rfl; omega
  obtain ⟨m0, hm0⟩ : ∃ m : Int, m = (x.f0.size : Int) := ⟨_, rfl⟩
  rw [← hm0] at hR n0 z0
  clear hw hK
  have HR := Aside0.mk hR
  clear hR
  have HM0 := Aside0.mk hm0
  clear hm0
  have HB := Aside0.mk (Below.refl w.heap.size w)
  go_enter Try.func124, Try.ntmps124
  by_cases d0 : m0 ≤ left
  rotate_left
  · have H1 : Aside0 (r = -1) := ⟨HR.out ▸ szR_no (by omega)⟩
    have c_ : decide (left - ((x.f0.size : Int) : Int) < 0) = true := decide_eq_true (by have := HM0.out; omega)
    have z_ : (x.f0.size : Int) ≤ 9223372036854775807 := by have := HM0.out; omega
    clear d0 HR
    go_wp2
    go_ret
    exact ⟨by obtain rfl := H1.out; rfl, atop HB.out⟩
  replace HR := Aside0.mk ((sz_part d0).symm.trans HR.out)
  have HN0 := HM0.out
  subst HN0
  clear HM0
  have c_0 : decide (left - ((x.f0.size : Int)) < 0) = false := decide_eq_false (by omega)
  have p_0 : 0 ≤ left - (x.f0.size : Int) := by omega
  have q_0 : left - (x.f0.size : Int) ≤ 1048576 := by omega
  clear d0
  have H1 := Aside0.mk (HR.out.symm.trans (szR_zero (by omega)))
  clear HR
  go_wp2
  go_ret
  exact ⟨by obtain rfl := H1.out; rfl, atop HB.out⟩

/-! ### laws_szValS: printed by compact.py -/
set_option maxHeartbeats 1000000 in
set_option maxRecDepth 100000 in
theorem laws_szValS.does {xs : List S159} {left : Int} (hw : (fun l : List S159 => l.length ≤ maxLen ∧ ∀ x ∈ l, w159 x) xs) (h0 : 0 ≤ left) (h1 : left ≤ 1048576) {B : Option Addr} {c : Nat} {w : World} (hr : Kd.C k159 w B xs.length xs) (hc : xs.length ≤ c) :
    Calls Try.prog 46 #[.slice B xs.length c, .int .i64 left] w fun e w' => e = .returned (.int .i64 (szR ((xs.length : Int) + sums hold159 xs) left)) ∧ Below w.heap.size w w' := by
  have hlen : (xs.length : Int) ≤ 9223372036854775807 := by have h := hw.1; have : maxLen = 9223372036854775807 := rfl; omega
  have hnn := sums_nn (h := hold159) hold159.nn xs
  obtain ⟨r, hR⟩ : ∃ r, szR ((xs.length : Int) + sums hold159 xs) left = r := ⟨_, rfl⟩
  rw [hR]
  by_cases c0 : (xs.length : Int) ≤ left
  rotate_left
  · have H0 : r = -1 := hR ▸ szR_no (by omega)
    have c0' : decide (left - (xs.length : Int) < 0) = true := decide_eq_true (by omega)
    clear hw hr hc hR c0 hnn
    subst H0
    go_enter Try.func46, Try.ntmps46
    go_wp2
    go_ret
    exact ⟨rfl, Below.refl _ _⟩
  have c0' : decide (left - (xs.length : Int) < 0) = false := decide_eq_false (by omega)
  have HT := Aside0.mk (sz_first (h := hold159) hold159.nn hR c0)
  have HR := Aside0.mk hr
  have HW := Aside0.mk hw.2
  have hb0 : left - (xs.length : Int) ≤ 1048576 := by omega
  have hb1 : 0 ≤ left - (xs.length : Int) := by omega
  clear hw hr hR hnn
  go_enter Try.func46, Try.ntmps46
  go_wp2
  go_loopg [1, 5] xs.length (fun g v1 v5 w' => ∃ (s i : Int) (e : On w), v1 = .int .i64 s ∧ v5 = .int .i64 i ∧ w' = e.now ∧ 0 ≤ i ∧ i ≤ xs.length ∧ 0 ≤ s ∧ s ≤ 1048576 ∧ Aside0 ((xs.length : Int) - i ≤ g) ∧ Aside0 (szR (sums hold159 (xs.drop i.toNat)) s = r))
  case atStart => exact ⟨_, 0, On.here w, rfl, rfl, rfl, Int.le_refl _, by omega, hb1, hb0, ⟨by omega⟩, HT⟩
  case round =>
    clear HT c0 hb0 hb1 c0' h0 h1
    obtain ⟨s, i, e, rfl, rfl, rfl, hi0, hi1, hs0, hs1, HG, HT⟩ := hrel
    by_cases c1 : i < (xs.length : Int)
    rotate_left
    · have HF := Aside0.mk (sz_end (by omega) hs0 HT.out)
      go_wp2
      go_ret
      exact ⟨by obtain rfl := HF.out; rfl, e.ok⟩
    obtain ⟨ad, e1, h0, h1⟩ := at_T159 HR.out i hi0 c1
    cases e1
    have R0 := On.cell h0
    have R1 := On.cell h1
    have hz : xs.getD i.toNat z159 = rd_T159 xs i := rfl
    have E1 := Aside0.mk (fun e : On w => laws_szVal.does (HW.out _ (getD_mem (by omega) z159)) hs0 hs1 (k159_mk e.now (rd_T159 xs i)))
    obtain ⟨m, hm⟩ : ∃ m, hold159 (rd_T159 xs i) = m := ⟨_, rfl⟩
    have hm0 : 0 ≤ m := hm ▸ hold159.nn _
    simp only [show xs.getD i.toNat z159 = rd_T159 xs i from rfl, hm] at E1
    clear h0 h1
    by_cases c2 : m ≤ s
    rotate_left
    · have H1 := Aside0.mk (sz_over (z := z159) hold159.nn hi0 c1 HT.out (by rw [hz, hm]; omega))
      rw [szR_no (by omega)] at E1
      clear hz hm c2 hm0
      go_wp2_with fail
      refine BW.call (E1.out _) (fun e2 => ?_)
      go_wp2
      go_ret
      exact ⟨by obtain rfl := H1.out; rfl, e2.ok⟩
    have H1 := Aside0.mk (sz_next (z := z159) hold159.nn hi0 c1 hs0 HT.out (by rw [hz, hm]; omega))
    rw [hz, hm] at H1
    rw [szR_ge c2] at E1
    have c2' : decide (s - m < 0) = false := decide_eq_false (by omega)
    have hq : 0 ≤ s - m := by omega
    have hq2 : s - m ≤ 1048576 := by omega
    clear hz hm c2
    go_wp2_with fail
    refine BW.call (E1.out _) (fun e2 => ?_)
    go_wp2
    go_roundg (xs.length - i.toNat - 1)
    case measure => have := HG.out; omega
    case rel => exact ⟨_, i + 1, e2, rfl, rfl, rfl, by omega, by omega, hq, hq2, ⟨by omega⟩, H1⟩

/-! ### laws_toVal: printed by compact.py -/
def c159 (x : S159) : S138 := ⟨x.f0, x.f1⟩
set_option maxHeartbeats 2000000 in
set_option maxRecDepth 100000 in
theorem laws_toVal.make {x : S159} {cs : List Value} {w : World} (hK : k159.K w x cs) :
    Calls Try.prog 126 #[.agg cs.toArray] w fun e w' => ∃ ds : List Value, e = .returned (.agg ds.toArray) ∧ k138.M w' w.heap.size (fun _ => True) (c159 x) ds ∧ Below w.heap.size w w' := by
  obtain rfl := k159_open hK
  clear hK
  go_enter Try.func126, Try.ntmps126
  go_wp2_with (first | ((with_reducible refine gate_ (.load 138 (.tmp 3)) rfl ?_); refine wpList_load_row rfl 138 _ rfl _ rfl 138 #[.string (c159 x).f0, .int .i64 (c159 x).f1] (0, 0) _ new3 Try.underlying138 rfl (by kernel_rfl) ?_))
  refine bodyPost_ret (results_cell_row rfl _ _ _ 138 #[.string (c159 x).f0, .int .i64 (c159 x).f1] (0, 0) _ rfl new2 Try.underlying138 rfl (by kernel_rfl)) rfl ?_
  exact ⟨_, rfl, k138_mkM _ _ _ (c159 x), atop (atop (atop (Below.refl _ _)))⟩

/-! ### laws_toValS: printed by compact.py -/
set_option maxHeartbeats 2000000 in
set_option maxRecDepth 100000 in
theorem laws_toValS.make {xs : List S159} (hs : (fun l : List S159 => l.length ≤ 1048576) xs) {B : Option Addr} {c : Nat} {w : World} (hr : Kd.C k159 w B xs.length xs) (hc : xs.length ≤ c) :
    Calls Try.prog 48 #[.slice B xs.length c] w fun e w' => ∃ v, e = .returned v ∧ Kd.R k138 138 w' w.heap.size (fun _ => True) v (xs.map c159) ∧ Below w.heap.size w w' := by
  have hn : (xs.length : Int) ≤ 1048576 := by have := hs; omega
  have HR := Aside0.mk hr
  clear hr hs
  go_enter Try.func48, Try.ntmps48
  go_wp2_with (first | ((with_reducible refine gate_dst (N := 7) rfl ?_); refine Kd.R_make k138 w.heap.size 138 rfl (N := 7) rfl 24 _ _ rfl (xs.length : Int) rfl rfl Try.underlying24 (.agg #[(.string ⟨#[]⟩), (.int .i64 0)]) 24 info138 rfl (by decide) (by decide) z138 (ok := fun _ => True) (okp := fun _ => True) (k138_mkM _ _ _ z138) (fun _ hk => hk) trivial (by omega) (by omega) (Below.refl _ _) (Nat.le_refl _) ?_; intro v w1 ho hb _ _; have HO := Aside0.mk (Eq.mp (congrArg (fun l => Kd.R k138 138 w1 w.heap.size (fun _ => True) v l) (upto_zero (f := c159) (z := z138) (xs := xs))) ho); have HB := Aside0.mk hb; clear ho hb))
  go_loopg [4] xs.length (fun g v4 w' => ∃ i : Int, v4 = .int .i64 i ∧ 0 ≤ i ∧ i ≤ xs.length ∧ Aside0 ((xs.length : Int) - i ≤ g) ∧ Aside0 (Kd.R k138 138 w' w.heap.size (fun _ => True) v (upto c159 z138 xs i)) ∧ Aside0 (Below w.heap.size w w'))
  case atStart => exact ⟨0, rfl, Int.le_refl _, by omega, ⟨by omega⟩, HO, HB⟩
  case round =>
    clear HO HB
    obtain ⟨i, rfl, hi0, hi1, HG, HO, HB⟩ := hrel
    by_cases c1 : i < (xs.length : Int)
    rotate_left
    · have H1 := HO.out
      rw [upto_all (by omega)] at H1
      have H2 := Aside0.mk H1
      clear H1
      go_wp2
      go_ret
      exact ⟨_, rfl, H2.out, HB.out⟩
    obtain ⟨gr, cap, hv, _, hlt, _⟩ := Kd.R_form HO.out (by rw [upto_len hi1]; omega)
    rw [upto_len hi1] at hv
    cases hv
    have HL := Aside0.mk hlt
    clear hlt
    obtain ⟨ad, e1, h0, h1⟩ := at_T159 (Kd.C_below HR.out HB.out) i hi0 c1
    cases e1
    obtain ⟨y, hy⟩ : ∃ y, rd_T159 xs i = y := ⟨_, rfl⟩
    rw [hy] at h0 h1
    have E1 := Aside0.mk (laws_toVal.make (x := y) (k159_mk wr y))
    have HY := Aside0.mk hy
    clear hy
    go_wp2_with fail
    refine E1.out.mono ?_
    rintro _ W2 ⟨ds, rfl, hM, hb⟩
    clear E1 h0 h1
    have hlt := HL.out
    have HM := Aside0.mk (k138.M_mono (ok' := fun k => gr < k) (fun k hk => Nat.lt_of_lt_of_le hlt hk.2.1) (k138.M_bound hM))
    replace HM := Aside0.mk (k138.M_lower HB.out.size HM.out)
    replace HO := Aside0.mk (Kd.R_below HO.out hb)
    replace HB := Aside0.mk (then_ HB.out hb)
    clear hb hM hlt
    have hdl : ds.length = 2 := k138.K_len (k138.K_of_M HM.out)
    obtain ⟨c_, hcl, _, hcc, _⟩ := Kd.R_elem HO.out z138 i hi0 c1
    have HC := Aside0.mk hcc
    have HD := Aside0.mk hdl
    have HE := Aside0.mk hcl
    clear hcc hdl hcl
    go_wp2_with (first | ((with_reducible refine gate_ (.store 138 (.tmp 21) (.tmp 20)) rfl ?_); refine Kd.R_store k138 (w0 := w) w.heap.size rfl rfl 138 _ _ rfl 138 i 0 (upto c159 z138 xs i) (c159 y) _ ds c_ (fun _ => True) (fun k => gr < k) rfl rfl rfl rfl (by rw [HD.out]; kernel_rfl) (k138.K_one (k138.K_of_M HM.out)) HO.out hi0 c1 HE.out HC.out (by rw [HD.out]; exact Nat.le_refl _) (by rw [List.take_zero, List.nil_append, List.drop_eq_nil_of_le (by rw [HE.out, HD.out]; exact Nat.le_refl _), List.append_nil]; exact HM.out) (fun k hk => ⟨trivial, by omega⟩) HB.out ?_; intro w3 hr3 hb3 _; have HO3 := Aside0.mk (Eq.mp (congrArg (fun l => Kd.R k138 138 w3 w.heap.size (fun _ => True) _ l) (upto_set (f := c159) (z := z138) hi0 c1 z159 HY.out)) hr3); have HB3 := Aside0.mk hb3; clear hr3 hb3))
    go_roundg (xs.length - i.toNat - 1)
    case measure => have := HG.out; omega
    case rel => exact ⟨i + 1, rfl, by omega, by omega, ⟨by omega⟩, HO3, HB3⟩

end Go.Proofs.Ytadkhkpchankjaa.F
