/-
Functions of the program, what they come to, and that Go comes to just that: laws_szVal, laws_szValS, laws_toVal, laws_toValS, laws_eqVal, laws_eqValS.
Conditions: those that each theorem names.
-/
import Derived.Test.YtieecjilnaijkaaFAbs
import Derived.Test.YtieecjilnaijkaaFam
set_option linter.unusedVariables false
set_option linter.unusedSimpArgs false
namespace Go.Proofs.Ytieecjilnaijkaa.F
open Go.RowKit Go.Proofs.YtieecjilnaijkaaW.PrintWords Go.Proofs.YtieecjilnaijkaaW.PrintLast Go.Proofs.Ytieecjilnaijkaa.Base Go.Proofs.Ytieecjilnaijkaa.BW
open Go.Proofs.Ytieecjilnaijkaa.FamW

/-! ### laws_szVal: printed by compact.py -/
/-- How much a value of struct type 92 holds. -/
def hold92 (x : S92) : Int := (x.f0.size : Int) + (0)
theorem hold92.nn (x : S92) : 0 ≤ hold92 x := by
  unfold hold92
  have n0 := (show 0 ≤ (x.f0.size : Int) from (Int.natCast_nonneg _))
  omega
set_option maxHeartbeats 2000000 in
set_option maxRecDepth 100000 in
theorem laws_szVal.does {x : S92} {left : Int} (hw : w92 x) (h0 : 0 ≤ left) (h1 : left ≤ 1048576) {cs : List Value} {w : World} (hK : k92.K w x cs) :
    Calls Try.prog 60 #[.agg cs.toArray, .int .i64 left] w fun e w' => e = .returned (.int .i64 (szR (hold92 x) left)) ∧ Below w.heap.size w w' := by
  obtain rfl := k92_open hK
  obtain ⟨r, hR⟩ : ∃ r, szR (hold92 x) left = r := ⟨_, rfl⟩
  rw [hR]
  unfold hold92 at hR
  have n0 : 0 ≤ (x.f0.size : Int) := (Int.natCast_nonneg _)
  have z0 : (x.f0.size : Int) ≤ 9223372036854775807 := by have h := hw.1; have : maxLen = 9223372036854775807 := rfl; omega
  obtain ⟨m0, hm0⟩ : ∃ m : Int, m = (x.f0.size : Int) := ⟨_, rfl⟩
  rw [← hm0] at hR n0 z0
  clear hw hK
  have HR := Aside0.mk hR
  clear hR
  have HM0 := Aside0.mk hm0
  clear hm0
  have HB := Aside0.mk (Below.refl w.heap.size w)
  go_enter Try.func60, Try.ntmps60
  by_cases d0 : m0 ≤ left
  rotate_left
  · have H1 : Aside0 (r = -1) := ⟨HR.out ▸ szR_no (by omega)⟩
    have c_ : decide (left - ((x.f0.size : Int) : Int) < 0) = true := decide_eq_true (by have := HM0.out; omega)
    have z_ : (x.f0.size : Int) ≤ 9223372036854775807 := by have := HM0.out; omega
    clear d0 HR
    go_wp2
    go_ret
    exact ⟨by obtain rfl := H1.out; rfl, atop HB.out⟩
  replace HR := Aside0.mk ((sz_part d0).symm.trans HR.out)
  have HN0 := HM0.out
  subst HN0
  clear HM0
  have c_0 : decide (left - ((x.f0.size : Int)) < 0) = false := decide_eq_false (by omega)
  have p_0 : 0 ≤ left - (x.f0.size : Int) := by omega
  have q_0 : left - (x.f0.size : Int) ≤ 1048576 := by omega
  clear d0
  have H1 := Aside0.mk (HR.out.symm.trans (szR_zero (by omega)))
  clear HR
  go_wp2
  go_ret
  exact ⟨by obtain rfl := H1.out; rfl, atop HB.out⟩

/-! ### laws_szValS: printed by compact.py -/
set_option maxHeartbeats 1000000 in
set_option maxRecDepth 100000 in
theorem laws_szValS.does {xs : List S92} {left : Int} (hw : (fun l : List S92 => l.length ≤ maxLen ∧ ∀ x ∈ l, w92 x) xs) (h0 : 0 ≤ left) (h1 : left ≤ 1048576) {B : Option Addr} {c : Nat} {w : World} (hr : Kd.C k92 w B xs.length xs) (hc : xs.length ≤ c) :
    Calls Try.prog 15 #[.slice B xs.length c, .int .i64 left] w fun e w' => e = .returned (.int .i64 (szR ((xs.length : Int) + sums hold92 xs) left)) ∧ Below w.heap.size w w' := by
  have hlen : (xs.length : Int) ≤ 9223372036854775807 := by have h := hw.1; have : maxLen = 9223372036854775807 := rfl; omega
  have hnn := sums_nn (h := hold92) hold92.nn xs
  obtain ⟨r, hR⟩ : ∃ r, szR ((xs.length : Int) + sums hold92 xs) left = r := ⟨_, rfl⟩
  rw [hR]
  by_cases c0 : (xs.length : Int) ≤ left
  rotate_left
  · have H0 : r = -1 := hR ▸ szR_no (by omega)
    have c0' : decide (left - (xs.length : Int) < 0) = true := decide_eq_true (by omega)
    clear hw hr hc hR c0 hnn
    subst H0
    go_enter Try.func15, Try.ntmps15
    go_wp2
    go_ret
    exact ⟨rfl, Below.refl _ _⟩
  have c0' : decide (left - (xs.length : Int) < 0) = false := decide_eq_false (by omega)
  have HT := Aside0.mk (sz_first (h := hold92) hold92.nn hR c0)
  have HR := Aside0.mk hr
  have HW := Aside0.mk hw.2
  have hb0 : left - (xs.length : Int) ≤ 1048576 := by omega
  have hb1 : 0 ≤ left - (xs.length : Int) := by omega
  clear hw hr hR hnn
  go_enter Try.func15, Try.ntmps15
  go_wp2
  go_loopg [1, 5] xs.length (fun g v1 v5 w' => ∃ (s i : Int) (e : On w), v1 = .int .i64 s ∧ v5 = .int .i64 i ∧ w' = e.now ∧ 0 ≤ i ∧ i ≤ xs.length ∧ 0 ≤ s ∧ s ≤ 1048576 ∧ Aside0 ((xs.length : Int) - i ≤ g) ∧ Aside0 (szR (sums hold92 (xs.drop i.toNat)) s = r))
  case atStart => exact ⟨_, 0, On.here w, rfl, rfl, rfl, Int.le_refl _, by omega, hb1, hb0, ⟨by omega⟩, HT⟩
  case round =>
    clear HT c0 hb0 hb1 c0' h0 h1
    obtain ⟨s, i, e, rfl, rfl, rfl, hi0, hi1, hs0, hs1, HG, HT⟩ := hrel
    by_cases c1 : i < (xs.length : Int)
    rotate_left
    · have HF := Aside0.mk (sz_end (by omega) hs0 HT.out)
      go_wp2
      go_ret
      exact ⟨by obtain rfl := HF.out; rfl, e.ok⟩
    obtain ⟨ad, e1, h0, h1⟩ := at_T92 HR.out i hi0 c1
    cases e1
    have R0 := On.cell h0
    have R1 := On.cell h1
    have hz : xs.getD i.toNat z92 = rd_T92 xs i := rfl
    have E1 := Aside0.mk (fun e : On w => laws_szVal.does (HW.out _ (getD_mem (by omega) z92)) hs0 hs1 (k92_mk e.now (rd_T92 xs i)))
    obtain ⟨m, hm⟩ : ∃ m, hold92 (rd_T92 xs i) = m := ⟨_, rfl⟩
    have hm0 : 0 ≤ m := hm ▸ hold92.nn _
    simp only [show xs.getD i.toNat z92 = rd_T92 xs i from rfl, hm] at E1
    clear h0 h1
    by_cases c2 : m ≤ s
    rotate_left
    · have H1 := Aside0.mk (sz_over (z := z92) hold92.nn hi0 c1 HT.out (by rw [hz, hm]; omega))
      rw [szR_no (by omega)] at E1
      clear hz hm c2 hm0
      go_wp2_with fail
      refine BW.call (E1.out _) (fun e2 => ?_)
      go_wp2
      go_ret
      exact ⟨by obtain rfl := H1.out; rfl, e2.ok⟩
    have H1 := Aside0.mk (sz_next (z := z92) hold92.nn hi0 c1 hs0 HT.out (by rw [hz, hm]; omega))
    rw [hz, hm] at H1
    rw [szR_ge c2] at E1
    have c2' : decide (s - m < 0) = false := decide_eq_false (by omega)
    have hq : 0 ≤ s - m := by omega
    have hq2 : s - m ≤ 1048576 := by omega
    clear hz hm c2
    go_wp2_with fail
    refine BW.call (E1.out _) (fun e2 => ?_)
    go_wp2
    go_roundg (xs.length - i.toNat - 1)
    case measure => have := HG.out; omega
    case rel => exact ⟨_, i + 1, e2, rfl, rfl, rfl, by omega, by omega, hq, hq2, ⟨by omega⟩, H1⟩

/-! ### laws_toVal: printed by compact.py -/
def c92 (x : S92) : S93 := ⟨x.f0, x.f1⟩
set_option maxHeartbeats 2000000 in
set_option maxRecDepth 100000 in
theorem laws_toVal.make {x : S92} {cs : List Value} {w : World} (hK : k92.K w x cs) :
    Calls Try.prog 61 #[.agg cs.toArray] w fun e w' => ∃ ds : List Value, e = .returned (.agg ds.toArray) ∧ k93.M w' w.heap.size (fun _ => True) (c92 x) ds ∧ Below w.heap.size w w' := by
  obtain rfl := k92_open hK
  clear hK
  go_enter Try.func61, Try.ntmps61
  go_wp2_with (first | ((with_reducible refine gate_ (.load 93 (.tmp 3)) rfl ?_); refine wpList_load_row rfl 93 _ rfl _ rfl 93 #[.string (c92 x).f0, .int .i64 (c92 x).f1] (0, 0) _ new3 Try.underlying93 rfl (by kernel_rfl) ?_))
  refine bodyPost_ret (results_cell_row rfl _ _ _ 93 #[.string (c92 x).f0, .int .i64 (c92 x).f1] (0, 0) _ rfl new2 Try.underlying93 rfl (by kernel_rfl)) rfl ?_
  exact ⟨_, rfl, k93_mkM _ _ _ (c92 x), atop (atop (atop (Below.refl _ _)))⟩

/-! ### laws_toValS: printed by compact.py -/
set_option maxHeartbeats 2000000 in
set_option maxRecDepth 100000 in
theorem laws_toValS.make {xs : List S92} (hs : (fun l : List S92 => l.length ≤ 1048576) xs) {B : Option Addr} {c : Nat} {w : World} (hr : Kd.C k92 w B xs.length xs) (hc : xs.length ≤ c) :
    Calls Try.prog 17 #[.slice B xs.length c] w fun e w' => ∃ v, e = .returned v ∧ Kd.R k93 93 w' w.heap.size (fun _ => True) v (xs.map c92) ∧ Below w.heap.size w w' := by
  have hn : (xs.length : Int) ≤ 1048576 := by have := hs; omega
  have HR := Aside0.mk hr
  clear hr hs
  go_enter Try.func17, Try.ntmps17
  go_wp2_with (first | ((with_reducible refine gate_dst (N := 7) rfl ?_); refine Kd.R_make k93 w.heap.size 93 rfl (N := 7) rfl 25 _ _ rfl (xs.length : Int) rfl rfl Try.underlying25 (.agg #[(.string ⟨#[]⟩), (.int .i64 0)]) 24 info93 rfl (by decide) (by decide) z93 (ok := fun _ => True) (okp := fun _ => True) (k93_mkM _ _ _ z93) (fun _ hk => hk) trivial (by omega) (by omega) (Below.refl _ _) (Nat.le_refl _) ?_; intro v w1 ho hb _ _; have HO := Aside0.mk (Eq.mp (congrArg (fun l => Kd.R k93 93 w1 w.heap.size (fun _ => True) v l) (upto_zero (f := c92) (z := z93) (xs := xs))) ho); have HB := Aside0.mk hb; clear ho hb))
  go_loopg [4] xs.length (fun g v4 w' => ∃ i : Int, v4 = .int .i64 i ∧ 0 ≤ i ∧ i ≤ xs.length ∧ Aside0 ((xs.length : Int) - i ≤ g) ∧ Aside0 (Kd.R k93 93 w' w.heap.size (fun _ => True) v (upto c92 z93 xs i)) ∧ Aside0 (Below w.heap.size w w'))
  case atStart => exact ⟨0, rfl, Int.le_refl _, by omega, ⟨by omega⟩, HO, HB⟩
  case round =>
    clear HO HB
    obtain ⟨i, rfl, hi0, hi1, HG, HO, HB⟩ := hrel
    by_cases c1 : i < (xs.length : Int)
    rotate_left
    · have H1 := HO.out
      rw [upto_all (by omega)] at H1
      have H2 := Aside0.mk H1
      clear H1
      go_wp2
      go_ret
      exact ⟨_, rfl, H2.out, HB.out⟩
    obtain ⟨gr, cap, hv, _, hlt, _⟩ := Kd.R_form HO.out (by rw [upto_len hi1]; omega)
    rw [upto_len hi1] at hv
    cases hv
    have HL := Aside0.mk hlt
    clear hlt
    obtain ⟨ad, e1, h0, h1⟩ := at_T92 (Kd.C_below HR.out HB.out) i hi0 c1
    cases e1
    obtain ⟨y, hy⟩ : ∃ y, rd_T92 xs i = y := ⟨_, rfl⟩
    rw [hy] at h0 h1
    have E1 := Aside0.mk (laws_toVal.make (x := y) (k92_mk wr y))
    have HY := Aside0.mk hy
    clear hy
    go_wp2_with fail
    refine E1.out.mono ?_
    rintro _ W2 ⟨ds, rfl, hM, hb⟩
    clear E1 h0 h1
    have hlt := HL.out
    have HM := Aside0.mk (k93.M_mono (ok' := fun k => gr < k) (fun k hk => Nat.lt_of_lt_of_le hlt hk.2.1) (k93.M_bound hM))
    replace HM := Aside0.mk (k93.M_lower HB.out.size HM.out)
    replace HO := Aside0.mk (Kd.R_below HO.out hb)
    replace HB := Aside0.mk (then_ HB.out hb)
    clear hb hM hlt
    have hdl : ds.length = 2 := k93.K_len (k93.K_of_M HM.out)
    obtain ⟨c_, hcl, _, hcc, _⟩ := Kd.R_elem HO.out z93 i hi0 c1
    have HC := Aside0.mk hcc
    have HD := Aside0.mk hdl
    have HE := Aside0.mk hcl
    clear hcc hdl hcl
    go_wp2_with (first | ((with_reducible refine gate_ (.store 93 (.tmp 21) (.tmp 20)) rfl ?_); refine Kd.R_store k93 (w0 := w) w.heap.size rfl rfl 93 _ _ rfl 93 i 0 (upto c92 z93 xs i) (c92 y) _ ds c_ (fun _ => True) (fun k => gr < k) rfl rfl rfl rfl (by rw [HD.out]; kernel_rfl) (k93.K_one (k93.K_of_M HM.out)) HO.out hi0 c1 HE.out HC.out (by rw [HD.out]; exact Nat.le_refl _) (by rw [List.take_zero, List.nil_append, List.drop_eq_nil_of_le (by rw [HE.out, HD.out]; exact Nat.le_refl _), List.append_nil]; exact HM.out) (fun k hk => ⟨trivial, by omega⟩) HB.out ?_; intro w3 hr3 hb3 _; have HO3 := Aside0.mk (Eq.mp (congrArg (fun l => Kd.R k93 93 w3 w.heap.size (fun _ => True) _ l) (upto_set (f := c92) (z := z93) hi0 c1 z92 HY.out)) hr3); have HB3 := Aside0.mk hb3; clear hr3 hb3))
    go_roundg (xs.length - i.toNat - 1)
    case measure => have := HG.out; omega
    case rel => exact ⟨i + 1, rfl, by omega, by omega, ⟨by omega⟩, HO3, HB3⟩

/-! ### laws_eqVal: printed by compact.py -/
set_option maxHeartbeats 2000000 in
set_option maxRecDepth 100000 in
theorem laws_eqVal.same {x : S93} {cs ds : List Value} {w : World} (hK : k93.K w x cs) (hL : k93.K w x ds) :
    Calls Try.prog 62 #[.agg cs.toArray, .agg ds.toArray] w fun e w' => e = .returned (.bool true) ∧ Below w.heap.size w w' := by
  obtain rfl := k93_open hK
  obtain rfl := k93_open hL
  clear hK hL 
  go_enter Try.func62, Try.ntmps62
  go_wp2
  go_ret
  exact ⟨rfl, atop (atop (Below.refl _ _))⟩

/-! ### laws_eqValS: printed by compact.py -/
set_option maxHeartbeats 2000000 in
set_option maxRecDepth 100000 in
theorem laws_eqValS.same {xs : List S93} (hl : (fun l : List S93 => l.length ≤ 9223372036854775807) xs) {B D : Option Addr} {c d : Nat} {w : World} (hr : Kd.C k93 w B xs.length xs) (hc : xs.length ≤ c) (hs : Kd.C k93 w D xs.length xs) (hd : xs.length ≤ d) :
    Calls Try.prog 19 #[.slice B xs.length c, .slice D xs.length d] w fun e w' => e = .returned (.bool true) ∧ Below w.heap.size w w' := by
  have hn : (xs.length : Int) ≤ 9223372036854775807 := by have := hl; omega
  have HR := Aside0.mk hr
  have HS := Aside0.mk hs
  clear hr hs hl
  go_enter Try.func19, Try.ntmps19
  go_wp2
  go_loopg [5] xs.length (fun g v5 w' => ∃ (i : Int) (e : On w), v5 = .int .i64 i ∧ w' = e.now ∧ 0 ≤ i ∧ i ≤ xs.length ∧ Aside0 ((xs.length : Int) - i ≤ g))
  case atStart => exact ⟨0, On.here w, rfl, rfl, Int.le_refl _, by omega, ⟨by omega⟩⟩
  case round =>
    obtain ⟨i, e, rfl, rfl, hi0, hi1, HG⟩ := hrel
    by_cases c1 : i < (xs.length : Int)
    rotate_left
    · go_wp2
      go_ret
      exact ⟨rfl, e.ok⟩
    obtain ⟨ad, e1, h0, h1⟩ := at_T93 HR.out i hi0 c1
    cases e1
    obtain ⟨ad', e1, k0, k1⟩ := at_T93 HS.out i hi0 c1
    cases e1
    have E1 := Aside0.mk (fun e : On w => laws_eqVal.same (x := (rd_T93 xs i)) (k93_mk e.now (rd_T93 xs i)) (k93_mk e.now (rd_T93 xs i)))
    have R0 := On.cell h0
    have S0 := On.cell k0
    have R1 := On.cell h1
    have S1 := On.cell k1
    clear h0 k0 h1 k1
    go_wp2
    refine BW.region (by kernel_rfl) (by kernel_rfl) ?_
    repeat (go_big_quiet_step (first | exact BW.quiet (E1.out _)))
    refine wpQuiet_nil ?_
    rintro _ ⟨e2, rfl⟩
    go_wp2
    go_roundg (xs.length - i.toNat - 1)
    case measure => have := HG.out; omega
    case rel => exact ⟨i + 1, e2, rfl, rfl, by omega, by omega, ⟨by omega⟩⟩

end Go.Proofs.Ytieecjilnaijkaa.F
