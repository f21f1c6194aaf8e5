/-
Functions of the program, what they come to, and that Go comes to just that: laws_szStringS, laws_toStringS, laws_eqStringS.
Conditions: those that each theorem names.
-/
import Derived.Test.YtieecjilnaijkaaFAbs
import Derived.Test.YtieecjilnaijkaaFam
set_option linter.unusedVariables false
set_option linter.unusedSimpArgs false
namespace Go.Proofs.Ytieecjilnaijkaa.F
open Go.RowKit Go.Proofs.YtieecjilnaijkaaW.PrintWords Go.Proofs.YtieecjilnaijkaaW.PrintLast Go.Proofs.Ytieecjilnaijkaa.Base Go.Proofs.Ytieecjilnaijkaa.BW
open Go.Proofs.Ytieecjilnaijkaa.FamW

/-! ### laws_szStringS: printed by compact.py -/
set_option maxHeartbeats 1000000 in
set_option maxRecDepth 100000 in
theorem laws_szStringS.does {xs : List ByteArray} {left : Int} (hw : (fun l : List ByteArray => l.length ≤ maxLen ∧ ∀ x ∈ l, (fun s : ByteArray => s.size ≤ maxLen) x) xs) (h0 : 0 ≤ left) (h1 : left ≤ 1048576) {B : Option Addr} {c : Nat} {w : World} (hr : Kd.C Kd.string w B xs.length xs) (hc : xs.length ≤ c) :
    Calls Try.prog 27 #[.slice B xs.length c, .int .i64 left] w fun e w' => e = .returned (.int .i64 (szR ((xs.length : Int) + sums (fun x : ByteArray => (x.size : Int)) xs) left)) ∧ Below w.heap.size w w' := by
  have hlen : (xs.length : Int) ≤ 9223372036854775807 := by have h := hw.1; have : maxLen = 9223372036854775807 := rfl; omega
  have hnn := sums_nn (h := (fun x : ByteArray => (x.size : Int))) (fun x => Int.natCast_nonneg _) xs
  obtain ⟨r, hR⟩ : ∃ r, szR ((xs.length : Int) + sums (fun x : ByteArray => (x.size : Int)) xs) left = r := ⟨_, rfl⟩
  rw [hR]
  by_cases c0 : (xs.length : Int) ≤ left
  rotate_left
  · have H0 : r = -1 := hR ▸ szR_no (by omega)
    have c0' : decide (left - (xs.length : Int) < 0) = true := decide_eq_true (by omega)
    clear hw hr hc hR c0 hnn
    subst H0
    go_enter Try.func27, Try.ntmps27
    go_wp2
    go_ret
    exact ⟨rfl, Below.refl _ _⟩
  have c0' : decide (left - (xs.length : Int) < 0) = false := decide_eq_false (by omega)
  have HT := Aside0.mk (sz_first (h := (fun x : ByteArray => (x.size : Int))) (fun x => Int.natCast_nonneg _) hR c0)
  have HR := Aside0.mk hr
  have HW := Aside0.mk hw.2
  have hb0 : left - (xs.length : Int) ≤ 1048576 := by omega
  have hb1 : 0 ≤ left - (xs.length : Int) := by omega
  clear hw hr hR hnn
  go_enter Try.func27, Try.ntmps27
  go_wp2
  go_loopg [1, 5] xs.length (fun g v1 v5 w' => ∃ (s i : Int) (e : On w), v1 = .int .i64 s ∧ v5 = .int .i64 i ∧ w' = e.now ∧ 0 ≤ i ∧ i ≤ xs.length ∧ 0 ≤ s ∧ s ≤ 1048576 ∧ Aside0 ((xs.length : Int) - i ≤ g) ∧ Aside0 (szR (sums (fun x : ByteArray => (x.size : Int)) (xs.drop i.toNat)) s = r))
  case atStart => exact ⟨_, 0, On.here w, rfl, rfl, rfl, Int.le_refl _, by omega, hb1, hb0, ⟨by omega⟩, HT⟩
  case round =>
    clear HT c0 hb0 hb1 c0' h0 h1
    obtain ⟨s, i, e, rfl, rfl, rfl, hi0, hi1, hs0, hs1, HG, HT⟩ := hrel
    by_cases c1 : i < (xs.length : Int)
    rotate_left
    · have HF := Aside0.mk (sz_end (by omega) hs0 HT.out)
      go_wp2
      go_ret
      exact ⟨by obtain rfl := HF.out; rfl, e.ok⟩
    obtain ⟨ad, e1, h0⟩ := Kd.at_string HR.out i hi0 c1
    cases e1
    have R0 := On.cell h0
    obtain ⟨y, hy⟩ : ∃ y, rdOf ByteArray.empty xs i = y := ⟨_, rfl⟩
    have hz : xs.getD i.toNat ByteArray.empty = y := hy
    have hys : (y.size : Int) ≤ 9223372036854775807 := by have h := HW.out y (by rw [← hz]; exact getD_mem (by omega) _); have : maxLen = 9223372036854775807 := rfl; omega
    simp only [hy] at R0
    clear h0 hy
    by_cases c2 : (y.size : Int) ≤ s
    rotate_left
    · have H1 := Aside0.mk (sz_over (z := ByteArray.empty) (fun x => Int.natCast_nonneg _) hi0 c1 HT.out (by rw [hz]; omega))
      have c2' : decide (s - (y.size : Int) < 0) = true := decide_eq_true (by omega)
      clear hz c2
      go_wp2
      go_ret
      exact ⟨by obtain rfl := H1.out; rfl, e.ok⟩
    have H1 := Aside0.mk (sz_next (z := ByteArray.empty) (fun x => Int.natCast_nonneg _) hi0 c1 hs0 HT.out (by rw [hz]; omega))
    rw [hz] at H1
    have c2' : decide (s - (y.size : Int) < 0) = false := decide_eq_false (by omega)
    have hq : 0 ≤ s - (y.size : Int) := by omega
    have hq2 : s - (y.size : Int) ≤ 1048576 := by omega
    clear hz c2
    go_wp2
    go_roundg (xs.length - i.toNat - 1)
    case measure => have := HG.out; omega
    case rel => exact ⟨_, i + 1, e, rfl, rfl, rfl, by omega, by omega, hq, hq2, ⟨by omega⟩, H1⟩

/-! ### laws_toStringS: printed by compact.py -/
set_option maxHeartbeats 2000000 in
set_option maxRecDepth 100000 in
theorem laws_toStringS.make {xs : List ByteArray} (hs : (fun l : List ByteArray => l.length ≤ 1048576) xs) {B : Option Addr} {c : Nat} {w : World} (hr : Kd.C Kd.string w B xs.length xs) (hc : xs.length ≤ c) :
    Calls Try.prog 29 #[.slice B xs.length c] w fun e w' => ∃ v, e = .returned v ∧ Kd.R Kd.string 9 w' w.heap.size (fun _ => True) v xs ∧ Below w.heap.size w w' := by
  have hn : (xs.length : Int) ≤ 1048576 := by have := hs; omega
  have HR := Aside0.mk hr
  clear hr hs
  go_enter Try.func29, Try.ntmps29
  go_wp2_with (first | ((with_reducible refine gate_dst (N := 7) rfl ?_); refine Kd.R_make Kd.string w.heap.size 9 rfl (N := 7) rfl 30 _ _ rfl (xs.length : Int) rfl rfl Try.underlying30 (.string ⟨#[]⟩) 16 info9 rfl (by decide) (by decide) (⟨#[]⟩ : ByteArray) (ok := fun _ => True) (okp := fun _ => True) rfl (fun _ hk => hk) trivial (by omega) (by omega) (Below.refl _ _) (Nat.le_refl _) ?_; intro v w1 ho hb _ _; have HO := Aside0.mk (Eq.mp (congrArg (fun l => Kd.R Kd.string 9 w1 w.heap.size (fun _ => True) v l) (upto_zero (f := (fun x => x)) (z := (⟨#[]⟩ : ByteArray)) (xs := xs))) ho); have HB := Aside0.mk hb; clear ho hb))
  go_loopg [4] xs.length (fun g v4 w' => ∃ i : Int, v4 = .int .i64 i ∧ 0 ≤ i ∧ i ≤ xs.length ∧ Aside0 ((xs.length : Int) - i ≤ g) ∧ Aside0 (Kd.R Kd.string 9 w' w.heap.size (fun _ => True) v (upto (fun x => x) (⟨#[]⟩ : ByteArray) xs i)) ∧ Aside0 (Below w.heap.size w w'))
  case atStart => exact ⟨0, rfl, Int.le_refl _, by omega, ⟨by omega⟩, HO, HB⟩
  case round =>
    clear HO HB
    obtain ⟨i, rfl, hi0, hi1, HG, HO, HB⟩ := hrel
    by_cases c1 : i < (xs.length : Int)
    rotate_left
    · have H1 := HO.out
      rw [upto_all (by omega), List.map_id'] at H1
      have H2 := Aside0.mk H1
      clear H1
      go_wp2
      go_ret
      exact ⟨_, rfl, H2.out, HB.out⟩
    obtain ⟨gr, cap, hv, _, hlt, _⟩ := Kd.R_form HO.out (by rw [upto_len hi1]; omega)
    rw [upto_len hi1] at hv
    cases hv
    have HL := Aside0.mk hlt
    clear hlt
    obtain ⟨ad, e1, h0⟩ := Kd.at_string (Kd.C_below HR.out HB.out) i hi0 c1
    cases e1
    obtain ⟨y, hy⟩ : ∃ y, rdOf ByteArray.empty xs i = y := ⟨_, rfl⟩
    rw [hy] at h0
    have HY := Aside0.mk hy
    clear hy
    obtain ⟨c_, hcl, _, hcc, _⟩ := Kd.R_elem HO.out (⟨#[]⟩ : ByteArray) i hi0 c1
    go_wp2_with (first | ((with_reducible refine gate_ (.store 9 (.tmp 20) (.tmp 19)) rfl ?_); refine Kd.R_store Kd.string (w0 := w) w.heap.size rfl rfl 9 _ _ rfl 9 i 0 (upto (fun x => x) (⟨#[]⟩ : ByteArray) xs i) y _ [.string y] c_ (fun _ => True) (fun k => gr < k) rfl (by show i.toNat = i.toNat * 1 + 0; omega) rfl rfl (by kernel_rfl) (fun q hq => by rw [List.mem_singleton.1 hq]; rfl) HO.out hi0 c1 hcl hcc (by show 0 + 1 ≤ 1; omega) (by rw [List.take_zero, List.nil_append, List.drop_eq_nil_of_le (by rw [hcl]; exact Nat.le_refl _), List.append_nil]; rfl) (fun k hk => ⟨trivial, by omega⟩) HB.out ?_; intro w3 hr3 hb3 _; have HO3 := Aside0.mk (Eq.mp (congrArg (fun l => Kd.R Kd.string 9 w3 w.heap.size (fun _ => True) _ l) (upto_set (f := (fun x => x)) (z := (⟨#[]⟩ : ByteArray)) hi0 c1 ByteArray.empty HY.out)) hr3); have HB3 := Aside0.mk hb3; clear hr3 hb3 hcl hcc))
    go_roundg (xs.length - i.toNat - 1)
    case measure => have := HG.out; omega
    case rel => exact ⟨i + 1, rfl, by omega, by omega, ⟨by omega⟩, HO3, HB3⟩

/-! ### laws_eqStringS: printed by compact.py -/
set_option maxHeartbeats 2000000 in
set_option maxRecDepth 100000 in
theorem laws_eqStringS.same {xs : List ByteArray} (hl : (fun l : List ByteArray => l.length ≤ 9223372036854775807) xs) {B D : Option Addr} {c d : Nat} {w : World} (hr : Kd.C Kd.string w B xs.length xs) (hc : xs.length ≤ c) (hs : Kd.C Kd.string w D xs.length xs) (hd : xs.length ≤ d) :
    Calls Try.prog 31 #[.slice B xs.length c, .slice D xs.length d] w fun e w' => e = .returned (.bool true) ∧ Below w.heap.size w w' := by
  have hn : (xs.length : Int) ≤ 9223372036854775807 := by have := hl; omega
  have HR := Aside0.mk hr
  have HS := Aside0.mk hs
  clear hr hs hl
  go_enter Try.func31, Try.ntmps31
  go_wp2
  go_loopg [5] xs.length (fun g v5 w' => ∃ (i : Int) (e : On w), v5 = .int .i64 i ∧ w' = e.now ∧ 0 ≤ i ∧ i ≤ xs.length ∧ Aside0 ((xs.length : Int) - i ≤ g))
  case atStart => exact ⟨0, On.here w, rfl, rfl, Int.le_refl _, by omega, ⟨by omega⟩⟩
  case round =>
    obtain ⟨i, e, rfl, rfl, hi0, hi1, HG⟩ := hrel
    by_cases c1 : i < (xs.length : Int)
    rotate_left
    · go_wp2
      go_ret
      exact ⟨rfl, e.ok⟩
    obtain ⟨ad, e1, h0⟩ := Kd.at_string HR.out i hi0 c1
    cases e1
    obtain ⟨ad', e1, k0⟩ := Kd.at_string HS.out i hi0 c1
    cases e1
    have R0 := On.cell h0
    have S0 := On.cell k0
    clear h0 k0
    generalize rdOf ByteArray.empty xs i = y at R0 S0
    go_wp2
    refine BW.region (by kernel_rfl) (by kernel_rfl) ?_
    repeat (go_big_quiet_step (fail))
    refine wpQuiet_nil ?_
    rintro _ ⟨e2, rfl⟩
    go_wp2
    go_roundg (xs.length - i.toNat - 1)
    case measure => have := HG.out; omega
    case rel => exact ⟨i + 1, e2, rfl, rfl, by omega, by omega, ⟨by omega⟩⟩

end Go.Proofs.Ytieecjilnaijkaa.F
