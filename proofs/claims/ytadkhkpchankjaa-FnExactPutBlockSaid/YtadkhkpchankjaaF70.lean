/-
Functions of the program, what they come to, and that Go comes to just that: spec_PutBlock, impl_BlockOk, impl_putNum, impl_putText, laws_eqByteS.
Conditions: those that each theorem names.
-/
import Derived.Test.YtadkhkpchankjaaFAbs
import Derived.Test.YtadkhkpchankjaaF14
import Derived.Test.YtadkhkpchankjaaF19
import Derived.Test.YtadkhkpchankjaaF25
import Derived.Test.YtadkhkpchankjaaF31
import Derived.Test.YtadkhkpchankjaaF69
import Derived.Test.YtadkhkpchankjaaWApart
import Derived.Test.YtadkhkpchankjaaWKept
import Derived.Test.YtadkhkpchankjaaWMore
import Derived.Test.YtadkhkpchankjaaFam
import Derived.Test.YtadkhkpchankjaaStrs
set_option linter.unusedVariables false
set_option linter.unusedSimpArgs false
namespace Go.Proofs.Ytadkhkpchankjaa.F
open Go.RowKit Go.Proofs.YtadkhkpchankjaaW.PrintWords Go.Proofs.YtadkhkpchankjaaW.PrintLast Go.Proofs.Ytadkhkpchankjaa.Base Go.Proofs.Ytadkhkpchankjaa.BW
open Go.Proofs.Ytadkhkpchankjaa
open Go.Proofs.Ytadkhkpchankjaa.FamW
open Go.Proofs.YtadkhkpchankjaaW.PrintMore
attribute [local go_sem] max2_int min2_int max_two min_two max_three min_three max_four min_four   -- for this text's walks alone

/-! ### spec_PutBlock: function 68 -/
mutual
def spec_PutBlock.l0 : Nat → List Int → Int → Int → Int → Int → ByteArray → Int → Int → List ByteArray → Int → List ByteArray → List Int → List (S186) → Bool → List (S138) → ByteArray → Option (List Int)
  | 0, _, _, _, _, _, _, _, _, _, _, _, _, _, _, _, _ => none
  | k + 1, x3, x4, x1503000, x1503001, x1503002, x1503003, x1503004, x1503005, x1503006, x1503007, x1503008, x1503009, x1503010, x1503011, x1503012, x1503013 => if x4 < (x1503010.length : Int) then (if 0 ≤ x4 then ((spec_l5Put.f k x3 ((rd_T186 x1503010 x4).f0) ((rd_T186 x1503010 x4).f1) ((rd_T186 x1503010 x4).f2) ((rd_T186 x1503010 x4).f3) ((rd_T186 x1503010 x4).f4)).bind fun t1532 => (spec_PutBlock.l0 k t1532 (wrap64 (x4 + 1)) x1503000 x1503001 x1503002 x1503003 x1503004 x1503005 x1503006 x1503007 x1503008 x1503009 x1503010 x1503011 x1503012 x1503013)) else (none)) else (if x1503011 = true then (spec_PutBlock.j1 k x3 1 x1503000 x1503001 x1503002 x1503003 x1503004 x1503005 x1503006 x1503007 x1503008 x1503009 x1503010 x1503011 x1503012 x1503013) else (spec_PutBlock.j1 k x3 0 x1503000 x1503001 x1503002 x1503003 x1503004 x1503005 x1503006 x1503007 x1503008 x1503009 x1503010 x1503011 x1503012 x1503013))
def spec_PutBlock.j1 : Nat → List Int → Int → Int → Int → Int → ByteArray → Int → Int → List ByteArray → Int → List ByteArray → List Int → List (S186) → Bool → List (S138) → ByteArray → Option (List Int)
  | 0, _, _, _, _, _, _, _, _, _, _, _, _, _, _, _, _ => none
  | k + 1, x3, x5, x1503000, x1503001, x1503002, x1503003, x1503004, x1503005, x1503006, x1503007, x1503008, x1503009, x1503010, x1503011, x1503012, x1503013 => (spec_PutNum.f k x3 x5).bind fun t1535 => ((spec_PutNum.f k t1535 (x1503012.length : Int)).bind fun t1538 => (spec_PutBlock.l1 k t1538 0 x1503000 x1503001 x1503002 x1503003 x1503004 x1503005 x1503006 x1503007 x1503008 x1503009 x1503010 x1503011 x1503012 x1503013))
def spec_PutBlock.l1 : Nat → List Int → Int → Int → Int → Int → ByteArray → Int → Int → List ByteArray → Int → List ByteArray → List Int → List (S186) → Bool → List (S138) → ByteArray → Option (List Int)
  | 0, _, _, _, _, _, _, _, _, _, _, _, _, _, _, _, _ => none
  | k + 1, x3, x6, x1503000, x1503001, x1503002, x1503003, x1503004, x1503005, x1503006, x1503007, x1503008, x1503009, x1503010, x1503011, x1503012, x1503013 => if x6 < (x1503012.length : Int) then (if 0 ≤ x6 then ((spec_PutText.f k x3 ((rd_T138 x1503012 x6).f0)).bind fun t1542 => ((spec_PutNum.f k t1542 ((rd_T138 x1503012 x6).f1)).bind fun t1546 => (spec_PutBlock.l1 k t1546 (wrap64 (x6 + 1)) x1503000 x1503001 x1503002 x1503003 x1503004 x1503005 x1503006 x1503007 x1503008 x1503009 x1503010 x1503011 x1503012 x1503013))) else (none)) else ((spec_PutText.f k x3 x1503013).bind fun t1549 => (some t1549))
end
def spec_PutBlock.f (k : Nat) (a0_0 : Int) (a0_1 : Int) (a0_2 : Int) (a0_3 : ByteArray) (a0_4 : Int) (a0_5 : Int) (l0_6 : List ByteArray) (a0_7 : Int) (l0_8 : List ByteArray) (l0_9 : List Int) (l0_10 : List (S186)) (a0_11 : Bool) (l0_12 : List (S138)) (a0_13 : ByteArray) : Option (List Int) := (spec_BlockOk.f k a0_0 a0_1 a0_2 a0_3 a0_4 a0_5 l0_6 a0_7 l0_8 l0_9 l0_10 a0_11 l0_12 a0_13).bind fun t1503 => (if t1503 = true then ((spec_PutNum.f k (([] : List Int)) a0_0).bind fun t1510 => ((spec_PutNum.f k t1510 a0_1).bind fun t1513 => ((spec_PutNum.f k t1513 a0_2).bind fun t1516 => ((spec_PutText.f k t1516 a0_3).bind fun t1519 => ((spec_l9PutQc.f k t1519 a0_4 a0_5 l0_6).bind fun t1522 => ((spec_l9PutTc.f k t1522 a0_7 l0_8 l0_9).bind fun t1525 => ((spec_PutNum.f k t1525 (l0_10.length : Int)).bind fun t1528 => (spec_PutBlock.l0 k t1528 0 a0_0 a0_1 a0_2 a0_3 a0_4 a0_5 l0_6 a0_7 l0_8 l0_9 l0_10 a0_11 l0_12 a0_13)))))))) else (some (([] : List Int))))
theorem spec_PutBlock.mono_l : ∀ k, (∀ y0 y1 y2 y3 y4 y5 y6 y7 y8 y9 y10 y11 y12 y13 y14 y15, LeO (spec_PutBlock.l0 k y0 y1 y2 y3 y4 y5 y6 y7 y8 y9 y10 y11 y12 y13 y14 y15) (spec_PutBlock.l0 (k + 1) y0 y1 y2 y3 y4 y5 y6 y7 y8 y9 y10 y11 y12 y13 y14 y15)) ∧ (∀ y0 y1 y2 y3 y4 y5 y6 y7 y8 y9 y10 y11 y12 y13 y14 y15, LeO (spec_PutBlock.j1 k y0 y1 y2 y3 y4 y5 y6 y7 y8 y9 y10 y11 y12 y13 y14 y15) (spec_PutBlock.j1 (k + 1) y0 y1 y2 y3 y4 y5 y6 y7 y8 y9 y10 y11 y12 y13 y14 y15)) ∧ (∀ y0 y1 y2 y3 y4 y5 y6 y7 y8 y9 y10 y11 y12 y13 y14 y15, LeO (spec_PutBlock.l1 k y0 y1 y2 y3 y4 y5 y6 y7 y8 y9 y10 y11 y12 y13 y14 y15) (spec_PutBlock.l1 (k + 1) y0 y1 y2 y3 y4 y5 y6 y7 y8 y9 y10 y11 y12 y13 y14 y15))
  | 0 => ⟨fun _ _ _ _ _ _ _ _ _ _ _ _ _ _ _ _ r h => by simp [spec_PutBlock.l0] at h, fun _ _ _ _ _ _ _ _ _ _ _ _ _ _ _ _ r h => by simp [spec_PutBlock.j1] at h, fun _ _ _ _ _ _ _ _ _ _ _ _ _ _ _ _ r h => by simp [spec_PutBlock.l1] at h⟩
  | k + 1 => by
    obtain ⟨ih0, ih1, ih2⟩ := spec_PutBlock.mono_l k
    refine ⟨?_, ?_, ?_⟩
    · intro y0 y1 y2 y3 y4 y5 y6 y7 y8 y9 y10 y11 y12 y13 y14 y15
      unfold spec_PutBlock.l0
      repeat' first
      | (with_reducible exact ih0 _ _ _ _ _ _ _ _ _ _ _ _ _ _ _ _)
      | (with_reducible exact ih1 _ _ _ _ _ _ _ _ _ _ _ _ _ _ _ _)
      | (with_reducible exact ih2 _ _ _ _ _ _ _ _ _ _ _ _ _ _ _ _)
      | (with_reducible exact spec_BlockOk.mono _ _ _ _ _ _ _ _ _ _ _ _ _ _ _)
      | (with_reducible exact spec_PutNum.mono _ _ _)
      | (with_reducible exact spec_PutText.mono _ _ _)
      | (with_reducible exact spec_l5Put.mono _ _ _ _ _ _ _)
      | (with_reducible exact spec_l9PutQc.mono _ _ _ _ _)
      | (with_reducible exact spec_l9PutTc.mono _ _ _ _ _)
      | (with_reducible exact LeO.refl _)
      | (with_reducible exact LeO.none _)
      | (with_reducible refine LeO.ite ?_ ?_)
      | (with_reducible refine LeO.bind ?_ (fun _ => ?_))
      | exact ih0 _ _ _ _ _ _ _ _ _ _ _ _ _ _ _ _
      | exact ih1 _ _ _ _ _ _ _ _ _ _ _ _ _ _ _ _
      | exact ih2 _ _ _ _ _ _ _ _ _ _ _ _ _ _ _ _
      | exact spec_BlockOk.mono _ _ _ _ _ _ _ _ _ _ _ _ _ _ _
      | exact spec_PutNum.mono _ _ _
      | exact spec_PutText.mono _ _ _
      | exact spec_l5Put.mono _ _ _ _ _ _ _
      | exact spec_l9PutQc.mono _ _ _ _ _
      | exact spec_l9PutTc.mono _ _ _ _ _
      | exact LeO.none _
      | refine LeO.ite ?_ ?_
      | refine LeO.bind ?_ (fun _ => ?_)
    · intro y0 y1 y2 y3 y4 y5 y6 y7 y8 y9 y10 y11 y12 y13 y14 y15
      unfold spec_PutBlock.j1
      repeat' first
      | (with_reducible exact ih0 _ _ _ _ _ _ _ _ _ _ _ _ _ _ _ _)
      | (with_reducible exact ih1 _ _ _ _ _ _ _ _ _ _ _ _ _ _ _ _)
      | (with_reducible exact ih2 _ _ _ _ _ _ _ _ _ _ _ _ _ _ _ _)
      | (with_reducible exact spec_BlockOk.mono _ _ _ _ _ _ _ _ _ _ _ _ _ _ _)
      | (with_reducible exact spec_PutNum.mono _ _ _)
      | (with_reducible exact spec_PutText.mono _ _ _)
      | (with_reducible exact spec_l5Put.mono _ _ _ _ _ _ _)
      | (with_reducible exact spec_l9PutQc.mono _ _ _ _ _)
      | (with_reducible exact spec_l9PutTc.mono _ _ _ _ _)
      | (with_reducible exact LeO.refl _)
      | (with_reducible exact LeO.none _)
      | (with_reducible refine LeO.ite ?_ ?_)
      | (with_reducible refine LeO.bind ?_ (fun _ => ?_))
      | exact ih0 _ _ _ _ _ _ _ _ _ _ _ _ _ _ _ _
      | exact ih1 _ _ _ _ _ _ _ _ _ _ _ _ _ _ _ _
      | exact ih2 _ _ _ _ _ _ _ _ _ _ _ _ _ _ _ _
      | exact spec_BlockOk.mono _ _ _ _ _ _ _ _ _ _ _ _ _ _ _
      | exact spec_PutNum.mono _ _ _
      | exact spec_PutText.mono _ _ _
      | exact spec_l5Put.mono _ _ _ _ _ _ _
      | exact spec_l9PutQc.mono _ _ _ _ _
      | exact spec_l9PutTc.mono _ _ _ _ _
      | exact LeO.none _
      | refine LeO.ite ?_ ?_
      | refine LeO.bind ?_ (fun _ => ?_)
    · intro y0 y1 y2 y3 y4 y5 y6 y7 y8 y9 y10 y11 y12 y13 y14 y15
      unfold spec_PutBlock.l1
      repeat' first
      | (with_reducible exact ih0 _ _ _ _ _ _ _ _ _ _ _ _ _ _ _ _)
      | (with_reducible exact ih1 _ _ _ _ _ _ _ _ _ _ _ _ _ _ _ _)
      | (with_reducible exact ih2 _ _ _ _ _ _ _ _ _ _ _ _ _ _ _ _)
      | (with_reducible exact spec_BlockOk.mono _ _ _ _ _ _ _ _ _ _ _ _ _ _ _)
      | (with_reducible exact spec_PutNum.mono _ _ _)
      | (with_reducible exact spec_PutText.mono _ _ _)
      | (with_reducible exact spec_l5Put.mono _ _ _ _ _ _ _)
      | (with_reducible exact spec_l9PutQc.mono _ _ _ _ _)
      | (with_reducible exact spec_l9PutTc.mono _ _ _ _ _)
      | (with_reducible exact LeO.refl _)
      | (with_reducible exact LeO.none _)
      | (with_reducible refine LeO.ite ?_ ?_)
      | (with_reducible refine LeO.bind ?_ (fun _ => ?_))
      | exact ih0 _ _ _ _ _ _ _ _ _ _ _ _ _ _ _ _
      | exact ih1 _ _ _ _ _ _ _ _ _ _ _ _ _ _ _ _
      | exact ih2 _ _ _ _ _ _ _ _ _ _ _ _ _ _ _ _
      | exact spec_BlockOk.mono _ _ _ _ _ _ _ _ _ _ _ _ _ _ _
      | exact spec_PutNum.mono _ _ _
      | exact spec_PutText.mono _ _ _
      | exact spec_l5Put.mono _ _ _ _ _ _ _
      | exact spec_l9PutQc.mono _ _ _ _ _
      | exact spec_l9PutTc.mono _ _ _ _ _
      | exact LeO.none _
      | refine LeO.ite ?_ ?_
      | refine LeO.bind ?_ (fun _ => ?_)
theorem spec_PutBlock.mono : ∀ a0 a1 a2 a3 a4 a5 a6 a7 a8 a9 a10 a11 a12 a13 k, LeO (spec_PutBlock.f k a0 a1 a2 a3 a4 a5 a6 a7 a8 a9 a10 a11 a12 a13) (spec_PutBlock.f (k + 1) a0 a1 a2 a3 a4 a5 a6 a7 a8 a9 a10 a11 a12 a13) := by
  intro a0 a1 a2 a3 a4 a5 a6 a7 a8 a9 a10 a11 a12 a13 k
  obtain ⟨ih0, ih1, ih2⟩ := spec_PutBlock.mono_l k
  unfold spec_PutBlock.f
  repeat' first
      | (with_reducible exact ih0 _ _ _ _ _ _ _ _ _ _ _ _ _ _ _ _)
      | (with_reducible exact ih1 _ _ _ _ _ _ _ _ _ _ _ _ _ _ _ _)
      | (with_reducible exact ih2 _ _ _ _ _ _ _ _ _ _ _ _ _ _ _ _)
      | (with_reducible exact spec_BlockOk.mono _ _ _ _ _ _ _ _ _ _ _ _ _ _ _)
      | (with_reducible exact spec_PutNum.mono _ _ _)
      | (with_reducible exact spec_PutText.mono _ _ _)
      | (with_reducible exact spec_l5Put.mono _ _ _ _ _ _ _)
      | (with_reducible exact spec_l9PutQc.mono _ _ _ _ _)
      | (with_reducible exact spec_l9PutTc.mono _ _ _ _ _)
      | (with_reducible exact LeO.refl _)
      | (with_reducible exact LeO.none _)
      | (with_reducible refine LeO.ite ?_ ?_)
      | (with_reducible refine LeO.bind ?_ (fun _ => ?_))
      | exact ih0 _ _ _ _ _ _ _ _ _ _ _ _ _ _ _ _
      | exact ih1 _ _ _ _ _ _ _ _ _ _ _ _ _ _ _ _
      | exact ih2 _ _ _ _ _ _ _ _ _ _ _ _ _ _ _ _
      | exact spec_BlockOk.mono _ _ _ _ _ _ _ _ _ _ _ _ _ _ _
      | exact spec_PutNum.mono _ _ _
      | exact spec_PutText.mono _ _ _
      | exact spec_l5Put.mono _ _ _ _ _ _ _
      | exact spec_l9PutQc.mono _ _ _ _ _
      | exact spec_l9PutTc.mono _ _ _ _ _
      | exact LeO.none _
      | refine LeO.ite ?_ ?_
      | refine LeO.bind ?_ (fun _ => ?_)
def spec_PutBlock.T3 : Bool × List (List Nat × List Nat) := (true, [([], []), ([], []), ([1], [1]), ([0, 2], [0, 2]), ([], []), ([4], [4]), ([3, 5, 3], [3, 5]), ([], []), ([7], [7]), ([6, 8, 6], [6, 8]), ([], []), ([10], [10]), ([9, 11, 9], [9, 11]), ([12, 12, 0, 1, 2, 3, 4, 5, 6, 7, 8, 9, 10, 11, 12], [12])])
def spec_PutBlock.B3 : List Nat := [0, 0, 2, 7, 0, 16, 63, 0, 128, 511, 0, 1024, 4095, 8191]
theorem spec_PutBlock.tab3 : rtab .any (opsOf Try.f68 3) = spec_PutBlock.T3 := by kernel_rfl
theorem spec_PutBlock.bits3 : waitsOk spec_PutBlock.T3.2 spec_PutBlock.B3 = true := by kernel_rfl
def spec_PutBlock.T4 : Bool × List (List Nat × List Nat) := (true, [([], []), ([], []), ([1], [1]), ([0, 2], [0, 2]), ([], []), ([4], [4]), ([3, 5, 3], [3, 5]), ([], []), ([7], [7]), ([8], [8]), ([6, 9, 6], [6, 9]), ([10, 10, 0, 1, 2, 3, 4, 5, 6, 7, 8, 9, 10], [0, 10])])
def spec_PutBlock.B4 : List Nat := [0, 0, 2, 7, 0, 16, 63, 0, 128, 384, 1023, 2047]
theorem spec_PutBlock.tab4 : rtab .any (opsOf Try.f68 4) = spec_PutBlock.T4 := by kernel_rfl
theorem spec_PutBlock.bits4 : waitsOk spec_PutBlock.T4.2 spec_PutBlock.B4 = true := by kernel_rfl
def spec_PutBlock.T12 : Bool × List (List Nat × List Nat) := (true, [([], []), ([], []), ([0, 1], [0, 1]), ([], []), ([3], [3]), ([4], [4]), ([2, 5, 2], [2, 5]), ([6, 6, 0, 1, 2, 3, 4, 5, 6], [0, 6])])
def spec_PutBlock.B12 : List Nat := [0, 0, 3, 0, 8, 24, 63, 127]
theorem spec_PutBlock.tab12 : rtab .any (opsOf Try.f68 12) = spec_PutBlock.T12 := by kernel_rfl
theorem spec_PutBlock.bits12 : waitsOk spec_PutBlock.T12.2 spec_PutBlock.B12 = true := by kernel_rfl
def spec_PutBlock.T16 : Bool × List (List Nat × List Nat) := (true, [([], []), ([], []), ([1], [1]), ([], []), ([2, 3], [2, 3]), ([4], [4]), ([5], [5]), ([0, 6], [0, 6]), ([], []), ([8], [8]), ([], []), ([9, 10], [9, 10]), ([11], [11]), ([12], [12]), ([7, 13, 7], [7, 13]), ([14, 14, 0, 1, 2, 3, 4, 5, 6, 7, 8, 9, 10, 11, 12, 13, 14], [0, 14])])
def spec_PutBlock.B16 : List Nat := [0, 0, 2, 0, 14, 30, 62, 127, 0, 256, 0, 1792, 3840, 7936, 16383, 32767]
theorem spec_PutBlock.tab16 : rtab .any (opsOf Try.f68 16) = spec_PutBlock.T16 := by kernel_rfl
theorem spec_PutBlock.bits16 : waitsOk spec_PutBlock.T16.2 spec_PutBlock.B16 = true := by kernel_rfl
set_option maxHeartbeats 8000000 in
set_option maxRecDepth 100000 in
theorem spec_PutBlock.calls (k : Nat) (a0_0 : Int) (a0_1 : Int) (a0_2 : Int) (a0_3 : ByteArray) (a0_4 : Int) (a0_5 : Int) (A0_6 : Option Addr) (c0_6 : Nat) (l0_6 : List ByteArray) (a0_7 : Int) (A0_8 : Option Addr) (c0_8 : Nat) (l0_8 : List ByteArray) (A0_9 : Option Addr) (c0_9 : Nat) (l0_9 : List Int) (A0_10 : Option Addr) (c0_10 : Nat) (l0_10 : List (S186)) (a0_11 : Bool) (A0_12 : Option Addr) (c0_12 : Nat) (l0_12 : List (S138)) (a0_13 : ByteArray) (r : List Int) (w : World) (hr0_6 : Kd.C Kd.string w A0_6 l0_6.length l0_6) (hc0_6 : l0_6.length ≤ c0_6) (hr0_8 : Kd.C Kd.string w A0_8 l0_8.length l0_8) (hc0_8 : l0_8.length ≤ c0_8) (hr0_9 : Kd.C (Kd.int .i64) w A0_9 l0_9.length l0_9) (hc0_9 : l0_9.length ≤ c0_9) (hr0_10 : Kd.C k186 w A0_10 l0_10.length l0_10) (hc0_10 : l0_10.length ≤ c0_10) (hr0_12 : Kd.C k138 w A0_12 l0_12.length l0_12) (hc0_12 : l0_12.length ≤ c0_12) (h : spec_PutBlock.f k a0_0 a0_1 a0_2 a0_3 a0_4 a0_5 l0_6 a0_7 l0_8 l0_9 l0_10 a0_11 l0_12 a0_13 = some r) :
    Calls Try.prog 68 #[.agg #[.int .i64 a0_0, .int .i64 a0_1, .int .i64 a0_2, .string a0_3, .int .i64 a0_4, .int .i64 a0_5, .slice A0_6 l0_6.length c0_6, .int .i64 a0_7, .slice A0_8 l0_8.length c0_8, .slice A0_9 l0_9.length c0_9, .slice A0_10 l0_10.length c0_10, .bool a0_11, .slice A0_12 l0_12.length c0_12, .string a0_13]] w fun e w' => ∃ v0_ : Value, e = .returned (v0_) ∧ Kd.R (Kd.int .u8) 5 w' w.heap.size (fun _ => True) v0_ r ∧ Below w.heap.size w w' := by
  have hu113 := Try.underlying113
  have hu49 := Try.underlying49
  have hu60 := Try.underlying60
  have hu186 := Try.underlying186
  have HR0_6 := Aside0.mk hr0_6
  have HC0_6 := Aside0.mk hc0_6
  clear hr0_6 hc0_6
  have HR0_8 := Aside0.mk hr0_8
  have HC0_8 := Aside0.mk hc0_8
  clear hr0_8 hc0_8
  have HR0_9 := Aside0.mk hr0_9
  have HC0_9 := Aside0.mk hc0_9
  clear hr0_9 hc0_9
  have HR0_10 := Aside0.mk hr0_10
  have HC0_10 := Aside0.mk hc0_10
  clear hr0_10 hc0_10
  have HR0_12 := Aside0.mk hr0_12
  have HC0_12 := Aside0.mk hc0_12
  clear hr0_12 hc0_12
  have HB := Aside0.mk (Below.refl w.heap.size w)
  have H : ((spec_BlockOk.f k a0_0 a0_1 a0_2 a0_3 a0_4 a0_5 l0_6 a0_7 l0_8 l0_9 l0_10 a0_11 l0_12 a0_13).bind fun t1503 => (if t1503 = true then ((spec_PutNum.f k (([] : List Int)) a0_0).bind fun t1510 => ((spec_PutNum.f k t1510 a0_1).bind fun t1513 => ((spec_PutNum.f k t1513 a0_2).bind fun t1516 => ((spec_PutText.f k t1516 a0_3).bind fun t1519 => ((spec_l9PutQc.f k t1519 a0_4 a0_5 l0_6).bind fun t1522 => ((spec_l9PutTc.f k t1522 a0_7 l0_8 l0_9).bind fun t1525 => ((spec_PutNum.f k t1525 (l0_10.length : Int)).bind fun t1528 => (spec_PutBlock.l0 k t1528 0 a0_0 a0_1 a0_2 a0_3 a0_4 a0_5 l0_6 a0_7 l0_8 l0_9 l0_10 a0_11 l0_12 a0_13)))))))) else (some (([] : List Int))))) = some r := h
  clear h
  replace H := Option.bind_eq_some_iff.mp H
  obtain ⟨t1503, A20, H⟩ := H
  replace H : (if t1503 = true then ((spec_PutNum.f k (([] : List Int)) a0_0).bind fun t1510 => ((spec_PutNum.f k t1510 a0_1).bind fun t1513 => ((spec_PutNum.f k t1513 a0_2).bind fun t1516 => ((spec_PutText.f k t1516 a0_3).bind fun t1519 => ((spec_l9PutQc.f k t1519 a0_4 a0_5 l0_6).bind fun t1522 => ((spec_l9PutTc.f k t1522 a0_7 l0_8 l0_9).bind fun t1525 => ((spec_PutNum.f k t1525 (l0_10.length : Int)).bind fun t1528 => (spec_PutBlock.l0 k t1528 0 a0_0 a0_1 a0_2 a0_3 a0_4 a0_5 l0_6 a0_7 l0_8 l0_9 l0_10 a0_11 l0_12 a0_13)))))))) else (some (([] : List Int)))) = some r := H
  have A2 := Aside0.mk A20
  clear A20
  by_cases c3 : t1503 = true
  · subst c3
    have H1 : ((spec_PutNum.f k (([] : List Int)) a0_0).bind fun t1510 => ((spec_PutNum.f k t1510 a0_1).bind fun t1513 => ((spec_PutNum.f k t1513 a0_2).bind fun t1516 => ((spec_PutText.f k t1516 a0_3).bind fun t1519 => ((spec_l9PutQc.f k t1519 a0_4 a0_5 l0_6).bind fun t1522 => ((spec_l9PutTc.f k t1522 a0_7 l0_8 l0_9).bind fun t1525 => ((spec_PutNum.f k t1525 (l0_10.length : Int)).bind fun t1528 => (spec_PutBlock.l0 k t1528 0 a0_0 a0_1 a0_2 a0_3 a0_4 a0_5 l0_6 a0_7 l0_8 l0_9 l0_10 a0_11 l0_12 a0_13)))))))) = some r := by rw [if_pos rfl] at H; exact H
    clear H
    have H := H1
    clear H1
    obtain ⟨y1507, hy1507⟩ : ∃ y_ : List Int, y_ = (([] : List Int)) := ⟨_, rfl⟩
    replace H : ((spec_PutNum.f k y1507 a0_0).bind fun t1510 => ((spec_PutNum.f k t1510 a0_1).bind fun t1513 => ((spec_PutNum.f k t1513 a0_2).bind fun t1516 => ((spec_PutText.f k t1516 a0_3).bind fun t1519 => ((spec_l9PutQc.f k t1519 a0_4 a0_5 l0_6).bind fun t1522 => ((spec_l9PutTc.f k t1522 a0_7 l0_8 l0_9).bind fun t1525 => ((spec_PutNum.f k t1525 (l0_10.length : Int)).bind fun t1528 => (spec_PutBlock.l0 k t1528 0 a0_0 a0_1 a0_2 a0_3 a0_4 a0_5 l0_6 a0_7 l0_8 l0_9 l0_10 a0_11 l0_12 a0_13)))))))) = some r := by first | (rw [hy1507]; with_reducible exact H) | (have H2_ := (Option.bind_some _ _).symm.trans H; rw [hy1507]; with_reducible exact H2_) | (have H2_ := (Option.bind_some _ _).symm.trans H; with_reducible exact H2_) | with_reducible exact H | (rw [hy1507]; exact H) | exact H
    have Ny1507 := Aside0.mk hy1507
    clear hy1507
    replace H := Option.bind_eq_some_iff.mp H
    obtain ⟨t1510, A40, H⟩ := H
    replace H : ((spec_PutNum.f k t1510 a0_1).bind fun t1513 => ((spec_PutNum.f k t1513 a0_2).bind fun t1516 => ((spec_PutText.f k t1516 a0_3).bind fun t1519 => ((spec_l9PutQc.f k t1519 a0_4 a0_5 l0_6).bind fun t1522 => ((spec_l9PutTc.f k t1522 a0_7 l0_8 l0_9).bind fun t1525 => ((spec_PutNum.f k t1525 (l0_10.length : Int)).bind fun t1528 => (spec_PutBlock.l0 k t1528 0 a0_0 a0_1 a0_2 a0_3 a0_4 a0_5 l0_6 a0_7 l0_8 l0_9 l0_10 a0_11 l0_12 a0_13))))))) = some r := H
    have A4 := Aside0.mk A40
    clear A40
    replace H := Option.bind_eq_some_iff.mp H
    obtain ⟨t1513, A50, H⟩ := H
    replace H : ((spec_PutNum.f k t1513 a0_2).bind fun t1516 => ((spec_PutText.f k t1516 a0_3).bind fun t1519 => ((spec_l9PutQc.f k t1519 a0_4 a0_5 l0_6).bind fun t1522 => ((spec_l9PutTc.f k t1522 a0_7 l0_8 l0_9).bind fun t1525 => ((spec_PutNum.f k t1525 (l0_10.length : Int)).bind fun t1528 => (spec_PutBlock.l0 k t1528 0 a0_0 a0_1 a0_2 a0_3 a0_4 a0_5 l0_6 a0_7 l0_8 l0_9 l0_10 a0_11 l0_12 a0_13)))))) = some r := H
    have A5 := Aside0.mk A50
    clear A50
    replace H := Option.bind_eq_some_iff.mp H
    obtain ⟨t1516, A60, H⟩ := H
    replace H : ((spec_PutText.f k t1516 a0_3).bind fun t1519 => ((spec_l9PutQc.f k t1519 a0_4 a0_5 l0_6).bind fun t1522 => ((spec_l9PutTc.f k t1522 a0_7 l0_8 l0_9).bind fun t1525 => ((spec_PutNum.f k t1525 (l0_10.length : Int)).bind fun t1528 => (spec_PutBlock.l0 k t1528 0 a0_0 a0_1 a0_2 a0_3 a0_4 a0_5 l0_6 a0_7 l0_8 l0_9 l0_10 a0_11 l0_12 a0_13))))) = some r := H
    have A6 := Aside0.mk A60
    clear A60
    replace H := Option.bind_eq_some_iff.mp H
    obtain ⟨t1519, A70, H⟩ := H
    replace H : ((spec_l9PutQc.f k t1519 a0_4 a0_5 l0_6).bind fun t1522 => ((spec_l9PutTc.f k t1522 a0_7 l0_8 l0_9).bind fun t1525 => ((spec_PutNum.f k t1525 (l0_10.length : Int)).bind fun t1528 => (spec_PutBlock.l0 k t1528 0 a0_0 a0_1 a0_2 a0_3 a0_4 a0_5 l0_6 a0_7 l0_8 l0_9 l0_10 a0_11 l0_12 a0_13)))) = some r := H
    have A7 := Aside0.mk A70
    clear A70
    replace H := Option.bind_eq_some_iff.mp H
    obtain ⟨t1522, A80, H⟩ := H
    replace H : ((spec_l9PutTc.f k t1522 a0_7 l0_8 l0_9).bind fun t1525 => ((spec_PutNum.f k t1525 (l0_10.length : Int)).bind fun t1528 => (spec_PutBlock.l0 k t1528 0 a0_0 a0_1 a0_2 a0_3 a0_4 a0_5 l0_6 a0_7 l0_8 l0_9 l0_10 a0_11 l0_12 a0_13))) = some r := H
    have A8 := Aside0.mk A80
    clear A80
    replace H := Option.bind_eq_some_iff.mp H
    obtain ⟨t1525, A90, H⟩ := H
    replace H : ((spec_PutNum.f k t1525 (l0_10.length : Int)).bind fun t1528 => (spec_PutBlock.l0 k t1528 0 a0_0 a0_1 a0_2 a0_3 a0_4 a0_5 l0_6 a0_7 l0_8 l0_9 l0_10 a0_11 l0_12 a0_13)) = some r := H
    have A9 := Aside0.mk A90
    clear A90
    replace H := Option.bind_eq_some_iff.mp H
    obtain ⟨t1528, A100, H⟩ := H
    replace H : (spec_PutBlock.l0 k t1528 0 a0_0 a0_1 a0_2 a0_3 a0_4 a0_5 l0_6 a0_7 l0_8 l0_9 l0_10 a0_11 l0_12 a0_13) = some r := H
    have A10 := Aside0.mk A100
    clear A100
    have H' := Aside0.mk H
    clear H
    go_enter Try.func68, Try.ntmps68
    try go_wp2_with (first | ((with_reducible refine gate_dst (N := 1) rfl ?_); refine box_event ?hg (N := 1) ?hd (cs := #[.int .i64 a0_0, .int .i64 a0_1, .int .i64 a0_2, .string a0_3, .int .i64 a0_4, .int .i64 a0_5, .slice A0_6 l0_6.length c0_6, .int .i64 a0_7, .slice A0_8 l0_8.length c0_8, .slice A0_9 l0_9.length c0_9, .slice A0_10 l0_10.length c0_10, .bool a0_11, .slice A0_12 l0_12.length c0_12, .string a0_13]) (t := 113) ?hr ?_; (case hd => rfl); (case hg => rfl); (case hr => first | (go_simp; done) | (go_simp; rfl)); intro gb1502 hg w11 hbox hb; have n0_ := Aside0.mk (below_step (by repeat (first | (with_reducible first | exact HB.out | apply below_alloc | apply pw_below_drewN | apply below_drew1) | exact HB.out)) hb); have n1_ := Aside0.mk (hbox); have n2_ := Aside0.mk ((by rw [hg]; exact (below_size (by repeat (first | (with_reducible first | exact HB.out | apply below_alloc | apply pw_below_drewN | apply below_drew1) | exact HB.out))) : w.heap.size ≤ gb1502)); have n3_ := n2_; clear HB; have HB := n0_; have BK1502 := n1_; have GW1502 := n2_; have GE1502 := n3_; clear n0_ n1_ n2_ n3_; clear hb hbox hg; obtain ⟨hcz12_0, hcz12_1, hcz12_2, hcz12_3, hcz12_4, hcz12_5, hcz12_6, hcz12_7, hcz12_8, hcz12_9, hcz12_10, hcz12_11, hcz12_12, hcz12_13⟩ := cells14 BK1502.out; obtain ⟨hfz12_0, hfz12_1, hfz12_2, hfz12_3, hfz12_4, hfz12_5, hfz12_6, hfz12_7, hfz12_8, hfz12_9, hfz12_10, hfz12_11, hfz12_12, hfz12_13⟩ := frozens14 BK1502.out) | ((with_reducible refine gate_callee (f := 151) rfl ?_); refine goesL_ (some 8) rfl rfl Try.func151 (by kernel_rfl) rfl #[.agg #[.int .i64 a0_0, .int .i64 a0_1, .int .i64 a0_2, .string a0_3, .int .i64 a0_4, .int .i64 a0_5, .slice A0_6 l0_6.length c0_6, .int .i64 a0_7, .slice A0_8 l0_8.length c0_8, .slice A0_9 l0_9.length c0_9, .slice A0_10 l0_10.length c0_10, .bool a0_11, .slice A0_12 l0_12.length c0_12, .string a0_13]] rfl (by (try simp only [List.map_toArray, List.map_cons, List.map_nil]); first | done | rfl | (simp only [List.length_drop, List.length_take]; rfl)) ?_; (with_reducible refine (spec_BlockOk.calls k a0_0 a0_1 a0_2 a0_3 a0_4 a0_5 _ _ l0_6 a0_7 _ _ l0_8 _ _ l0_9 _ _ l0_10 a0_11 _ _ l0_12 a0_13 true _ ?side1 ?side2 ?side3 ?side4 ?side5 ?side6 ?side7 ?side8 ?side9 ?side10 A2.out).mono ?_); (case side1 => repeat (first | exact (Kd.C_below HR0_6.out HB.out) | (with_reducible refine Kd.C_alloc ?_ _) | (with_reducible refine Kd.C_drewN ?_ _) | (with_reducible refine Kd.C_drew ?_))); (case side2 => exact HC0_6.out); (case side3 => repeat (first | exact (Kd.C_below HR0_8.out HB.out) | (with_reducible refine Kd.C_alloc ?_ _) | (with_reducible refine Kd.C_drewN ?_ _) | (with_reducible refine Kd.C_drew ?_))); (case side4 => exact HC0_8.out); (case side5 => repeat (first | exact (Kd.C_below HR0_9.out HB.out) | (with_reducible refine Kd.C_alloc ?_ _) | (with_reducible refine Kd.C_drewN ?_ _) | (with_reducible refine Kd.C_drew ?_))); (case side6 => exact HC0_9.out); (case side7 => repeat (first | exact (Kd.C_below HR0_10.out HB.out) | (with_reducible refine Kd.C_alloc ?_ _) | (with_reducible refine Kd.C_drewN ?_ _) | (with_reducible refine Kd.C_drew ?_))); (case side8 => exact HC0_10.out); (case side9 => repeat (first | exact (Kd.C_below HR0_12.out HB.out) | (with_reducible refine Kd.C_alloc ?_ _) | (with_reducible refine Kd.C_drewN ?_ _) | (with_reducible refine Kd.C_drew ?_))); (case side10 => exact HC0_12.out); rintro e w13 ⟨rfl, hb⟩; refine ⟨_, rfl, ?_⟩; have n0_ := Aside0.mk (blk_below (g := gb1502) (by (with_reducible repeat (first | refine blk_drewN ?_ _ | refine blk_drew ?_ | refine blk_alloc ?_ _)); exact BK1502.out) hb); have n1_ := Aside0.mk (below_step (by repeat (first | (with_reducible first | exact HB.out | apply below_alloc | apply pw_below_drewN | apply below_drew1 | refine below_set ?_ GE1502.out) | exact HB.out)) hb); clear BK1502; clear HB; have BK1502 := n0_; have HB := n1_; clear n0_ n1_; (try clear hb); (try clear hb2); (try clear hk); (try clear hi)))
    have n0_ := Aside0.mk (blk_drew BK1502.out)
    have n1_ := Aside0.mk (below_drew1 HB.out)
    clear BK1502
    clear HB
    have BK1502 := n0_
    have HB := n1_
    clear n0_ n1_
    refine start_ (n := 14) (S := fun w' => w'.cell? ⟨gb1502, 0, none⟩ = some (.int .i64 a0_0) ∧ w'.cell? ⟨gb1502, 1, none⟩ = some (.int .i64 a0_1) ∧ w'.cell? ⟨gb1502, 2, none⟩ = some (.int .i64 a0_2) ∧ w'.cell? ⟨gb1502, 3, none⟩ = some (.string a0_3) ∧ w'.cell? ⟨gb1502, 4, none⟩ = some (.int .i64 a0_4) ∧ w'.cell? ⟨gb1502, 5, none⟩ = some (.int .i64 a0_5) ∧ w'.cell? ⟨gb1502, 6, none⟩ = some (.slice A0_6 l0_6.length c0_6) ∧ w'.cell? ⟨gb1502, 7, none⟩ = some (.int .i64 a0_7) ∧ w'.cell? ⟨gb1502, 8, none⟩ = some (.slice A0_8 l0_8.length c0_8) ∧ w'.cell? ⟨gb1502, 9, none⟩ = some (.slice A0_9 l0_9.length c0_9) ∧ w'.cell? ⟨gb1502, 10, none⟩ = some (.slice A0_10 l0_10.length c0_10) ∧ w'.cell? ⟨gb1502, 11, none⟩ = some (.bool a0_11) ∧ w'.cell? ⟨gb1502, 12, none⟩ = some (.slice A0_12 l0_12.length c0_12) ∧ w'.cell? ⟨gb1502, 13, none⟩ = some (.string a0_13)) (ds := []) #[false, false, false, false, false, false, false, false, false, false, false, false, false, false] (by kernel_rfl) rfl rfl ⟨(blk_cell BK1502.out 0).trans rfl, (blk_cell BK1502.out 1).trans rfl, (blk_cell BK1502.out 2).trans rfl, (blk_cell BK1502.out 3).trans rfl, (blk_cell BK1502.out 4).trans rfl, (blk_cell BK1502.out 5).trans rfl, (blk_cell BK1502.out 6).trans rfl, (blk_cell BK1502.out 7).trans rfl, (blk_cell BK1502.out 8).trans rfl, (blk_cell BK1502.out 9).trans rfl, (blk_cell BK1502.out 10).trans rfl, (blk_cell BK1502.out 11).trans rfl, (blk_cell BK1502.out 12).trans rfl, (blk_cell BK1502.out 13).trans rfl⟩ (fun hHeld => ?_); refine with_tabW spec_PutBlock.tab3 spec_PutBlock.bits3 (fun HT_ HW_ => ?_)
    generalize w13.drew = w14 at BK1502 HB hHeld ⊢
    refine pure_ (i := 1) (N := some 12) (v := ?_) (a' := ?_) #[false, true, false, false, false, false, false, false, false, false, false, false, false, false] rfl rfl (any_of HT_.out (by kernel_rfl)) (fun _ _ _ h => h) (Or.inl ⟨by rfl, ?_⟩) ?_ ?_
    rotate_left
    · intro w'
      go_simp
      with_reducible rfl
    rotate_left
    · simp only [Act.put, List.setIfInBounds_toArray, List.set_cons_zero, List.set_cons_succ, i64_w, i32_w]
      rfl
    refine pure_ (i := 4) (N := some 15) (v := ?_) (a' := ?_) #[false, true, false, false, true, false, false, false, false, false, false, false, false, false] rfl rfl (any_of HT_.out (by kernel_rfl)) (fun _ _ _ h => h) (Or.inl ⟨by rfl, ?_⟩) ?_ ?_
    rotate_left
    · intro w'
      go_simp
      with_reducible rfl
    rotate_left
    · simp only [Act.put, List.setIfInBounds_toArray, List.set_cons_zero, List.set_cons_succ, i64_w, i32_w]
      rfl
    refine pure_ (i := 7) (N := some 18) (v := ?_) (a' := ?_) #[false, true, false, false, true, false, false, true, false, false, false, false, false, false] rfl rfl (any_of HT_.out (by kernel_rfl)) (fun _ _ _ h => h) (Or.inl ⟨by rfl, ?_⟩) ?_ ?_
    rotate_left
    · intro w'
      go_simp
      with_reducible rfl
    rotate_left
    · simp only [Act.put, List.setIfInBounds_toArray, List.set_cons_zero, List.set_cons_succ, i64_w, i32_w]
      rfl
    refine pure_ (i := 10) (N := some 21) (v := ?_) (a' := ?_) #[false, true, false, false, true, false, false, true, false, false, true, false, false, false] rfl rfl (any_of HT_.out (by kernel_rfl)) (fun _ _ _ h => h) (Or.inl ⟨by rfl, ?_⟩) ?_ ?_
    rotate_left
    · intro w'
      go_simp
      with_reducible rfl
    rotate_left
    · simp only [Act.put, List.setIfInBounds_toArray, List.set_cons_zero, List.set_cons_succ, i64_w, i32_w]
      rfl
    refine take_ (i := 2) (N := some 13) (v := ?_) (a' := ?_) #[false, true, true, false, true, false, false, true, false, false, true, false, false, false] rfl rfl (take_ofW HT_.out HW_.out (by kernel_rfl)) (fun _ _ _ h => h) (Or.inl ⟨by rfl, ?_⟩) hHeld ?_ ?_
    rotate_left
    · rintro w' ⟨s0, s1, s2, s3, s4, s5, s6, s7, s8, s9, s10, s11, s12, s13⟩
      go_simp
      with_reducible rfl
    rotate_left
    · simp only [Act.put, List.setIfInBounds_toArray, List.set_cons_zero, List.set_cons_succ, i64_w, i32_w]
      rfl
    refine take_ (i := 5) (N := some 16) (v := ?_) (a' := ?_) #[false, true, true, false, true, true, false, true, false, false, true, false, false, false] rfl rfl (take_ofW HT_.out HW_.out (by kernel_rfl)) (fun _ _ _ h => h) (Or.inl ⟨by rfl, ?_⟩) hHeld ?_ ?_
    rotate_left
    · rintro w' ⟨s0, s1, s2, s3, s4, s5, s6, s7, s8, s9, s10, s11, s12, s13⟩
      go_simp
      with_reducible rfl
    rotate_left
    · simp only [Act.put, List.setIfInBounds_toArray, List.set_cons_zero, List.set_cons_succ, i64_w, i32_w]
      rfl
    refine take_ (i := 8) (N := some 19) (v := ?_) (a' := ?_) #[false, true, true, false, true, true, false, true, true, false, true, false, false, false] rfl rfl (take_ofW HT_.out HW_.out (by kernel_rfl)) (fun _ _ _ h => h) (Or.inl ⟨by rfl, ?_⟩) hHeld ?_ ?_
    rotate_left
    · rintro w' ⟨s0, s1, s2, s3, s4, s5, s6, s7, s8, s9, s10, s11, s12, s13⟩
      go_simp
      with_reducible rfl
    rotate_left
    · simp only [Act.put, List.setIfInBounds_toArray, List.set_cons_zero, List.set_cons_succ, i64_w, i32_w]
      rfl
    refine take_ (i := 11) (N := some 22) (v := ?_) (a' := ?_) #[false, true, true, false, true, true, false, true, true, false, true, true, false, false] rfl rfl (take_ofW HT_.out HW_.out (by kernel_rfl)) (fun _ _ _ h => h) (Or.inl ⟨by rfl, ?_⟩) hHeld ?_ ?_
    rotate_left
    · rintro w' ⟨s0, s1, s2, s3, s4, s5, s6, s7, s8, s9, s10, s11, s12, s13⟩
      go_simp
      with_reducible rfl
    rotate_left
    · simp only [Act.put, List.setIfInBounds_toArray, List.set_cons_zero, List.set_cons_succ, i64_w, i32_w]
      rfl
    refine one_ (i := 0) (N := some 11) #[true, true, true, false, true, true, false, true, true, false, true, true, false, false] rfl rfl (one_of HT_.out (by kernel_rfl)) (by decide) (fun K hK => ?_)
    refine Kd.R_lit_step (Kd.int .u8) _ 5 ?hg (N := 11) ?hd (xs := ([] : List Int)) (inner := []) (ok := fun _ => True) (okp := fun _ => True) ?hr ?hp (fun _ hk => hk) trivial (Below.refl _ _) (Nat.le_refl _) (by simp) ?_; (case hd => rfl); (case hg => rfl); (case hr => first | (go_simp; done) | (go_simp; rfl)); (case hp => exact (Reps.none _ _))
    intro v1508 w15 ho16 hb hg_ hnew_
    clear hg_ hnew_
    (first | rw [← Ny1507.out] at ho16 | (simp only [Int.reduceToNat] at ho16; rw [← Ny1507.out] at ho16))
    have n0_ := Aside0.mk (Kd.R_lower ho16 (below_size (by repeat (first | (with_reducible first | exact HB.out | apply below_alloc | apply pw_below_drewN | apply below_drew1 | refine below_set ?_ GE1502.out) | exact HB.out))))
    have n1_ := Aside0.mk (blk_below (g := gb1502) (by (with_reducible repeat (first | refine blk_drewN ?_ _ | refine blk_drew ?_ | refine blk_alloc ?_ _)); exact BK1502.out) hb)
    have n2_ := Aside0.mk (below_step (by repeat (first | (with_reducible first | exact HB.out | apply below_alloc | apply pw_below_drewN | apply below_drew1 | refine below_set ?_ GE1502.out) | exact HB.out)) hb)
    clear BK1502
    clear HB
    have HO1509 := n0_
    have BK1502 := n1_
    have HB := n2_
    clear n0_ n1_ n2_
    clear hb ho16
    obtain ⟨Ao17, co17, eo17⟩ := Kd.R_slice HO1509.out
    (first | subst eo17 | (injection eo17 with f1_ f2_ f3_; have f4_ := f1_.symm; have f5_ := f3_.symm; clear f1_ f2_ f3_; subst f4_; subst f5_))
    refine hK.out _ _ ⟨(blk_cell BK1502.out 0).trans rfl, (blk_cell BK1502.out 1).trans rfl, (blk_cell BK1502.out 2).trans rfl, (blk_cell BK1502.out 3).trans rfl, (blk_cell BK1502.out 4).trans rfl, (blk_cell BK1502.out 5).trans rfl, (blk_cell BK1502.out 6).trans rfl, (blk_cell BK1502.out 7).trans rfl, (blk_cell BK1502.out 8).trans rfl, (blk_cell BK1502.out 9).trans rfl, (blk_cell BK1502.out 10).trans rfl, (blk_cell BK1502.out 11).trans rfl, (blk_cell BK1502.out 12).trans rfl, (blk_cell BK1502.out 13).trans rfl⟩ (fun hHeld => ?_)
    clear hK K
    refine norm_ (a' := ?_) ?_ ?_
    rotate_left
    · show Act.put _ (some 11) _ = _
      simp only [Act.put, List.setIfInBounds_toArray, List.set_cons_zero, List.set_cons_succ, i64_w, i32_w]
      rfl
    refine one_ (i := 3) (N := some 14) #[true, true, true, true, true, true, false, true, true, false, true, true, false, false] rfl rfl (one_of HT_.out (by kernel_rfl)) (by decide) (fun K hK => ?_)
    refine goes_ Try.func153 (by kernel_rfl) rfl #[.slice Ao17 y1507.length co17, .int .i64 a0_0] (by rfl) rfl rfl (by (try simp only [List.map_toArray, List.map_cons, List.map_nil]); first | done | rfl | (simp only [List.length_drop, List.length_take]; rfl)) ?_
    with_reducible refine (spec_PutNum.calls k _ _ y1507 a0_0 t1510 _ ?side1 ?side2 A4.out).mono ?_
    (case side1 => repeat (first | exact (Kd.R_reads' HO1509.out).2.2 | (with_reducible refine Kd.C_alloc ?_ _) | (with_reducible refine Kd.C_drewN ?_ _) | (with_reducible refine Kd.C_drew ?_)))
    (case side2 => exact (Kd.R_reads' HO1509.out).2.1)
    rintro e w18 ⟨v1511, rfl, ho0, hb⟩
    refine ⟨_, rfl, ?_⟩
    have n0_ := Aside0.mk (Kd.R_elder' (by (with_reducible repeat (first | apply Kd.R_alloc | apply Kd.R_drewN | apply Kd.R_drew)); exact HO1509.out) (Kd.R_base ho0) hb)
    have n1_ := Aside0.mk (Kd.R_lower (Kd.R_new' ho0 (Kd.R_lt (by (with_reducible repeat (first | apply Kd.R_alloc | apply Kd.R_drewN | apply Kd.R_drew)); exact HO1509.out))) (below_size (by repeat (first | (with_reducible first | exact HB.out | apply below_alloc | apply pw_below_drewN | apply below_drew1 | refine below_set ?_ GE1502.out) | exact HB.out))))
    have n2_ := Aside0.mk (blk_below (g := gb1502) (by (with_reducible repeat (first | refine blk_drewN ?_ _ | refine blk_drew ?_ | refine blk_alloc ?_ _)); exact BK1502.out) hb)
    have n3_ := Aside0.mk (below_step (by repeat (first | (with_reducible first | exact HB.out | apply below_alloc | apply pw_below_drewN | apply below_drew1 | refine below_set ?_ GE1502.out) | exact HB.out)) hb)
    clear HO1509
    clear BK1502
    clear HB
    have HO1509 := n0_
    have HO1512 := n1_
    have BK1502 := n2_
    have HB := n3_
    clear n0_ n1_ n2_ n3_
    (try clear hb)
    (try clear hb2)
    (try clear hk)
    (try clear hi)
    (try clear ho0)
    obtain ⟨Ao19, co19, eo19⟩ := Kd.R_slice HO1512.out
    (first | subst eo19 | (injection eo19 with f1_ f2_ f3_; have f4_ := f1_.symm; have f5_ := f3_.symm; clear f1_ f2_ f3_; subst f4_; subst f5_))
    refine hK.out _ _ ⟨(blk_cell BK1502.out 0).trans rfl, (blk_cell BK1502.out 1).trans rfl, (blk_cell BK1502.out 2).trans rfl, (blk_cell BK1502.out 3).trans rfl, (blk_cell BK1502.out 4).trans rfl, (blk_cell BK1502.out 5).trans rfl, (blk_cell BK1502.out 6).trans rfl, (blk_cell BK1502.out 7).trans rfl, (blk_cell BK1502.out 8).trans rfl, (blk_cell BK1502.out 9).trans rfl, (blk_cell BK1502.out 10).trans rfl, (blk_cell BK1502.out 11).trans rfl, (blk_cell BK1502.out 12).trans rfl, (blk_cell BK1502.out 13).trans rfl⟩ (fun hHeld => ?_)
    clear hK K
    refine norm_ (a' := ?_) ?_ ?_
    rotate_left
    · show Act.put _ (some 14) _ = _
      simp only [Act.put, List.setIfInBounds_toArray, List.set_cons_zero, List.set_cons_succ, i64_w, i32_w]
      rfl
    refine one_ (i := 6) (N := some 17) #[true, true, true, true, true, true, true, true, true, false, true, true, false, false] rfl rfl (one_of HT_.out (by kernel_rfl)) (by decide) (fun K hK => ?_)
    refine goes_ Try.func153 (by kernel_rfl) rfl #[.slice Ao19 t1510.length co19, .int .i64 a0_1] (by rfl) rfl rfl (by (try simp only [List.map_toArray, List.map_cons, List.map_nil]); first | done | rfl | (simp only [List.length_drop, List.length_take]; rfl)) ?_
    with_reducible refine (spec_PutNum.calls k _ _ t1510 a0_1 t1513 _ ?side1 ?side2 A5.out).mono ?_
    (case side1 => repeat (first | exact (Kd.R_reads' HO1512.out).2.2 | (with_reducible refine Kd.C_alloc ?_ _) | (with_reducible refine Kd.C_drewN ?_ _) | (with_reducible refine Kd.C_drew ?_)))
    (case side2 => exact (Kd.R_reads' HO1512.out).2.1)
    rintro e w20 ⟨v1514, rfl, ho0, hb⟩
    refine ⟨_, rfl, ?_⟩
    have n0_ := Aside0.mk (Kd.R_elder' (by (with_reducible repeat (first | apply Kd.R_alloc | apply Kd.R_drewN | apply Kd.R_drew)); exact HO1509.out) (Kd.R_base ho0) hb)
    have n1_ := Aside0.mk (Kd.R_elder' (by (with_reducible repeat (first | apply Kd.R_alloc | apply Kd.R_drewN | apply Kd.R_drew)); exact HO1512.out) (Kd.R_base ho0) hb)
    have n2_ := Aside0.mk (Kd.R_lower (Kd.R_new' (Kd.R_new' ho0 (Kd.R_lt (by (with_reducible repeat (first | apply Kd.R_alloc | apply Kd.R_drewN | apply Kd.R_drew)); exact HO1509.out))) (Kd.R_lt (by (with_reducible repeat (first | apply Kd.R_alloc | apply Kd.R_drewN | apply Kd.R_drew)); exact HO1512.out))) (below_size (by repeat (first | (with_reducible first | exact HB.out | apply below_alloc | apply pw_below_drewN | apply below_drew1 | refine below_set ?_ GE1502.out) | exact HB.out))))
    have n3_ := Aside0.mk (blk_below (g := gb1502) (by (with_reducible repeat (first | refine blk_drewN ?_ _ | refine blk_drew ?_ | refine blk_alloc ?_ _)); exact BK1502.out) hb)
    have n4_ := Aside0.mk (below_step (by repeat (first | (with_reducible first | exact HB.out | apply below_alloc | apply pw_below_drewN | apply below_drew1 | refine below_set ?_ GE1502.out) | exact HB.out)) hb)
    clear HO1509
    clear HO1512
    clear BK1502
    clear HB
    have HO1509 := n0_
    have HO1512 := n1_
    have HO1515 := n2_
    have BK1502 := n3_
    have HB := n4_
    clear n0_ n1_ n2_ n3_ n4_
    (try clear hb)
    (try clear hb2)
    (try clear hk)
    (try clear hi)
    (try clear ho0)
    obtain ⟨Ao21, co21, eo21⟩ := Kd.R_slice HO1515.out
    (first | subst eo21 | (injection eo21 with f1_ f2_ f3_; have f4_ := f1_.symm; have f5_ := f3_.symm; clear f1_ f2_ f3_; subst f4_; subst f5_))
    refine hK.out _ _ ⟨(blk_cell BK1502.out 0).trans rfl, (blk_cell BK1502.out 1).trans rfl, (blk_cell BK1502.out 2).trans rfl, (blk_cell BK1502.out 3).trans rfl, (blk_cell BK1502.out 4).trans rfl, (blk_cell BK1502.out 5).trans rfl, (blk_cell BK1502.out 6).trans rfl, (blk_cell BK1502.out 7).trans rfl, (blk_cell BK1502.out 8).trans rfl, (blk_cell BK1502.out 9).trans rfl, (blk_cell BK1502.out 10).trans rfl, (blk_cell BK1502.out 11).trans rfl, (blk_cell BK1502.out 12).trans rfl, (blk_cell BK1502.out 13).trans rfl⟩ (fun hHeld => ?_)
    clear hK K
    refine norm_ (a' := ?_) ?_ ?_
    rotate_left
    · show Act.put _ (some 17) _ = _
      simp only [Act.put, List.setIfInBounds_toArray, List.set_cons_zero, List.set_cons_succ, i64_w, i32_w]
      rfl
    refine one_ (i := 9) (N := some 20) #[true, true, true, true, true, true, true, true, true, true, true, true, false, false] rfl rfl (one_of HT_.out (by kernel_rfl)) (by decide) (fun K hK => ?_)
    refine goes_ Try.func153 (by kernel_rfl) rfl #[.slice Ao21 t1513.length co21, .int .i64 a0_2] (by rfl) rfl rfl (by (try simp only [List.map_toArray, List.map_cons, List.map_nil]); first | done | rfl | (simp only [List.length_drop, List.length_take]; rfl)) ?_
    with_reducible refine (spec_PutNum.calls k _ _ t1513 a0_2 t1516 _ ?side1 ?side2 A6.out).mono ?_
    (case side1 => repeat (first | exact (Kd.R_reads' HO1515.out).2.2 | (with_reducible refine Kd.C_alloc ?_ _) | (with_reducible refine Kd.C_drewN ?_ _) | (with_reducible refine Kd.C_drew ?_)))
    (case side2 => exact (Kd.R_reads' HO1515.out).2.1)
    rintro e w22 ⟨v1517, rfl, ho0, hb⟩
    refine ⟨_, rfl, ?_⟩
    have n0_ := Aside0.mk (Kd.R_elder' (by (with_reducible repeat (first | apply Kd.R_alloc | apply Kd.R_drewN | apply Kd.R_drew)); exact HO1509.out) (Kd.R_base ho0) hb)
    have n1_ := Aside0.mk (Kd.R_elder' (by (with_reducible repeat (first | apply Kd.R_alloc | apply Kd.R_drewN | apply Kd.R_drew)); exact HO1512.out) (Kd.R_base ho0) hb)
    have n2_ := Aside0.mk (Kd.R_elder' (by (with_reducible repeat (first | apply Kd.R_alloc | apply Kd.R_drewN | apply Kd.R_drew)); exact HO1515.out) (Kd.R_base ho0) hb)
    have n3_ := Aside0.mk (Kd.R_lower (Kd.R_new' (Kd.R_new' (Kd.R_new' ho0 (Kd.R_lt (by (with_reducible repeat (first | apply Kd.R_alloc | apply Kd.R_drewN | apply Kd.R_drew)); exact HO1509.out))) (Kd.R_lt (by (with_reducible repeat (first | apply Kd.R_alloc | apply Kd.R_drewN | apply Kd.R_drew)); exact HO1512.out))) (Kd.R_lt (by (with_reducible repeat (first | apply Kd.R_alloc | apply Kd.R_drewN | apply Kd.R_drew)); exact HO1515.out))) (below_size (by repeat (first | (with_reducible first | exact HB.out | apply below_alloc | apply pw_below_drewN | apply below_drew1 | refine below_set ?_ GE1502.out) | exact HB.out))))
    have n4_ := Aside0.mk (blk_below (g := gb1502) (by (with_reducible repeat (first | refine blk_drewN ?_ _ | refine blk_drew ?_ | refine blk_alloc ?_ _)); exact BK1502.out) hb)
    have n5_ := Aside0.mk (below_step (by repeat (first | (with_reducible first | exact HB.out | apply below_alloc | apply pw_below_drewN | apply below_drew1 | refine below_set ?_ GE1502.out) | exact HB.out)) hb)
    clear HO1509
    clear HO1512
    clear HO1515
    clear BK1502
    clear HB
    have HO1509 := n0_
    have HO1512 := n1_
    have HO1515 := n2_
    have HO1518 := n3_
    have BK1502 := n4_
    have HB := n5_
    clear n0_ n1_ n2_ n3_ n4_ n5_
    (try clear hb)
    (try clear hb2)
    (try clear hk)
    (try clear hi)
    (try clear ho0)
    obtain ⟨Ao23, co23, eo23⟩ := Kd.R_slice HO1518.out
    (first | subst eo23 | (injection eo23 with f1_ f2_ f3_; have f4_ := f1_.symm; have f5_ := f3_.symm; clear f1_ f2_ f3_; subst f4_; subst f5_))
    refine hK.out _ _ ⟨(blk_cell BK1502.out 0).trans rfl, (blk_cell BK1502.out 1).trans rfl, (blk_cell BK1502.out 2).trans rfl, (blk_cell BK1502.out 3).trans rfl, (blk_cell BK1502.out 4).trans rfl, (blk_cell BK1502.out 5).trans rfl, (blk_cell BK1502.out 6).trans rfl, (blk_cell BK1502.out 7).trans rfl, (blk_cell BK1502.out 8).trans rfl, (blk_cell BK1502.out 9).trans rfl, (blk_cell BK1502.out 10).trans rfl, (blk_cell BK1502.out 11).trans rfl, (blk_cell BK1502.out 12).trans rfl, (blk_cell BK1502.out 13).trans rfl⟩ (fun hHeld => ?_)
    clear hK K
    refine norm_ (a' := ?_) ?_ ?_
    rotate_left
    · show Act.put _ (some 20) _ = _
      simp only [Act.put, List.setIfInBounds_toArray, List.set_cons_zero, List.set_cons_succ, i64_w, i32_w]
      rfl
    refine one_ (i := 12) (N := some 23) #[true, true, true, true, true, true, true, true, true, true, true, true, true, false] rfl rfl (one_of HT_.out (by kernel_rfl)) (by decide) (fun K hK => ?_)
    refine goes_ Try.func152 (by kernel_rfl) rfl #[.slice Ao23 t1516.length co23, .string a0_3] (by rfl) rfl rfl (by (try simp only [List.map_toArray, List.map_cons, List.map_nil]); first | done | rfl | (simp only [List.length_drop, List.length_take]; rfl)) ?_
    with_reducible refine (spec_PutText.calls k _ _ t1516 a0_3 t1519 _ ?side1 ?side2 A7.out).mono ?_
    (case side1 => repeat (first | exact (Kd.R_reads' HO1518.out).2.2 | (with_reducible refine Kd.C_alloc ?_ _) | (with_reducible refine Kd.C_drewN ?_ _) | (with_reducible refine Kd.C_drew ?_)))
    (case side2 => exact (Kd.R_reads' HO1518.out).2.1)
    rintro e w24 ⟨v1520, rfl, ho0, hb⟩
    refine ⟨_, rfl, ?_⟩
    have n0_ := Aside0.mk (Kd.R_elder' (by (with_reducible repeat (first | apply Kd.R_alloc | apply Kd.R_drewN | apply Kd.R_drew)); exact HO1509.out) (Kd.R_base ho0) hb)
    have n1_ := Aside0.mk (Kd.R_elder' (by (with_reducible repeat (first | apply Kd.R_alloc | apply Kd.R_drewN | apply Kd.R_drew)); exact HO1512.out) (Kd.R_base ho0) hb)
    have n2_ := Aside0.mk (Kd.R_elder' (by (with_reducible repeat (first | apply Kd.R_alloc | apply Kd.R_drewN | apply Kd.R_drew)); exact HO1515.out) (Kd.R_base ho0) hb)
    have n3_ := Aside0.mk (Kd.R_elder' (by (with_reducible repeat (first | apply Kd.R_alloc | apply Kd.R_drewN | apply Kd.R_drew)); exact HO1518.out) (Kd.R_base ho0) hb)
    have n4_ := Aside0.mk (Kd.R_lower (Kd.R_new' (Kd.R_new' (Kd.R_new' (Kd.R_new' ho0 (Kd.R_lt (by (with_reducible repeat (first | apply Kd.R_alloc | apply Kd.R_drewN | apply Kd.R_drew)); exact HO1509.out))) (Kd.R_lt (by (with_reducible repeat (first | apply Kd.R_alloc | apply Kd.R_drewN | apply Kd.R_drew)); exact HO1512.out))) (Kd.R_lt (by (with_reducible repeat (first | apply Kd.R_alloc | apply Kd.R_drewN | apply Kd.R_drew)); exact HO1515.out))) (Kd.R_lt (by (with_reducible repeat (first | apply Kd.R_alloc | apply Kd.R_drewN | apply Kd.R_drew)); exact HO1518.out))) (below_size (by repeat (first | (with_reducible first | exact HB.out | apply below_alloc | apply pw_below_drewN | apply below_drew1 | refine below_set ?_ GE1502.out) | exact HB.out))))
    have n5_ := Aside0.mk (blk_below (g := gb1502) (by (with_reducible repeat (first | refine blk_drewN ?_ _ | refine blk_drew ?_ | refine blk_alloc ?_ _)); exact BK1502.out) hb)
    have n6_ := Aside0.mk (below_step (by repeat (first | (with_reducible first | exact HB.out | apply below_alloc | apply pw_below_drewN | apply below_drew1 | refine below_set ?_ GE1502.out) | exact HB.out)) hb)
    clear HO1509
    clear HO1512
    clear HO1515
    clear HO1518
    clear BK1502
    clear HB
    have HO1509 := n0_
    have HO1512 := n1_
    have HO1515 := n2_
    have HO1518 := n3_
    have HO1521 := n4_
    have BK1502 := n5_
    have HB := n6_
    clear n0_ n1_ n2_ n3_ n4_ n5_ n6_
    (try clear hb)
    (try clear hb2)
    (try clear hk)
    (try clear hi)
    (try clear ho0)
    refine hK.out _ _ ⟨(blk_cell BK1502.out 0).trans rfl, (blk_cell BK1502.out 1).trans rfl, (blk_cell BK1502.out 2).trans rfl, (blk_cell BK1502.out 3).trans rfl, (blk_cell BK1502.out 4).trans rfl, (blk_cell BK1502.out 5).trans rfl, (blk_cell BK1502.out 6).trans rfl, (blk_cell BK1502.out 7).trans rfl, (blk_cell BK1502.out 8).trans rfl, (blk_cell BK1502.out 9).trans rfl, (blk_cell BK1502.out 10).trans rfl, (blk_cell BK1502.out 11).trans rfl, (blk_cell BK1502.out 12).trans rfl, (blk_cell BK1502.out 13).trans rfl⟩ (fun hHeld => ?_)
    clear hK K
    refine norm_ (a' := ?_) ?_ ?_
    rotate_left
    · show Act.put _ (some 23) _ = _
      simp only [Act.put, List.setIfInBounds_toArray, List.set_cons_zero, List.set_cons_succ, i64_w, i32_w]
      rfl
    refine pure_ (i := 13) (N := some 3) (v := ?_) (a' := ?_) #[true, true, true, true, true, true, true, true, true, true, true, true, true, true] rfl rfl (any_of HT_.out (by kernel_rfl)) (fun _ _ _ h => h) (Or.inl ⟨by rfl, ?_⟩) ?_ ?_
    rotate_left
    · intro w'
      go_simp
      with_reducible rfl
    rotate_left
    · simp only [Act.put, List.setIfInBounds_toArray, List.set_cons_zero, List.set_cons_succ, i64_w, i32_w]
      rfl
    refine done_ (done_of HT_.out (by kernel_rfl)) ?_
    try go_wp2
    have n0_ := Aside0.mk (Kd.R_drew HO1509.out)
    have n1_ := Aside0.mk (Kd.R_drew HO1512.out)
    have n2_ := Aside0.mk (Kd.R_drew HO1515.out)
    have n3_ := Aside0.mk (Kd.R_drew HO1518.out)
    have n4_ := Aside0.mk (Kd.R_drew HO1521.out)
    have n5_ := Aside0.mk (blk_drew BK1502.out)
    have n6_ := Aside0.mk (below_drew1 HB.out)
    clear HO1509
    clear HO1512
    clear HO1515
    clear HO1518
    clear HO1521
    clear BK1502
    clear HB
    have HO1509 := n0_
    have HO1512 := n1_
    have HO1515 := n2_
    have HO1518 := n3_
    have HO1521 := n4_
    have BK1502 := n5_
    have HB := n6_
    clear n0_ n1_ n2_ n3_ n4_ n5_ n6_
    obtain ⟨Ao26, co26, eo26⟩ := Kd.R_slice HO1521.out
    (first | subst eo26 | (injection eo26 with f1_ f2_ f3_; have f4_ := f1_.symm; have f5_ := f3_.symm; clear f1_ f2_ f3_; subst f4_; subst f5_))
    refine start_ (n := 12) (S := fun w' => w'.cell? ⟨gb1502, 0, none⟩ = some (.int .i64 a0_0) ∧ w'.cell? ⟨gb1502, 1, none⟩ = some (.int .i64 a0_1) ∧ w'.cell? ⟨gb1502, 2, none⟩ = some (.int .i64 a0_2) ∧ w'.cell? ⟨gb1502, 3, none⟩ = some (.string a0_3) ∧ w'.cell? ⟨gb1502, 4, none⟩ = some (.int .i64 a0_4) ∧ w'.cell? ⟨gb1502, 5, none⟩ = some (.int .i64 a0_5) ∧ w'.cell? ⟨gb1502, 6, none⟩ = some (.slice A0_6 l0_6.length c0_6) ∧ w'.cell? ⟨gb1502, 7, none⟩ = some (.int .i64 a0_7) ∧ w'.cell? ⟨gb1502, 8, none⟩ = some (.slice A0_8 l0_8.length c0_8) ∧ w'.cell? ⟨gb1502, 9, none⟩ = some (.slice A0_9 l0_9.length c0_9) ∧ w'.cell? ⟨gb1502, 10, none⟩ = some (.slice A0_10 l0_10.length c0_10) ∧ w'.cell? ⟨gb1502, 11, none⟩ = some (.bool a0_11) ∧ w'.cell? ⟨gb1502, 12, none⟩ = some (.slice A0_12 l0_12.length c0_12) ∧ w'.cell? ⟨gb1502, 13, none⟩ = some (.string a0_13)) (ds := []) #[false, false, false, false, false, false, false, false, false, false, false, false] (by kernel_rfl) rfl rfl ⟨(blk_cell BK1502.out 0).trans rfl, (blk_cell BK1502.out 1).trans rfl, (blk_cell BK1502.out 2).trans rfl, (blk_cell BK1502.out 3).trans rfl, (blk_cell BK1502.out 4).trans rfl, (blk_cell BK1502.out 5).trans rfl, (blk_cell BK1502.out 6).trans rfl, (blk_cell BK1502.out 7).trans rfl, (blk_cell BK1502.out 8).trans rfl, (blk_cell BK1502.out 9).trans rfl, (blk_cell BK1502.out 10).trans rfl, (blk_cell BK1502.out 11).trans rfl, (blk_cell BK1502.out 12).trans rfl, (blk_cell BK1502.out 13).trans rfl⟩ (fun hHeld => ?_); refine with_tabW spec_PutBlock.tab4 spec_PutBlock.bits4 (fun HT_ HW_ => ?_)
    generalize w24.drew = w25 at HO1509 HO1512 HO1515 HO1518 HO1521 BK1502 HB hHeld ⊢
    refine pure_ (i := 0) (N := some 24) (v := ?_) (a' := ?_) #[true, false, false, false, false, false, false, false, false, false, false, false] rfl rfl (any_of HT_.out (by kernel_rfl)) (fun _ _ _ h => h) (Or.inl ⟨by rfl, ?_⟩) ?_ ?_
    rotate_left
    · intro w'
      go_simp
      with_reducible rfl
    rotate_left
    · simp only [Act.put, List.setIfInBounds_toArray, List.set_cons_zero, List.set_cons_succ, i64_w, i32_w]
      rfl
    refine pure_ (i := 1) (N := some 25) (v := ?_) (a' := ?_) #[true, true, false, false, false, false, false, false, false, false, false, false] rfl rfl (any_of HT_.out (by kernel_rfl)) (fun _ _ _ h => h) (Or.inl ⟨by rfl, ?_⟩) ?_ ?_
    rotate_left
    · intro w'
      go_simp
      with_reducible rfl
    rotate_left
    · simp only [Act.put, List.setIfInBounds_toArray, List.set_cons_zero, List.set_cons_succ, i64_w, i32_w]
      rfl
    refine pure_ (i := 4) (N := some 28) (v := ?_) (a' := ?_) #[true, true, false, false, true, false, false, false, false, false, false, false] rfl rfl (any_of HT_.out (by kernel_rfl)) (fun _ _ _ h => h) (Or.inl ⟨by rfl, ?_⟩) ?_ ?_
    rotate_left
    · intro w'
      go_simp
      with_reducible rfl
    rotate_left
    · simp only [Act.put, List.setIfInBounds_toArray, List.set_cons_zero, List.set_cons_succ, i64_w, i32_w]
      rfl
    refine pure_ (i := 7) (N := some 31) (v := ?_) (a' := ?_) #[true, true, false, false, true, false, false, true, false, false, false, false] rfl rfl (any_of HT_.out (by kernel_rfl)) (fun _ _ _ h => h) (Or.inl ⟨by rfl, ?_⟩) ?_ ?_
    rotate_left
    · intro w'
      go_simp
      with_reducible rfl
    rotate_left
    · simp only [Act.put, List.setIfInBounds_toArray, List.set_cons_zero, List.set_cons_succ, i64_w, i32_w]
      rfl
    refine take_ (i := 2) (N := some 26) (v := ?_) (a' := ?_) #[true, true, true, false, true, false, false, true, false, false, false, false] rfl rfl (take_ofW HT_.out HW_.out (by kernel_rfl)) (fun _ _ _ h => h) (Or.inl ⟨by rfl, ?_⟩) hHeld ?_ ?_
    rotate_left
    · rintro w' ⟨s0, s1, s2, s3, s4, s5, s6, s7, s8, s9, s10, s11, s12, s13⟩
      go_simp
      with_reducible rfl
    rotate_left
    · simp only [Act.put, List.setIfInBounds_toArray, List.set_cons_zero, List.set_cons_succ, i64_w, i32_w]
      rfl
    refine take_ (i := 5) (N := some 29) (v := ?_) (a' := ?_) #[true, true, true, false, true, true, false, true, false, false, false, false] rfl rfl (take_ofW HT_.out HW_.out (by kernel_rfl)) (fun _ _ _ h => h) (Or.inl ⟨by rfl, ?_⟩) hHeld ?_ ?_
    rotate_left
    · rintro w' ⟨s0, s1, s2, s3, s4, s5, s6, s7, s8, s9, s10, s11, s12, s13⟩
      go_simp
      with_reducible rfl
    rotate_left
    · simp only [Act.put, List.setIfInBounds_toArray, List.set_cons_zero, List.set_cons_succ, i64_w, i32_w]
      rfl
    refine take_ (i := 8) (N := some 32) (v := ?_) (a' := ?_) #[true, true, true, false, true, true, false, true, true, false, false, false] rfl rfl (take_ofW HT_.out HW_.out (by kernel_rfl)) (fun _ _ _ h => h) (Or.inl ⟨by rfl, ?_⟩) hHeld ?_ ?_
    rotate_left
    · rintro w' ⟨s0, s1, s2, s3, s4, s5, s6, s7, s8, s9, s10, s11, s12, s13⟩
      go_simp
      with_reducible rfl
    rotate_left
    · simp only [Act.put, List.setIfInBounds_toArray, List.set_cons_zero, List.set_cons_succ, i64_w, i32_w]
      rfl
    refine pure_ (i := 9) (N := some 33) (v := ?_) (a' := ?_) #[true, true, true, false, true, true, false, true, true, true, false, false] rfl rfl (any_of HT_.out (by kernel_rfl)) (fun _ _ _ h => h) (Or.inl ⟨by rfl, ?_⟩) ?_ ?_
    rotate_left
    · intro w'
      go_simp
      with_reducible rfl
    rotate_left
    · simp only [Act.put, List.setIfInBounds_toArray, List.set_cons_zero, List.set_cons_succ, i64_w, i32_w]
      rfl
    refine one_ (i := 3) (N := some 27) #[true, true, true, true, true, true, false, true, true, true, false, false] rfl rfl (one_of HT_.out (by kernel_rfl)) (by decide) (fun K hK => ?_)
    refine goes_ Try.func155 (by kernel_rfl) rfl #[.slice Ao26 t1519.length co26, .agg #[.int .i64 a0_4, .int .i64 a0_5, .slice A0_6 l0_6.length c0_6]] (by rfl) rfl rfl (by (try simp only [List.map_toArray, List.map_cons, List.map_nil]); first | done | rfl | (simp only [List.length_drop, List.length_take]; rfl)) ?_
    with_reducible refine (spec_l9PutQc.calls k _ _ t1519 a0_4 a0_5 _ _ l0_6 t1522 _ ?side1 ?side2 ?side3 ?side4 A8.out).mono ?_
    (case side1 => repeat (first | exact (Kd.R_reads' HO1521.out).2.2 | (with_reducible refine Kd.C_alloc ?_ _) | (with_reducible refine Kd.C_drewN ?_ _) | (with_reducible refine Kd.C_drew ?_)))
    (case side2 => exact (Kd.R_reads' HO1521.out).2.1)
    (case side3 => repeat (first | exact (Kd.C_below HR0_6.out HB.out) | (with_reducible refine Kd.C_alloc ?_ _) | (with_reducible refine Kd.C_drewN ?_ _) | (with_reducible refine Kd.C_drew ?_)))
    (case side4 => exact HC0_6.out)
    rintro e w27 ⟨v1523, rfl, ho0, hb⟩
    refine ⟨_, rfl, ?_⟩
    have n0_ := Aside0.mk (Kd.R_elder' (by (with_reducible repeat (first | apply Kd.R_alloc | apply Kd.R_drewN | apply Kd.R_drew)); exact HO1509.out) (Kd.R_base ho0) hb)
    have n1_ := Aside0.mk (Kd.R_elder' (by (with_reducible repeat (first | apply Kd.R_alloc | apply Kd.R_drewN | apply Kd.R_drew)); exact HO1512.out) (Kd.R_base ho0) hb)
    have n2_ := Aside0.mk (Kd.R_elder' (by (with_reducible repeat (first | apply Kd.R_alloc | apply Kd.R_drewN | apply Kd.R_drew)); exact HO1515.out) (Kd.R_base ho0) hb)
    have n3_ := Aside0.mk (Kd.R_elder' (by (with_reducible repeat (first | apply Kd.R_alloc | apply Kd.R_drewN | apply Kd.R_drew)); exact HO1518.out) (Kd.R_base ho0) hb)
    have n4_ := Aside0.mk (Kd.R_elder' (by (with_reducible repeat (first | apply Kd.R_alloc | apply Kd.R_drewN | apply Kd.R_drew)); exact HO1521.out) (Kd.R_base ho0) hb)
    have n5_ := Aside0.mk (Kd.R_lower (Kd.R_new' (Kd.R_new' (Kd.R_new' (Kd.R_new' (Kd.R_new' ho0 (Kd.R_lt (by (with_reducible repeat (first | apply Kd.R_alloc | apply Kd.R_drewN | apply Kd.R_drew)); exact HO1509.out))) (Kd.R_lt (by (with_reducible repeat (first | apply Kd.R_alloc | apply Kd.R_drewN | apply Kd.R_drew)); exact HO1512.out))) (Kd.R_lt (by (with_reducible repeat (first | apply Kd.R_alloc | apply Kd.R_drewN | apply Kd.R_drew)); exact HO1515.out))) (Kd.R_lt (by (with_reducible repeat (first | apply Kd.R_alloc | apply Kd.R_drewN | apply Kd.R_drew)); exact HO1518.out))) (Kd.R_lt (by (with_reducible repeat (first | apply Kd.R_alloc | apply Kd.R_drewN | apply Kd.R_drew)); exact HO1521.out))) (below_size (by repeat (first | (with_reducible first | exact HB.out | apply below_alloc | apply pw_below_drewN | apply below_drew1 | refine below_set ?_ GE1502.out) | exact HB.out))))
    have n6_ := Aside0.mk (blk_below (g := gb1502) (by (with_reducible repeat (first | refine blk_drewN ?_ _ | refine blk_drew ?_ | refine blk_alloc ?_ _)); exact BK1502.out) hb)
    have n7_ := Aside0.mk (below_step (by repeat (first | (with_reducible first | exact HB.out | apply below_alloc | apply pw_below_drewN | apply below_drew1 | refine below_set ?_ GE1502.out) | exact HB.out)) hb)
    clear HO1509
    clear HO1512
    clear HO1515
    clear HO1518
    clear HO1521
    clear BK1502
    clear HB
    have HO1509 := n0_
    have HO1512 := n1_
    have HO1515 := n2_
    have HO1518 := n3_
    have HO1521 := n4_
    have HO1524 := n5_
    have BK1502 := n6_
    have HB := n7_
    clear n0_ n1_ n2_ n3_ n4_ n5_ n6_ n7_
    (try clear hb)
    (try clear hb2)
    (try clear hk)
    (try clear hi)
    (try clear ho0)
    obtain ⟨Ao28, co28, eo28⟩ := Kd.R_slice HO1524.out
    (first | subst eo28 | (injection eo28 with f1_ f2_ f3_; have f4_ := f1_.symm; have f5_ := f3_.symm; clear f1_ f2_ f3_; subst f4_; subst f5_))
    refine hK.out _ _ ⟨(blk_cell BK1502.out 0).trans rfl, (blk_cell BK1502.out 1).trans rfl, (blk_cell BK1502.out 2).trans rfl, (blk_cell BK1502.out 3).trans rfl, (blk_cell BK1502.out 4).trans rfl, (blk_cell BK1502.out 5).trans rfl, (blk_cell BK1502.out 6).trans rfl, (blk_cell BK1502.out 7).trans rfl, (blk_cell BK1502.out 8).trans rfl, (blk_cell BK1502.out 9).trans rfl, (blk_cell BK1502.out 10).trans rfl, (blk_cell BK1502.out 11).trans rfl, (blk_cell BK1502.out 12).trans rfl, (blk_cell BK1502.out 13).trans rfl⟩ (fun hHeld => ?_)
    clear hK K
    refine norm_ (a' := ?_) ?_ ?_
    rotate_left
    · show Act.put _ (some 27) _ = _
      simp only [Act.put, List.setIfInBounds_toArray, List.set_cons_zero, List.set_cons_succ, i64_w, i32_w]
      rfl
    refine one_ (i := 6) (N := some 30) #[true, true, true, true, true, true, true, true, true, true, false, false] rfl rfl (one_of HT_.out (by kernel_rfl)) (by decide) (fun K hK => ?_)
    refine goes_ Try.func154 (by kernel_rfl) rfl #[.slice Ao28 t1522.length co28, .agg #[.int .i64 a0_7, .slice A0_8 l0_8.length c0_8, .slice A0_9 l0_9.length c0_9]] (by rfl) rfl rfl (by (try simp only [List.map_toArray, List.map_cons, List.map_nil]); first | done | rfl | (simp only [List.length_drop, List.length_take]; rfl)) ?_
    with_reducible refine (spec_l9PutTc.calls k _ _ t1522 a0_7 _ _ l0_8 _ _ l0_9 t1525 _ ?side1 ?side2 ?side3 ?side4 ?side5 ?side6 A9.out).mono ?_
    (case side1 => repeat (first | exact (Kd.R_reads' HO1524.out).2.2 | (with_reducible refine Kd.C_alloc ?_ _) | (with_reducible refine Kd.C_drewN ?_ _) | (with_reducible refine Kd.C_drew ?_)))
    (case side2 => exact (Kd.R_reads' HO1524.out).2.1)
    (case side3 => repeat (first | exact (Kd.C_below HR0_8.out HB.out) | (with_reducible refine Kd.C_alloc ?_ _) | (with_reducible refine Kd.C_drewN ?_ _) | (with_reducible refine Kd.C_drew ?_)))
    (case side4 => exact HC0_8.out)
    (case side5 => repeat (first | exact (Kd.C_below HR0_9.out HB.out) | (with_reducible refine Kd.C_alloc ?_ _) | (with_reducible refine Kd.C_drewN ?_ _) | (with_reducible refine Kd.C_drew ?_)))
    (case side6 => exact HC0_9.out)
    rintro e w29 ⟨v1526, rfl, ho0, hb⟩
    refine ⟨_, rfl, ?_⟩
    have n0_ := Aside0.mk (Kd.R_elder' (by (with_reducible repeat (first | apply Kd.R_alloc | apply Kd.R_drewN | apply Kd.R_drew)); exact HO1509.out) (Kd.R_base ho0) hb)
    have n1_ := Aside0.mk (Kd.R_elder' (by (with_reducible repeat (first | apply Kd.R_alloc | apply Kd.R_drewN | apply Kd.R_drew)); exact HO1512.out) (Kd.R_base ho0) hb)
    have n2_ := Aside0.mk (Kd.R_elder' (by (with_reducible repeat (first | apply Kd.R_alloc | apply Kd.R_drewN | apply Kd.R_drew)); exact HO1515.out) (Kd.R_base ho0) hb)
    have n3_ := Aside0.mk (Kd.R_elder' (by (with_reducible repeat (first | apply Kd.R_alloc | apply Kd.R_drewN | apply Kd.R_drew)); exact HO1518.out) (Kd.R_base ho0) hb)
    have n4_ := Aside0.mk (Kd.R_elder' (by (with_reducible repeat (first | apply Kd.R_alloc | apply Kd.R_drewN | apply Kd.R_drew)); exact HO1521.out) (Kd.R_base ho0) hb)
    have n5_ := Aside0.mk (Kd.R_elder' (by (with_reducible repeat (first | apply Kd.R_alloc | apply Kd.R_drewN | apply Kd.R_drew)); exact HO1524.out) (Kd.R_base ho0) hb)
    have n6_ := Aside0.mk (Kd.R_lower (Kd.R_new' (Kd.R_new' (Kd.R_new' (Kd.R_new' (Kd.R_new' (Kd.R_new' ho0 (Kd.R_lt (by (with_reducible repeat (first | apply Kd.R_alloc | apply Kd.R_drewN | apply Kd.R_drew)); exact HO1509.out))) (Kd.R_lt (by (with_reducible repeat (first | apply Kd.R_alloc | apply Kd.R_drewN | apply Kd.R_drew)); exact HO1512.out))) (Kd.R_lt (by (with_reducible repeat (first | apply Kd.R_alloc | apply Kd.R_drewN | apply Kd.R_drew)); exact HO1515.out))) (Kd.R_lt (by (with_reducible repeat (first | apply Kd.R_alloc | apply Kd.R_drewN | apply Kd.R_drew)); exact HO1518.out))) (Kd.R_lt (by (with_reducible repeat (first | apply Kd.R_alloc | apply Kd.R_drewN | apply Kd.R_drew)); exact HO1521.out))) (Kd.R_lt (by (with_reducible repeat (first | apply Kd.R_alloc | apply Kd.R_drewN | apply Kd.R_drew)); exact HO1524.out))) (below_size (by repeat (first | (with_reducible first | exact HB.out | apply below_alloc | apply pw_below_drewN | apply below_drew1 | refine below_set ?_ GE1502.out) | exact HB.out))))
    have n7_ := Aside0.mk (blk_below (g := gb1502) (by (with_reducible repeat (first | refine blk_drewN ?_ _ | refine blk_drew ?_ | refine blk_alloc ?_ _)); exact BK1502.out) hb)
    have n8_ := Aside0.mk (below_step (by repeat (first | (with_reducible first | exact HB.out | apply below_alloc | apply pw_below_drewN | apply below_drew1 | refine below_set ?_ GE1502.out) | exact HB.out)) hb)
    clear HO1509
    clear HO1512
    clear HO1515
    clear HO1518
    clear HO1521
    clear HO1524
    clear BK1502
    clear HB
    have HO1509 := n0_
    have HO1512 := n1_
    have HO1515 := n2_
    have HO1518 := n3_
    have HO1521 := n4_
    have HO1524 := n5_
    have HO1527 := n6_
    have BK1502 := n7_
    have HB := n8_
    clear n0_ n1_ n2_ n3_ n4_ n5_ n6_ n7_ n8_
    (try clear hb)
    (try clear hb2)
    (try clear hk)
    (try clear hi)
    (try clear ho0)
    obtain ⟨Ao30, co30, eo30⟩ := Kd.R_slice HO1527.out
    (first | subst eo30 | (injection eo30 with f1_ f2_ f3_; have f4_ := f1_.symm; have f5_ := f3_.symm; clear f1_ f2_ f3_; subst f4_; subst f5_))
    refine hK.out _ _ ⟨(blk_cell BK1502.out 0).trans rfl, (blk_cell BK1502.out 1).trans rfl, (blk_cell BK1502.out 2).trans rfl, (blk_cell BK1502.out 3).trans rfl, (blk_cell BK1502.out 4).trans rfl, (blk_cell BK1502.out 5).trans rfl, (blk_cell BK1502.out 6).trans rfl, (blk_cell BK1502.out 7).trans rfl, (blk_cell BK1502.out 8).trans rfl, (blk_cell BK1502.out 9).trans rfl, (blk_cell BK1502.out 10).trans rfl, (blk_cell BK1502.out 11).trans rfl, (blk_cell BK1502.out 12).trans rfl, (blk_cell BK1502.out 13).trans rfl⟩ (fun hHeld => ?_)
    clear hK K
    refine norm_ (a' := ?_) ?_ ?_
    rotate_left
    · show Act.put _ (some 30) _ = _
      simp only [Act.put, List.setIfInBounds_toArray, List.set_cons_zero, List.set_cons_succ, i64_w, i32_w]
      rfl
    refine one_ (i := 10) (N := some 34) #[true, true, true, true, true, true, true, true, true, true, true, false] rfl rfl (one_of HT_.out (by kernel_rfl)) (by decide) (fun K hK => ?_)
    refine goes_ Try.func153 (by kernel_rfl) rfl #[.slice Ao30 t1525.length co30, .int .i64 (l0_10.length : Int)] (by rfl) rfl rfl (by (try simp only [List.map_toArray, List.map_cons, List.map_nil]); first | done | rfl | (simp only [List.length_drop, List.length_take]; rfl)) ?_
    with_reducible refine (spec_PutNum.calls k _ _ t1525 (l0_10.length : Int) t1528 _ ?side1 ?side2 A10.out).mono ?_
    (case side1 => repeat (first | exact (Kd.R_reads' HO1527.out).2.2 | (with_reducible refine Kd.C_alloc ?_ _) | (with_reducible refine Kd.C_drewN ?_ _) | (with_reducible refine Kd.C_drew ?_)))
    (case side2 => exact (Kd.R_reads' HO1527.out).2.1)
    rintro e w31 ⟨v1529, rfl, ho0, hb⟩
    refine ⟨_, rfl, ?_⟩
    have n0_ := Aside0.mk (Kd.R_elder' (by (with_reducible repeat (first | apply Kd.R_alloc | apply Kd.R_drewN | apply Kd.R_drew)); exact HO1509.out) (Kd.R_base ho0) hb)
    have n1_ := Aside0.mk (Kd.R_elder' (by (with_reducible repeat (first | apply Kd.R_alloc | apply Kd.R_drewN | apply Kd.R_drew)); exact HO1512.out) (Kd.R_base ho0) hb)
    have n2_ := Aside0.mk (Kd.R_elder' (by (with_reducible repeat (first | apply Kd.R_alloc | apply Kd.R_drewN | apply Kd.R_drew)); exact HO1515.out) (Kd.R_base ho0) hb)
    have n3_ := Aside0.mk (Kd.R_elder' (by (with_reducible repeat (first | apply Kd.R_alloc | apply Kd.R_drewN | apply Kd.R_drew)); exact HO1518.out) (Kd.R_base ho0) hb)
    have n4_ := Aside0.mk (Kd.R_elder' (by (with_reducible repeat (first | apply Kd.R_alloc | apply Kd.R_drewN | apply Kd.R_drew)); exact HO1521.out) (Kd.R_base ho0) hb)
    have n5_ := Aside0.mk (Kd.R_elder' (by (with_reducible repeat (first | apply Kd.R_alloc | apply Kd.R_drewN | apply Kd.R_drew)); exact HO1524.out) (Kd.R_base ho0) hb)
    have n6_ := Aside0.mk (Kd.R_elder' (by (with_reducible repeat (first | apply Kd.R_alloc | apply Kd.R_drewN | apply Kd.R_drew)); exact HO1527.out) (Kd.R_base ho0) hb)
    have n7_ := Aside0.mk (Kd.R_lower (Kd.R_new' (Kd.R_new' (Kd.R_new' (Kd.R_new' (Kd.R_new' (Kd.R_new' (Kd.R_new' ho0 (Kd.R_lt (by (with_reducible repeat (first | apply Kd.R_alloc | apply Kd.R_drewN | apply Kd.R_drew)); exact HO1509.out))) (Kd.R_lt (by (with_reducible repeat (first | apply Kd.R_alloc | apply Kd.R_drewN | apply Kd.R_drew)); exact HO1512.out))) (Kd.R_lt (by (with_reducible repeat (first | apply Kd.R_alloc | apply Kd.R_drewN | apply Kd.R_drew)); exact HO1515.out))) (Kd.R_lt (by (with_reducible repeat (first | apply Kd.R_alloc | apply Kd.R_drewN | apply Kd.R_drew)); exact HO1518.out))) (Kd.R_lt (by (with_reducible repeat (first | apply Kd.R_alloc | apply Kd.R_drewN | apply Kd.R_drew)); exact HO1521.out))) (Kd.R_lt (by (with_reducible repeat (first | apply Kd.R_alloc | apply Kd.R_drewN | apply Kd.R_drew)); exact HO1524.out))) (Kd.R_lt (by (with_reducible repeat (first | apply Kd.R_alloc | apply Kd.R_drewN | apply Kd.R_drew)); exact HO1527.out))) (below_size (by repeat (first | (with_reducible first | exact HB.out | apply below_alloc | apply pw_below_drewN | apply below_drew1 | refine below_set ?_ GE1502.out) | exact HB.out))))
    have n8_ := Aside0.mk (blk_below (g := gb1502) (by (with_reducible repeat (first | refine blk_drewN ?_ _ | refine blk_drew ?_ | refine blk_alloc ?_ _)); exact BK1502.out) hb)
    have n9_ := Aside0.mk (below_step (by repeat (first | (with_reducible first | exact HB.out | apply below_alloc | apply pw_below_drewN | apply below_drew1 | refine below_set ?_ GE1502.out) | exact HB.out)) hb)
    clear HO1509
    clear HO1512
    clear HO1515
    clear HO1518
    clear HO1521
    clear HO1524
    clear HO1527
    clear BK1502
    clear HB
    have HO1509 := n0_
    have HO1512 := n1_
    have HO1515 := n2_
    have HO1518 := n3_
    have HO1521 := n4_
    have HO1524 := n5_
    have HO1527 := n6_
    have HO1530 := n7_
    have BK1502 := n8_
    have HB := n9_
    clear n0_ n1_ n2_ n3_ n4_ n5_ n6_ n7_ n8_ n9_
    (try clear hb)
    (try clear hb2)
    (try clear hk)
    (try clear hi)
    (try clear ho0)
    refine hK.out _ _ ⟨(blk_cell BK1502.out 0).trans rfl, (blk_cell BK1502.out 1).trans rfl, (blk_cell BK1502.out 2).trans rfl, (blk_cell BK1502.out 3).trans rfl, (blk_cell BK1502.out 4).trans rfl, (blk_cell BK1502.out 5).trans rfl, (blk_cell BK1502.out 6).trans rfl, (blk_cell BK1502.out 7).trans rfl, (blk_cell BK1502.out 8).trans rfl, (blk_cell BK1502.out 9).trans rfl, (blk_cell BK1502.out 10).trans rfl, (blk_cell BK1502.out 11).trans rfl, (blk_cell BK1502.out 12).trans rfl, (blk_cell BK1502.out 13).trans rfl⟩ (fun hHeld => ?_)
    clear hK K
    refine norm_ (a' := ?_) ?_ ?_
    rotate_left
    · show Act.put _ (some 34) _ = _
      simp only [Act.put, List.setIfInBounds_toArray, List.set_cons_zero, List.set_cons_succ, i64_w, i32_w]
      rfl
    refine pure_ (i := 11) (N := some 3) (v := ?_) (a' := ?_) #[true, true, true, true, true, true, true, true, true, true, true, true] rfl rfl (any_of HT_.out (by kernel_rfl)) (fun _ _ _ h => h) (Or.inl ⟨by rfl, ?_⟩) ?_ ?_
    rotate_left
    · intro w'
      go_simp
      with_reducible rfl
    rotate_left
    · simp only [Act.put, List.setIfInBounds_toArray, List.set_cons_zero, List.set_cons_succ, i64_w, i32_w]
      rfl
    refine done_ (done_of HT_.out (by kernel_rfl)) ?_
    try go_wp2
    go_loopg [3, 4] k (fun kq v3 v4 w' => ∃ (x3_1 : List Int) (x4_1 : Int), v4 = .int .i64 x4_1 ∧ Aside0 (spec_PutBlock.l0 kq x3_1 x4_1 a0_0 a0_1 a0_2 a0_3 a0_4 a0_5 l0_6 a0_7 l0_8 l0_9 l0_10 a0_11 l0_12 a0_13 = some r) ∧ Aside0 (kq ≤ k) ∧ Aside0 (Kd.R (Kd.int .u8) 5 w' w.heap.size (fun _ => True) v3 x3_1) ∧ Aside0 (w'.heap[gb1502]? = some (.cells #[.int .i64 a0_0, .int .i64 a0_1, .int .i64 a0_2, .string a0_3, .int .i64 a0_4, .int .i64 a0_5, (.slice A0_6 l0_6.length c0_6), .int .i64 a0_7, (.slice A0_8 l0_8.length c0_8), (.slice A0_9 l0_9.length c0_9), (.slice A0_10 l0_10.length c0_10), .bool a0_11, (.slice A0_12 l0_12.length c0_12), .string a0_13] 113 (0, 0))) ∧ Aside0 (Below w.heap.size w w'))
    case atStart => exact ⟨(t1528), (0), (by first | rfl | (simp; done) | (simp [*]; done)), H', ⟨Nat.le_refl _⟩, ⟨by (with_reducible repeat (first | apply Kd.R_alloc | apply Kd.R_drewN | apply Kd.R_drew)); exact Kd.R_mono HO1530.out (fun _ hk => trivial)⟩, ⟨by (with_reducible repeat (first | refine blk_drewN ?_ _ | refine blk_drew ?_ | refine blk_alloc ?_ _)); exact BK1502.out⟩, ⟨by repeat (first | (with_reducible first | exact HB.out | apply below_alloc | apply pw_below_drewN | apply below_drew1 | refine below_set ?_ GE1502.out) | exact HB.out)⟩⟩
    case round =>
      clear H'
      try clear c1
      try clear p2
      try clear c3
      try clear c6
      try clear c15
      try clear hcz12_0
      try clear hcz12_1
      try clear hcz12_10
      try clear hcz12_11
      try clear hcz12_12
      try clear hcz12_13
      try clear hcz12_2
      try clear hcz12_3
      try clear hcz12_4
      try clear hcz12_5
      try clear hcz12_6
      try clear hcz12_7
      try clear hcz12_8
      try clear hcz12_9
      try clear hfz12_0
      try clear hfz12_1
      try clear hfz12_10
      try clear hfz12_11
      try clear hfz12_12
      try clear hfz12_13
      try clear hfz12_2
      try clear hfz12_3
      try clear hfz12_4
      try clear hfz12_5
      try clear hfz12_6
      try clear hfz12_7
      try clear hfz12_8
      try clear hfz12_9
      obtain ⟨x3_1, x4_1, rfl, HA, HK1, HO_3, BK1502, HB⟩ := hrel
      cases gk with
      | zero => exact absurd HA.out (by simp [spec_PutBlock.l0])
      | succ k1 =>
        have H := HA.out
        clear HA
        simp only [spec_PutBlock.l0] at H
        by_cases c32 : x4_1 < (l0_10.length : Int)
        · rw [if_pos c32] at H
          have c32b0 : decide (x4_1 < (l0_10.length : Int)) = true := decide_eq_true c32
          clear c32
          by_cases c33 : 0 ≤ x4_1
          · rw [if_pos c33] at H
            have c33b0 : decide (0 ≤ x4_1) = true := decide_eq_true c33
            clear c33
            replace H := Option.bind_eq_some_iff.mp H
            obtain ⟨t1532, A340, H⟩ := H
            replace H : (spec_PutBlock.l0 k1 t1532 (wrap64 (x4_1 + 1)) a0_0 a0_1 a0_2 a0_3 a0_4 a0_5 l0_6 a0_7 l0_8 l0_9 l0_10 a0_11 l0_12 a0_13) = some r := H
            have A34 := Aside0.mk A340
            clear A340
            have H' := Aside0.mk H
            clear H
            obtain ⟨hcz35_0, hcz35_1, hcz35_2, hcz35_3, hcz35_4, hcz35_5, hcz35_6, hcz35_7, hcz35_8, hcz35_9, hcz35_10, hcz35_11, hcz35_12, hcz35_13⟩ := cells14 BK1502.out
            obtain ⟨hfz35_0, hfz35_1, hfz35_2, hfz35_3, hfz35_4, hfz35_5, hfz35_6, hfz35_7, hfz35_8, hfz35_9, hfz35_10, hfz35_11, hfz35_12, hfz35_13⟩ := frozens14 BK1502.out
            have p1531 : 0 ≤ (x4_1 : Int) := of_decide_eq_true (by first | (with_reducible assumption) | assumption)
            have q1531 : x4_1 < (l0_10.length : Int) := of_decide_eq_true (by first | (with_reducible assumption) | assumption)
            obtain ⟨ad1531, e1531, hx1531_0, hx1531_1, hx1531_2, hx1531_3, hx1531_4⟩ := at_T186 HR0_10.out x4_1 p1531 q1531
            cases e1531
            replace hx1531_0 := (HB.out.cell (World.block_lt_of_cell? w _ hx1531_0)).trans hx1531_0
            replace hx1531_1 := (HB.out.cell (World.block_lt_of_cell? w _ hx1531_1)).trans hx1531_1
            replace hx1531_2 := (HB.out.cell (World.block_lt_of_cell? w _ hx1531_2)).trans hx1531_2
            replace hx1531_3 := (HB.out.cell (World.block_lt_of_cell? w _ hx1531_3)).trans hx1531_3
            replace hx1531_4 := (HB.out.cell (World.block_lt_of_cell? w _ hx1531_4)).trans hx1531_4
            replace p1531 := eq_true p1531
            replace q1531 := eq_true q1531
            obtain ⟨Ao36, co36, eo36⟩ := Kd.R_slice HO_3.out
            subst eo36
            go_wp2_with (first | ((with_reducible refine gate_callee (f := 156) rfl ?_); refine goesL_ (some 48) rfl rfl Try.func156 (by kernel_rfl) rfl #[.slice Ao36 x3_1.length co36, .agg #[.int .i64 ((rd_T186 l0_10 x4_1).f0), .string ((rd_T186 l0_10 x4_1).f1), .string ((rd_T186 l0_10 x4_1).f2), .int .i64 ((rd_T186 l0_10 x4_1).f3), .int .i64 ((rd_T186 l0_10 x4_1).f4)]] rfl (by (try simp only [List.map_toArray, List.map_cons, List.map_nil]); first | done | rfl | (simp only [List.length_drop, List.length_take]; rfl)) ?_; (with_reducible refine (spec_l5Put.calls k1 _ _ x3_1 ((rd_T186 l0_10 x4_1).f0) ((rd_T186 l0_10 x4_1).f1) ((rd_T186 l0_10 x4_1).f2) ((rd_T186 l0_10 x4_1).f3) ((rd_T186 l0_10 x4_1).f4) t1532 _ ?side1 ?side2 A34.out).mono ?_); (case side1 => repeat (first | exact (Kd.R_reads' HO_3.out).2.2 | (with_reducible refine Kd.C_alloc ?_ _) | (with_reducible refine Kd.C_drewN ?_ _) | (with_reducible refine Kd.C_drew ?_))); (case side2 => exact (Kd.R_reads' HO_3.out).2.1); rintro e w37 ⟨v1533, rfl, ho0, hb⟩; refine ⟨_, rfl, ?_⟩; have n0_ := Aside0.mk (Kd.R_elder' (by (with_reducible repeat (first | apply Kd.R_alloc | apply Kd.R_drewN | apply Kd.R_drew)); exact HO_3.out) (Kd.R_base ho0) hb); have n1_ := Aside0.mk (Kd.R_lower (Kd.R_new' ho0 (Kd.R_lt (by (with_reducible repeat (first | apply Kd.R_alloc | apply Kd.R_drewN | apply Kd.R_drew)); exact HO_3.out))) (below_size (by repeat (first | (with_reducible first | exact HB.out | apply below_alloc | apply pw_below_drewN | apply below_drew1 | refine below_set ?_ GE1502.out) | exact HB.out)))); have n2_ := Aside0.mk (blk_below (g := gb1502) (by (with_reducible repeat (first | refine blk_drewN ?_ _ | refine blk_drew ?_ | refine blk_alloc ?_ _)); exact BK1502.out) hb); have n3_ := Aside0.mk (below_step (by repeat (first | (with_reducible first | exact HB.out | apply below_alloc | apply pw_below_drewN | apply below_drew1 | refine below_set ?_ GE1502.out) | exact HB.out)) hb); clear HO_3; clear BK1502; clear HB; have HO_3 := n0_; have HO1534 := n1_; have BK1502 := n2_; have HB := n3_; clear n0_ n1_ n2_ n3_; (try clear hb); (try clear hb2); (try clear hk); (try clear hi); (try clear ho0)))
            go_roundg k1
            case measure => have := HK1.out; omega
            case rel => exact ⟨(t1532), (wrap64 (x4_1 + 1)), (by first | rfl | (simp; done) | (simp [*]; done)), H', ⟨by have := HK1.out; omega⟩, ⟨by (with_reducible repeat (first | apply Kd.R_alloc | apply Kd.R_drewN | apply Kd.R_drew)); exact Kd.R_mono HO1534.out (fun _ hk => trivial)⟩, ⟨by (with_reducible repeat (first | refine blk_drewN ?_ _ | refine blk_drew ?_ | refine blk_alloc ?_ _)); exact BK1502.out⟩, ⟨by repeat (first | (with_reducible first | exact HB.out | apply below_alloc | apply pw_below_drewN | apply below_drew1 | refine below_set ?_ GE1502.out) | exact HB.out)⟩⟩
          · rw [if_neg c33] at H
            exact absurd H (by simp)
        · rw [if_neg c32] at H
          have c32b0 : decide (x4_1 < (l0_10.length : Int)) = false := decide_eq_false c32
          clear c32
          have HC38 := Aside0.mk H
          clear H
          obtain ⟨hcz39_0, hcz39_1, hcz39_2, hcz39_3, hcz39_4, hcz39_5, hcz39_6, hcz39_7, hcz39_8, hcz39_9, hcz39_10, hcz39_11, hcz39_12, hcz39_13⟩ := cells14 BK1502.out
          obtain ⟨hfz39_0, hfz39_1, hfz39_2, hfz39_3, hfz39_4, hfz39_5, hfz39_6, hfz39_7, hfz39_8, hfz39_9, hfz39_10, hfz39_11, hfz39_12, hfz39_13⟩ := frozens14 BK1502.out
          go_upto_if 50 with (fail)
          go_cut [5] (fun v5 wc => ∃ (kq : Nat) (x5_37 : Int), v5 = .int .i64 x5_37 ∧ Aside0 (spec_PutBlock.j1 kq x3_1 x5_37 a0_0 a0_1 a0_2 a0_3 a0_4 a0_5 l0_6 a0_7 l0_8 l0_9 l0_10 a0_11 l0_12 a0_13 = some r) ∧ Aside0 (kq ≤ k1) ∧ Aside0 (Kd.R (Kd.int .u8) 5 wc w.heap.size (fun _ => True) u3 x3_1) ∧ Aside0 (wc.heap[gb1502]? = some (.cells #[.int .i64 a0_0, .int .i64 a0_1, .int .i64 a0_2, .string a0_3, .int .i64 a0_4, .int .i64 a0_5, (.slice A0_6 l0_6.length c0_6), .int .i64 a0_7, (.slice A0_8 l0_8.length c0_8), (.slice A0_9 l0_9.length c0_9), (.slice A0_10 l0_10.length c0_10), .bool a0_11, (.slice A0_12 l0_12.length c0_12), .string a0_13] 113 (0, 0))) ∧ Aside0 (Below w.heap.size w wc))
          case first =>
            have H := HC38.out
            clear HC38
            by_cases c40 : a0_11 = true
            · subst c40
              have H1 : (spec_PutBlock.j1 k1 x3_1 1 a0_0 a0_1 a0_2 a0_3 a0_4 a0_5 l0_6 a0_7 l0_8 l0_9 l0_10 true l0_12 a0_13) = some r := by rw [if_pos rfl] at H; exact H
              clear H
              have H := H1
              clear H1
              have H' := Aside0.mk H
              clear H
              go_wp2
              go_meet
              case rel => exact ⟨_, (1), (by first | rfl | (simp; done) | (simp [*]; done)), H', ⟨by have := HK1.out; first | omega | exact Nat.le_refl _⟩, ⟨by (with_reducible repeat (first | apply Kd.R_alloc | apply Kd.R_drewN | apply Kd.R_drew)); exact HO_3.out⟩, ⟨by (with_reducible repeat (first | refine blk_drewN ?_ _ | refine blk_drew ?_ | refine blk_alloc ?_ _)); exact BK1502.out⟩, ⟨by repeat (first | (with_reducible first | exact HB.out | apply below_alloc | apply pw_below_drewN | apply below_drew1 | refine below_set ?_ GE1502.out) | exact HB.out)⟩⟩
            · replace c40 := Bool.eq_false_iff.mpr c40
              subst c40
              have H1 : (spec_PutBlock.j1 k1 x3_1 0 a0_0 a0_1 a0_2 a0_3 a0_4 a0_5 l0_6 a0_7 l0_8 l0_9 l0_10 false l0_12 a0_13) = some r := by rw [if_neg (show ¬ (false = true) by decide)] at H; exact H
              clear H
              have H := H1
              clear H1
              have H' := Aside0.mk H
              clear H
              go_wp2
              go_meet
              case rel => exact ⟨_, (0), (by first | rfl | (simp; done) | (simp [*]; done)), H', ⟨by have := HK1.out; first | omega | exact Nat.le_refl _⟩, ⟨by (with_reducible repeat (first | apply Kd.R_alloc | apply Kd.R_drewN | apply Kd.R_drew)); exact HO_3.out⟩, ⟨by (with_reducible repeat (first | refine blk_drewN ?_ _ | refine blk_drew ?_ | refine blk_alloc ?_ _)); exact BK1502.out⟩, ⟨by repeat (first | (with_reducible first | exact HB.out | apply below_alloc | apply pw_below_drewN | apply below_drew1 | refine below_set ?_ GE1502.out) | exact HB.out)⟩⟩
          case rest =>
            clear HC38
            try clear c1
            try clear p1
            try clear q1
            try clear hx1
            try clear p2
            try clear c3
            try clear c4
            try clear c6
            try clear p6
            try clear c15
            try clear p15
            try clear q15
            try clear hx15
            try clear c32
            try clear c32b0
            try clear c33
            try clear c33b0
            try clear c40
            try clear hcz12_0
            try clear hcz12_1
            try clear hcz12_10
            try clear hcz12_11
            try clear hcz12_12
            try clear hcz12_13
            try clear hcz12_2
            try clear hcz12_3
            try clear hcz12_4
            try clear hcz12_5
            try clear hcz12_6
            try clear hcz12_7
            try clear hcz12_8
            try clear hcz12_9
            try clear hcz35_0
            try clear hcz35_1
            try clear hcz35_10
            try clear hcz35_11
            try clear hcz35_12
            try clear hcz35_13
            try clear hcz35_2
            try clear hcz35_3
            try clear hcz35_4
            try clear hcz35_5
            try clear hcz35_6
            try clear hcz35_7
            try clear hcz35_8
            try clear hcz35_9
            try clear hcz39_0
            try clear hcz39_1
            try clear hcz39_10
            try clear hcz39_11
            try clear hcz39_12
            try clear hcz39_13
            try clear hcz39_2
            try clear hcz39_3
            try clear hcz39_4
            try clear hcz39_5
            try clear hcz39_6
            try clear hcz39_7
            try clear hcz39_8
            try clear hcz39_9
            try clear hfz12_0
            try clear hfz12_1
            try clear hfz12_10
            try clear hfz12_11
            try clear hfz12_12
            try clear hfz12_13
            try clear hfz12_2
            try clear hfz12_3
            try clear hfz12_4
            try clear hfz12_5
            try clear hfz12_6
            try clear hfz12_7
            try clear hfz12_8
            try clear hfz12_9
            try clear hfz35_0
            try clear hfz35_1
            try clear hfz35_10
            try clear hfz35_11
            try clear hfz35_12
            try clear hfz35_13
            try clear hfz35_2
            try clear hfz35_3
            try clear hfz35_4
            try clear hfz35_5
            try clear hfz35_6
            try clear hfz35_7
            try clear hfz35_8
            try clear hfz35_9
            try clear hfz39_0
            try clear hfz39_1
            try clear hfz39_10
            try clear hfz39_11
            try clear hfz39_12
            try clear hfz39_13
            try clear hfz39_2
            try clear hfz39_3
            try clear hfz39_4
            try clear hfz39_5
            try clear hfz39_6
            try clear hfz39_7
            try clear hfz39_8
            try clear hfz39_9
            try clear hx1531_0
            try clear hx1531_1
            try clear hx1531_2
            try clear hx1531_3
            try clear hx1531_4
            try clear p1531
            try clear p2
            try clear q1531
            obtain ⟨kq, x5_37, rfl, HA, HJ37, HO_3, BK1502, HB⟩ := hcut
            cases kq with
            | zero => exact absurd HA.out (by simp [spec_PutBlock.j1])
            | succ kj37 =>
              have H := HA.out
              clear HA
              simp only [spec_PutBlock.j1] at H
              replace H := Option.bind_eq_some_iff.mp H
              obtain ⟨t1535, A410, H⟩ := H
              replace H : ((spec_PutNum.f kj37 t1535 (l0_12.length : Int)).bind fun t1538 => (spec_PutBlock.l1 kj37 t1538 0 a0_0 a0_1 a0_2 a0_3 a0_4 a0_5 l0_6 a0_7 l0_8 l0_9 l0_10 a0_11 l0_12 a0_13)) = some r := H
              have A41 := Aside0.mk A410
              clear A410
              replace H := Option.bind_eq_some_iff.mp H
              obtain ⟨t1538, A420, H⟩ := H
              replace H : (spec_PutBlock.l1 kj37 t1538 0 a0_0 a0_1 a0_2 a0_3 a0_4 a0_5 l0_6 a0_7 l0_8 l0_9 l0_10 a0_11 l0_12 a0_13) = some r := H
              have A42 := Aside0.mk A420
              clear A420
              have H' := Aside0.mk H
              clear H
              try go_wp2
              have n0_ := Aside0.mk (Kd.R_drew HO_3.out)
              have n1_ := Aside0.mk (blk_drew BK1502.out)
              have n2_ := Aside0.mk (below_drew1 HB.out)
              clear HO_3
              clear BK1502
              clear HB
              have HO_3 := n0_
              have BK1502 := n1_
              have HB := n2_
              clear n0_ n1_ n2_
              obtain ⟨Ao44, co44, eo44⟩ := Kd.R_slice HO_3.out
              (first | subst eo44 | (injection eo44 with f1_ f2_ f3_; have f4_ := f1_.symm; have f5_ := f3_.symm; clear f1_ f2_ f3_; subst f4_; subst f5_))
              refine start_ (n := 8) (S := fun w' => w'.cell? ⟨gb1502, 0, none⟩ = some (.int .i64 a0_0) ∧ w'.cell? ⟨gb1502, 1, none⟩ = some (.int .i64 a0_1) ∧ w'.cell? ⟨gb1502, 2, none⟩ = some (.int .i64 a0_2) ∧ w'.cell? ⟨gb1502, 3, none⟩ = some (.string a0_3) ∧ w'.cell? ⟨gb1502, 4, none⟩ = some (.int .i64 a0_4) ∧ w'.cell? ⟨gb1502, 5, none⟩ = some (.int .i64 a0_5) ∧ w'.cell? ⟨gb1502, 6, none⟩ = some (.slice A0_6 l0_6.length c0_6) ∧ w'.cell? ⟨gb1502, 7, none⟩ = some (.int .i64 a0_7) ∧ w'.cell? ⟨gb1502, 8, none⟩ = some (.slice A0_8 l0_8.length c0_8) ∧ w'.cell? ⟨gb1502, 9, none⟩ = some (.slice A0_9 l0_9.length c0_9) ∧ w'.cell? ⟨gb1502, 10, none⟩ = some (.slice A0_10 l0_10.length c0_10) ∧ w'.cell? ⟨gb1502, 11, none⟩ = some (.bool a0_11) ∧ w'.cell? ⟨gb1502, 12, none⟩ = some (.slice A0_12 l0_12.length c0_12) ∧ w'.cell? ⟨gb1502, 13, none⟩ = some (.string a0_13)) (ds := []) #[false, false, false, false, false, false, false, false] (by kernel_rfl) rfl rfl ⟨(blk_cell BK1502.out 0).trans rfl, (blk_cell BK1502.out 1).trans rfl, (blk_cell BK1502.out 2).trans rfl, (blk_cell BK1502.out 3).trans rfl, (blk_cell BK1502.out 4).trans rfl, (blk_cell BK1502.out 5).trans rfl, (blk_cell BK1502.out 6).trans rfl, (blk_cell BK1502.out 7).trans rfl, (blk_cell BK1502.out 8).trans rfl, (blk_cell BK1502.out 9).trans rfl, (blk_cell BK1502.out 10).trans rfl, (blk_cell BK1502.out 11).trans rfl, (blk_cell BK1502.out 12).trans rfl, (blk_cell BK1502.out 13).trans rfl⟩ (fun hHeld => ?_); refine with_tabW spec_PutBlock.tab12 spec_PutBlock.bits12 (fun HT_ HW_ => ?_)
              generalize wc.drew = w43 at HO_3 BK1502 HB hHeld ⊢
              refine pure_ (i := 0) (N := some 51) (v := ?_) (a' := ?_) #[true, false, false, false, false, false, false, false] rfl rfl (any_of HT_.out (by kernel_rfl)) (fun _ _ _ h => h) (Or.inl ⟨by rfl, ?_⟩) ?_ ?_
              rotate_left
              · intro w'
                go_simp
                with_reducible rfl
              rotate_left
              · simp only [Act.put, List.setIfInBounds_toArray, List.set_cons_zero, List.set_cons_succ, i64_w, i32_w]
                rfl
              refine pure_ (i := 1) (N := some 52) (v := ?_) (a' := ?_) #[true, true, false, false, false, false, false, false] rfl rfl (any_of HT_.out (by kernel_rfl)) (fun _ _ _ h => h) (Or.inl ⟨by rfl, ?_⟩) ?_ ?_
              rotate_left
              · intro w'
                go_simp
                with_reducible rfl
              rotate_left
              · simp only [Act.put, List.setIfInBounds_toArray, List.set_cons_zero, List.set_cons_succ, i64_w, i32_w]
                rfl
              refine pure_ (i := 3) (N := some 54) (v := ?_) (a' := ?_) #[true, true, false, true, false, false, false, false] rfl rfl (any_of HT_.out (by kernel_rfl)) (fun _ _ _ h => h) (Or.inl ⟨by rfl, ?_⟩) ?_ ?_
              rotate_left
              · intro w'
                go_simp
                with_reducible rfl
              rotate_left
              · simp only [Act.put, List.setIfInBounds_toArray, List.set_cons_zero, List.set_cons_succ, i64_w, i32_w]
                rfl
              refine take_ (i := 4) (N := some 55) (v := ?_) (a' := ?_) #[true, true, false, true, true, false, false, false] rfl rfl (take_ofW HT_.out HW_.out (by kernel_rfl)) (fun _ _ _ h => h) (Or.inl ⟨by rfl, ?_⟩) hHeld ?_ ?_
              rotate_left
              · rintro w' ⟨s0, s1, s2, s3, s4, s5, s6, s7, s8, s9, s10, s11, s12, s13⟩
                go_simp
                with_reducible rfl
              rotate_left
              · simp only [Act.put, List.setIfInBounds_toArray, List.set_cons_zero, List.set_cons_succ, i64_w, i32_w]
                rfl
              refine pure_ (i := 5) (N := some 56) (v := ?_) (a' := ?_) #[true, true, false, true, true, true, false, false] rfl rfl (any_of HT_.out (by kernel_rfl)) (fun _ _ _ h => h) (Or.inl ⟨by rfl, ?_⟩) ?_ ?_
              rotate_left
              · intro w'
                go_simp
                with_reducible rfl
              rotate_left
              · simp only [Act.put, List.setIfInBounds_toArray, List.set_cons_zero, List.set_cons_succ, i64_w, i32_w]
                rfl
              refine one_ (i := 2) (N := some 53) #[true, true, true, true, true, true, false, false] rfl rfl (one_of HT_.out (by kernel_rfl)) (by decide) (fun K hK => ?_)
              refine goes_ Try.func153 (by kernel_rfl) rfl #[.slice Ao44 x3_1.length co44, .int .i64 x5_37] (by rfl) rfl rfl (by (try simp only [List.map_toArray, List.map_cons, List.map_nil]); first | done | rfl | (simp only [List.length_drop, List.length_take]; rfl)) ?_
              with_reducible refine (spec_PutNum.calls kj37 _ _ x3_1 x5_37 t1535 _ ?side1 ?side2 A41.out).mono ?_
              (case side1 => repeat (first | exact (Kd.R_reads' HO_3.out).2.2 | (with_reducible refine Kd.C_alloc ?_ _) | (with_reducible refine Kd.C_drewN ?_ _) | (with_reducible refine Kd.C_drew ?_)))
              (case side2 => exact (Kd.R_reads' HO_3.out).2.1)
              rintro e w45 ⟨v1536, rfl, ho0, hb⟩
              refine ⟨_, rfl, ?_⟩
              have n0_ := Aside0.mk (Kd.R_elder' (by (with_reducible repeat (first | apply Kd.R_alloc | apply Kd.R_drewN | apply Kd.R_drew)); exact HO_3.out) (Kd.R_base ho0) hb)
              have n1_ := Aside0.mk (Kd.R_lower (Kd.R_new' ho0 (Kd.R_lt (by (with_reducible repeat (first | apply Kd.R_alloc | apply Kd.R_drewN | apply Kd.R_drew)); exact HO_3.out))) (below_size (by repeat (first | (with_reducible first | exact HB.out | apply below_alloc | apply pw_below_drewN | apply below_drew1 | refine below_set ?_ GE1502.out) | exact HB.out))))
              have n2_ := Aside0.mk (blk_below (g := gb1502) (by (with_reducible repeat (first | refine blk_drewN ?_ _ | refine blk_drew ?_ | refine blk_alloc ?_ _)); exact BK1502.out) hb)
              have n3_ := Aside0.mk (below_step (by repeat (first | (with_reducible first | exact HB.out | apply below_alloc | apply pw_below_drewN | apply below_drew1 | refine below_set ?_ GE1502.out) | exact HB.out)) hb)
              clear HO_3
              clear BK1502
              clear HB
              have HO_3 := n0_
              have HO1537 := n1_
              have BK1502 := n2_
              have HB := n3_
              clear n0_ n1_ n2_ n3_
              (try clear hb)
              (try clear hb2)
              (try clear hk)
              (try clear hi)
              (try clear ho0)
              obtain ⟨Ao46, co46, eo46⟩ := Kd.R_slice HO1537.out
              (first | subst eo46 | (injection eo46 with f1_ f2_ f3_; have f4_ := f1_.symm; have f5_ := f3_.symm; clear f1_ f2_ f3_; subst f4_; subst f5_))
              refine hK.out _ _ ⟨(blk_cell BK1502.out 0).trans rfl, (blk_cell BK1502.out 1).trans rfl, (blk_cell BK1502.out 2).trans rfl, (blk_cell BK1502.out 3).trans rfl, (blk_cell BK1502.out 4).trans rfl, (blk_cell BK1502.out 5).trans rfl, (blk_cell BK1502.out 6).trans rfl, (blk_cell BK1502.out 7).trans rfl, (blk_cell BK1502.out 8).trans rfl, (blk_cell BK1502.out 9).trans rfl, (blk_cell BK1502.out 10).trans rfl, (blk_cell BK1502.out 11).trans rfl, (blk_cell BK1502.out 12).trans rfl, (blk_cell BK1502.out 13).trans rfl⟩ (fun hHeld => ?_)
              clear hK K
              refine norm_ (a' := ?_) ?_ ?_
              rotate_left
              · show Act.put _ (some 53) _ = _
                simp only [Act.put, List.setIfInBounds_toArray, List.set_cons_zero, List.set_cons_succ, i64_w, i32_w]
                rfl
              refine one_ (i := 6) (N := some 57) #[true, true, true, true, true, true, true, false] rfl rfl (one_of HT_.out (by kernel_rfl)) (by decide) (fun K hK => ?_)
              refine goes_ Try.func153 (by kernel_rfl) rfl #[.slice Ao46 t1535.length co46, .int .i64 (l0_12.length : Int)] (by rfl) rfl rfl (by (try simp only [List.map_toArray, List.map_cons, List.map_nil]); first | done | rfl | (simp only [List.length_drop, List.length_take]; rfl)) ?_
              with_reducible refine (spec_PutNum.calls kj37 _ _ t1535 (l0_12.length : Int) t1538 _ ?side1 ?side2 A42.out).mono ?_
              (case side1 => repeat (first | exact (Kd.R_reads' HO1537.out).2.2 | (with_reducible refine Kd.C_alloc ?_ _) | (with_reducible refine Kd.C_drewN ?_ _) | (with_reducible refine Kd.C_drew ?_)))
              (case side2 => exact (Kd.R_reads' HO1537.out).2.1)
              rintro e w47 ⟨v1539, rfl, ho0, hb⟩
              refine ⟨_, rfl, ?_⟩
              have n0_ := Aside0.mk (Kd.R_elder' (by (with_reducible repeat (first | apply Kd.R_alloc | apply Kd.R_drewN | apply Kd.R_drew)); exact HO_3.out) (Kd.R_base ho0) hb)
              have n1_ := Aside0.mk (Kd.R_elder' (by (with_reducible repeat (first | apply Kd.R_alloc | apply Kd.R_drewN | apply Kd.R_drew)); exact HO1537.out) (Kd.R_base ho0) hb)
              have n2_ := Aside0.mk (Kd.R_lower (Kd.R_new' (Kd.R_new' ho0 (Kd.R_lt (by (with_reducible repeat (first | apply Kd.R_alloc | apply Kd.R_drewN | apply Kd.R_drew)); exact HO_3.out))) (Kd.R_lt (by (with_reducible repeat (first | apply Kd.R_alloc | apply Kd.R_drewN | apply Kd.R_drew)); exact HO1537.out))) (below_size (by repeat (first | (with_reducible first | exact HB.out | apply below_alloc | apply pw_below_drewN | apply below_drew1 | refine below_set ?_ GE1502.out) | exact HB.out))))
              have n3_ := Aside0.mk (blk_below (g := gb1502) (by (with_reducible repeat (first | refine blk_drewN ?_ _ | refine blk_drew ?_ | refine blk_alloc ?_ _)); exact BK1502.out) hb)
              have n4_ := Aside0.mk (below_step (by repeat (first | (with_reducible first | exact HB.out | apply below_alloc | apply pw_below_drewN | apply below_drew1 | refine below_set ?_ GE1502.out) | exact HB.out)) hb)
              clear HO_3
              clear HO1537
              clear BK1502
              clear HB
              have HO_3 := n0_
              have HO1537 := n1_
              have HO1540 := n2_
              have BK1502 := n3_
              have HB := n4_
              clear n0_ n1_ n2_ n3_ n4_
              (try clear hb)
              (try clear hb2)
              (try clear hk)
              (try clear hi)
              (try clear ho0)
              refine hK.out _ _ ⟨(blk_cell BK1502.out 0).trans rfl, (blk_cell BK1502.out 1).trans rfl, (blk_cell BK1502.out 2).trans rfl, (blk_cell BK1502.out 3).trans rfl, (blk_cell BK1502.out 4).trans rfl, (blk_cell BK1502.out 5).trans rfl, (blk_cell BK1502.out 6).trans rfl, (blk_cell BK1502.out 7).trans rfl, (blk_cell BK1502.out 8).trans rfl, (blk_cell BK1502.out 9).trans rfl, (blk_cell BK1502.out 10).trans rfl, (blk_cell BK1502.out 11).trans rfl, (blk_cell BK1502.out 12).trans rfl, (blk_cell BK1502.out 13).trans rfl⟩ (fun hHeld => ?_)
              clear hK K
              refine norm_ (a' := ?_) ?_ ?_
              rotate_left
              · show Act.put _ (some 57) _ = _
                simp only [Act.put, List.setIfInBounds_toArray, List.set_cons_zero, List.set_cons_succ, i64_w, i32_w]
                rfl
              refine pure_ (i := 7) (N := some 3) (v := ?_) (a' := ?_) #[true, true, true, true, true, true, true, true] rfl rfl (any_of HT_.out (by kernel_rfl)) (fun _ _ _ h => h) (Or.inl ⟨by rfl, ?_⟩) ?_ ?_
              rotate_left
              · intro w'
                go_simp
                with_reducible rfl
              rotate_left
              · simp only [Act.put, List.setIfInBounds_toArray, List.set_cons_zero, List.set_cons_succ, i64_w, i32_w]
                rfl
              refine done_ (done_of HT_.out (by kernel_rfl)) ?_
              try go_wp2
              go_loopg [3, 6] kj37 (fun kq v3 v6 w' => ∃ (x3_3 : List Int) (x6_3 : Int), v6 = .int .i64 x6_3 ∧ Aside0 (spec_PutBlock.l1 kq x3_3 x6_3 a0_0 a0_1 a0_2 a0_3 a0_4 a0_5 l0_6 a0_7 l0_8 l0_9 l0_10 a0_11 l0_12 a0_13 = some r) ∧ Aside0 (kq ≤ kj37) ∧ Aside0 (Kd.R (Kd.int .u8) 5 w' w.heap.size (fun _ => True) v3 x3_3) ∧ Aside0 (w'.heap[gb1502]? = some (.cells #[.int .i64 a0_0, .int .i64 a0_1, .int .i64 a0_2, .string a0_3, .int .i64 a0_4, .int .i64 a0_5, (.slice A0_6 l0_6.length c0_6), .int .i64 a0_7, (.slice A0_8 l0_8.length c0_8), (.slice A0_9 l0_9.length c0_9), (.slice A0_10 l0_10.length c0_10), .bool a0_11, (.slice A0_12 l0_12.length c0_12), .string a0_13] 113 (0, 0))) ∧ Aside0 (Below w.heap.size w w'))
              case atStart => exact ⟨(t1538), (0), (by first | rfl | (simp; done) | (simp [*]; done)), H', ⟨Nat.le_refl _⟩, ⟨by (with_reducible repeat (first | apply Kd.R_alloc | apply Kd.R_drewN | apply Kd.R_drew)); exact Kd.R_mono HO1540.out (fun _ hk => trivial)⟩, ⟨by (with_reducible repeat (first | refine blk_drewN ?_ _ | refine blk_drew ?_ | refine blk_alloc ?_ _)); exact BK1502.out⟩, ⟨by repeat (first | (with_reducible first | exact HB.out | apply below_alloc | apply pw_below_drewN | apply below_drew1 | refine below_set ?_ GE1502.out) | exact HB.out)⟩⟩
              case round =>
                clear H'
                try clear c1
                try clear p1
                try clear q1
                try clear hx1
                try clear p2
                try clear c3
                try clear c4
                try clear c6
                try clear p6
                try clear c15
                try clear p15
                try clear q15
                try clear hx15
                try clear c32
                try clear c32b0
                try clear c33
                try clear c33b0
                try clear c40
                try clear hcz12_0
                try clear hcz12_1
                try clear hcz12_10
                try clear hcz12_11
                try clear hcz12_12
                try clear hcz12_13
                try clear hcz12_2
                try clear hcz12_3
                try clear hcz12_4
                try clear hcz12_5
                try clear hcz12_6
                try clear hcz12_7
                try clear hcz12_8
                try clear hcz12_9
                try clear hcz35_0
                try clear hcz35_1
                try clear hcz35_10
                try clear hcz35_11
                try clear hcz35_12
                try clear hcz35_13
                try clear hcz35_2
                try clear hcz35_3
                try clear hcz35_4
                try clear hcz35_5
                try clear hcz35_6
                try clear hcz35_7
                try clear hcz35_8
                try clear hcz35_9
                try clear hcz39_0
                try clear hcz39_1
                try clear hcz39_10
                try clear hcz39_11
                try clear hcz39_12
                try clear hcz39_13
                try clear hcz39_2
                try clear hcz39_3
                try clear hcz39_4
                try clear hcz39_5
                try clear hcz39_6
                try clear hcz39_7
                try clear hcz39_8
                try clear hcz39_9
                try clear hfz12_0
                try clear hfz12_1
                try clear hfz12_10
                try clear hfz12_11
                try clear hfz12_12
                try clear hfz12_13
                try clear hfz12_2
                try clear hfz12_3
                try clear hfz12_4
                try clear hfz12_5
                try clear hfz12_6
                try clear hfz12_7
                try clear hfz12_8
                try clear hfz12_9
                try clear hfz35_0
                try clear hfz35_1
                try clear hfz35_10
                try clear hfz35_11
                try clear hfz35_12
                try clear hfz35_13
                try clear hfz35_2
                try clear hfz35_3
                try clear hfz35_4
                try clear hfz35_5
                try clear hfz35_6
                try clear hfz35_7
                try clear hfz35_8
                try clear hfz35_9
                try clear hfz39_0
                try clear hfz39_1
                try clear hfz39_10
                try clear hfz39_11
                try clear hfz39_12
                try clear hfz39_13
                try clear hfz39_2
                try clear hfz39_3
                try clear hfz39_4
                try clear hfz39_5
                try clear hfz39_6
                try clear hfz39_7
                try clear hfz39_8
                try clear hfz39_9
                try clear hx1531_0
                try clear hx1531_1
                try clear hx1531_2
                try clear hx1531_3
                try clear hx1531_4
                try clear p1
                try clear p15
                try clear p1531
                try clear p2
                try clear p6
                try clear q1
                try clear q15
                try clear q1531
                obtain ⟨x3_3, x6_3, rfl, HA, HK3, HO_3, BK1502, HB⟩ := hrel
                cases gk with
                | zero => exact absurd HA.out (by simp [spec_PutBlock.l1])
                | succ k3 =>
                  have H := HA.out
                  clear HA
                  simp only [spec_PutBlock.l1] at H
                  by_cases c48 : x6_3 < (l0_12.length : Int)
                  · rw [if_pos c48] at H
                    have c48b0 : decide (x6_3 < (l0_12.length : Int)) = true := decide_eq_true c48
                    clear c48
                    by_cases c49 : 0 ≤ x6_3
                    · rw [if_pos c49] at H
                      have c49b0 : decide (0 ≤ x6_3) = true := decide_eq_true c49
                      clear c49
                      replace H := Option.bind_eq_some_iff.mp H
                      obtain ⟨t1542, A500, H⟩ := H
                      replace H : ((spec_PutNum.f k3 t1542 ((rd_T138 l0_12 x6_3).f1)).bind fun t1546 => (spec_PutBlock.l1 k3 t1546 (wrap64 (x6_3 + 1)) a0_0 a0_1 a0_2 a0_3 a0_4 a0_5 l0_6 a0_7 l0_8 l0_9 l0_10 a0_11 l0_12 a0_13)) = some r := H
                      have A50 := Aside0.mk A500
                      clear A500
                      replace H := Option.bind_eq_some_iff.mp H
                      obtain ⟨t1546, A510, H⟩ := H
                      replace H : (spec_PutBlock.l1 k3 t1546 (wrap64 (x6_3 + 1)) a0_0 a0_1 a0_2 a0_3 a0_4 a0_5 l0_6 a0_7 l0_8 l0_9 l0_10 a0_11 l0_12 a0_13) = some r := H
                      have A51 := Aside0.mk A510
                      clear A510
                      have H' := Aside0.mk H
                      clear H
                      obtain ⟨hcz52_0, hcz52_1, hcz52_2, hcz52_3, hcz52_4, hcz52_5, hcz52_6, hcz52_7, hcz52_8, hcz52_9, hcz52_10, hcz52_11, hcz52_12, hcz52_13⟩ := cells14 BK1502.out
                      obtain ⟨hfz52_0, hfz52_1, hfz52_2, hfz52_3, hfz52_4, hfz52_5, hfz52_6, hfz52_7, hfz52_8, hfz52_9, hfz52_10, hfz52_11, hfz52_12, hfz52_13⟩ := frozens14 BK1502.out
                      try go_wp2
                      have n0_ := Aside0.mk (Kd.R_drew HO_3.out)
                      have n1_ := Aside0.mk (blk_drew BK1502.out)
                      have n2_ := Aside0.mk (below_drew1 HB.out)
                      clear HO_3
                      clear BK1502
                      clear HB
                      have HO_3 := n0_
                      have BK1502 := n1_
                      have HB := n2_
                      clear n0_ n1_ n2_
                      have p1541 : 0 ≤ (x6_3 : Int) := of_decide_eq_true (by first | (with_reducible assumption) | assumption)
                      have q1541 : x6_3 < (l0_12.length : Int) := of_decide_eq_true (by first | (with_reducible assumption) | assumption)
                      obtain ⟨ad1541, e1541, hx1541_0, hx1541_1⟩ := at_T138 HR0_12.out x6_3 p1541 q1541
                      have hw1541_1 := hx1541_1
                      have hw1541_0 := hx1541_0
                      cases e1541
                      replace hx1541_0 := (HB.out.cell (World.block_lt_of_cell? w _ hx1541_0)).trans hx1541_0
                      replace hx1541_1 := (HB.out.cell (World.block_lt_of_cell? w _ hx1541_1)).trans hx1541_1
                      replace p1541 := eq_true p1541
                      replace q1541 := eq_true q1541
                      have p1545 : 0 ≤ (x6_3 : Int) := of_decide_eq_true (by first | (with_reducible assumption) | assumption)
                      have q1545 : x6_3 < (l0_12.length : Int) := of_decide_eq_true (by first | (with_reducible assumption) | assumption)
                      obtain ⟨ad1545, e1545, hx1545_0, hx1545_1⟩ := at_T138 HR0_12.out x6_3 p1545 q1545
                      have hw1545_1 := hx1545_1
                      have hw1545_0 := hx1545_0
                      obtain rfl : ad1541 = ad1545 := (by injection e1545)
                      replace hx1545_0 := (HB.out.cell (World.block_lt_of_cell? w _ hx1545_0)).trans hx1545_0
                      replace hx1545_1 := (HB.out.cell (World.block_lt_of_cell? w _ hx1545_1)).trans hx1545_1
                      replace p1545 := eq_true p1545
                      replace q1545 := eq_true q1545
                      obtain ⟨Ao54, co54, eo54⟩ := Kd.R_slice HO_3.out
                      (first | subst eo54 | (injection eo54 with f1_ f2_ f3_; have f4_ := f1_.symm; have f5_ := f3_.symm; clear f1_ f2_ f3_; subst f4_; subst f5_))
                      refine start_ (n := 16) (S := fun w' => w'.cell? ⟨gb1502, 0, none⟩ = some (.int .i64 a0_0) ∧ w'.cell? ⟨gb1502, 1, none⟩ = some (.int .i64 a0_1) ∧ w'.cell? ⟨gb1502, 2, none⟩ = some (.int .i64 a0_2) ∧ w'.cell? ⟨gb1502, 3, none⟩ = some (.string a0_3) ∧ w'.cell? ⟨gb1502, 4, none⟩ = some (.int .i64 a0_4) ∧ w'.cell? ⟨gb1502, 5, none⟩ = some (.int .i64 a0_5) ∧ w'.cell? ⟨gb1502, 6, none⟩ = some (.slice A0_6 l0_6.length c0_6) ∧ w'.cell? ⟨gb1502, 7, none⟩ = some (.int .i64 a0_7) ∧ w'.cell? ⟨gb1502, 8, none⟩ = some (.slice A0_8 l0_8.length c0_8) ∧ w'.cell? ⟨gb1502, 9, none⟩ = some (.slice A0_9 l0_9.length c0_9) ∧ w'.cell? ⟨gb1502, 10, none⟩ = some (.slice A0_10 l0_10.length c0_10) ∧ w'.cell? ⟨gb1502, 11, none⟩ = some (.bool a0_11) ∧ w'.cell? ⟨gb1502, 12, none⟩ = some (.slice (some ad1541) l0_12.length c0_12) ∧ w'.cell? ⟨gb1502, 13, none⟩ = some (.string a0_13) ∧ w'.cell? (ad1541.add ((x6_3).toNat * 2)) = some (.string ((rd_T138 l0_12 x6_3).f0)) ∧ w'.cell? ⟨(ad1541.add ((x6_3).toNat * 2)).block, (ad1541.add ((x6_3).toNat * 2)).off + 1, none⟩ = some (.int .i64 ((rd_T138 l0_12 x6_3).f1)) ∧ w'.cell? (ad1541.add ((x6_3).toNat * 2)) = some (.string ((rd_T138 l0_12 x6_3).f0)) ∧ w'.cell? ⟨(ad1541.add ((x6_3).toNat * 2)).block, (ad1541.add ((x6_3).toNat * 2)).off + 1, none⟩ = some (.int .i64 ((rd_T138 l0_12 x6_3).f1))) (ds := []) #[false, false, false, false, false, false, false, false, false, false, false, false, false, false, false, false] (by kernel_rfl) rfl rfl ⟨(blk_cell BK1502.out 0).trans rfl, (blk_cell BK1502.out 1).trans rfl, (blk_cell BK1502.out 2).trans rfl, (blk_cell BK1502.out 3).trans rfl, (blk_cell BK1502.out 4).trans rfl, (blk_cell BK1502.out 5).trans rfl, (blk_cell BK1502.out 6).trans rfl, (blk_cell BK1502.out 7).trans rfl, (blk_cell BK1502.out 8).trans rfl, (blk_cell BK1502.out 9).trans rfl, (blk_cell BK1502.out 10).trans rfl, (blk_cell BK1502.out 11).trans rfl, (blk_cell BK1502.out 12).trans rfl, (blk_cell BK1502.out 13).trans rfl, ((HB.out.cell (World.block_lt_of_cell? w _ hw1541_0)).trans hw1541_0), ((HB.out.cell (World.block_lt_of_cell? w _ hw1541_1)).trans hw1541_1), ((HB.out.cell (World.block_lt_of_cell? w _ hw1545_0)).trans hw1545_0), ((HB.out.cell (World.block_lt_of_cell? w _ hw1545_1)).trans hw1545_1)⟩ (fun hHeld => ?_); refine with_tabW spec_PutBlock.tab16 spec_PutBlock.bits16 (fun HT_ HW_ => ?_)
                      generalize wr.drew = w53 at HO_3 BK1502 HB hx1541_0 hx1541_1 hx1545_0 hx1545_1 hHeld ⊢
                      refine pure_ (i := 0) (N := some 65) (v := ?_) (a' := ?_) #[true, false, false, false, false, false, false, false, false, false, false, false, false, false, false, false] rfl rfl (any_of HT_.out (by kernel_rfl)) (fun _ _ _ h => h) (Or.inl ⟨by rfl, ?_⟩) ?_ ?_
                      rotate_left
                      · intro w'
                        go_simp
                        with_reducible rfl
                      rotate_left
                      · simp only [Act.put, List.setIfInBounds_toArray, List.set_cons_zero, List.set_cons_succ, i64_w, i32_w]
                        rfl
                      refine pure_ (i := 1) (N := some 66) (v := ?_) (a' := ?_) #[true, true, false, false, false, false, false, false, false, false, false, false, false, false, false, false] rfl rfl (any_of HT_.out (by kernel_rfl)) (fun _ _ _ h => h) (Or.inl ⟨by rfl, ?_⟩) ?_ ?_
                      rotate_left
                      · intro w'
                        go_simp
                        with_reducible rfl
                      rotate_left
                      · simp only [Act.put, List.setIfInBounds_toArray, List.set_cons_zero, List.set_cons_succ, i64_w, i32_w]
                        rfl
                      refine pure_ (i := 3) (N := some 68) (v := ?_) (a' := ?_) #[true, true, false, true, false, false, false, false, false, false, false, false, false, false, false, false] rfl rfl (any_of HT_.out (by kernel_rfl)) (fun _ _ _ h => h) (Or.inl ⟨by rfl, ?_⟩) ?_ ?_
                      rotate_left
                      · intro w'
                        go_simp
                        with_reducible rfl
                      rotate_left
                      · simp only [Act.put, List.setIfInBounds_toArray, List.set_cons_zero, List.set_cons_succ, i64_w, i32_w]
                        rfl
                      refine pure_ (i := 8) (N := some 73) (v := ?_) (a' := ?_) #[true, true, false, true, false, false, false, false, true, false, false, false, false, false, false, false] rfl rfl (any_of HT_.out (by kernel_rfl)) (fun _ _ _ h => h) (Or.inl ⟨by rfl, ?_⟩) ?_ ?_
                      rotate_left
                      · intro w'
                        go_simp
                        with_reducible rfl
                      rotate_left
                      · simp only [Act.put, List.setIfInBounds_toArray, List.set_cons_zero, List.set_cons_succ, i64_w, i32_w]
                        rfl
                      refine pure_ (i := 10) (N := some 75) (v := ?_) (a' := ?_) #[true, true, false, true, false, false, false, false, true, false, true, false, false, false, false, false] rfl rfl (any_of HT_.out (by kernel_rfl)) (fun _ _ _ h => h) (Or.inl ⟨by rfl, ?_⟩) ?_ ?_
                      rotate_left
                      · intro w'
                        go_simp
                        with_reducible rfl
                      rotate_left
                      · simp only [Act.put, List.setIfInBounds_toArray, List.set_cons_zero, List.set_cons_succ, i64_w, i32_w]
                        rfl
                      refine take_ (i := 2) (N := some 67) (v := ?_) (a' := ?_) #[true, true, true, true, false, false, false, false, true, false, true, false, false, false, false, false] rfl rfl (take_ofW HT_.out HW_.out (by kernel_rfl)) (fun _ _ _ h => h) (Or.inl ⟨by rfl, ?_⟩) hHeld ?_ ?_
                      rotate_left
                      · rintro w' ⟨s0, s1, s2, s3, s4, s5, s6, s7, s8, s9, s10, s11, s12, s13, s14, s15, s16, s17⟩
                        go_simp
                        with_reducible rfl
                      rotate_left
                      · simp only [Act.put, List.setIfInBounds_toArray, List.set_cons_zero, List.set_cons_succ, i64_w, i32_w]
                        rfl
                      refine pure_ (i := 4) (N := some 69) (v := ?_) (a' := ?_) #[true, true, true, true, true, false, false, false, true, false, true, false, false, false, false, false] rfl rfl (any_of HT_.out (by kernel_rfl)) (fun _ _ _ h => h) (Or.inl ⟨by rfl, ?_⟩) ?_ ?_
                      rotate_left
                      · intro w'
                        go_simp
                        with_reducible rfl
                      rotate_left
                      · simp only [Act.put, List.setIfInBounds_toArray, List.set_cons_zero, List.set_cons_succ, i64_w, i32_w]
                        rfl
                      refine pure_ (i := 5) (N := some 70) (v := ?_) (a' := ?_) #[true, true, true, true, true, true, false, false, true, false, true, false, false, false, false, false] rfl rfl (any_of HT_.out (by kernel_rfl)) (fun _ _ _ h => h) (Or.inl ⟨by rfl, ?_⟩) ?_ ?_
                      rotate_left
                      · intro w'
                        go_simp
                        with_reducible rfl
                      rotate_left
                      · simp only [Act.put, List.setIfInBounds_toArray, List.set_cons_zero, List.set_cons_succ, i64_w, i32_w]
                        rfl
                      refine take_ (i := 6) (N := some 71) (v := ?_) (a' := ?_) #[true, true, true, true, true, true, true, false, true, false, true, false, false, false, false, false] rfl rfl (take_ofW HT_.out HW_.out (by kernel_rfl)) (fun _ _ _ h => h) (Or.inl ⟨by rfl, ?_⟩) hHeld ?_ ?_
                      rotate_left
                      · rintro w' ⟨s0, s1, s2, s3, s4, s5, s6, s7, s8, s9, s10, s11, s12, s13, s14, s15, s16, s17⟩
                        go_simp
                        with_reducible rfl
                      rotate_left
                      · simp only [Act.put, List.setIfInBounds_toArray, List.set_cons_zero, List.set_cons_succ, i64_w, i32_w]
                        rfl
                      refine take_ (i := 9) (N := some 74) (v := ?_) (a' := ?_) #[true, true, true, true, true, true, true, false, true, true, true, false, false, false, false, false] rfl rfl (take_ofW HT_.out HW_.out (by kernel_rfl)) (fun _ _ _ h => h) (Or.inl ⟨by rfl, ?_⟩) hHeld ?_ ?_
                      rotate_left
                      · rintro w' ⟨s0, s1, s2, s3, s4, s5, s6, s7, s8, s9, s10, s11, s12, s13, s14, s15, s16, s17⟩
                        go_simp
                        with_reducible rfl
                      rotate_left
                      · simp only [Act.put, List.setIfInBounds_toArray, List.set_cons_zero, List.set_cons_succ, i64_w, i32_w]
                        rfl
                      refine pure_ (i := 11) (N := some 76) (v := ?_) (a' := ?_) #[true, true, true, true, true, true, true, false, true, true, true, true, false, false, false, false] rfl rfl (any_of HT_.out (by kernel_rfl)) (fun _ _ _ h => h) (Or.inl ⟨by rfl, ?_⟩) ?_ ?_
                      rotate_left
                      · intro w'
                        go_simp
                        with_reducible rfl
                      rotate_left
                      · simp only [Act.put, List.setIfInBounds_toArray, List.set_cons_zero, List.set_cons_succ, i64_w, i32_w]
                        rfl
                      refine pure_ (i := 12) (N := some 77) (v := ?_) (a' := ?_) #[true, true, true, true, true, true, true, false, true, true, true, true, true, false, false, false] rfl rfl (any_of HT_.out (by kernel_rfl)) (fun _ _ _ h => h) (Or.inl ⟨by rfl, ?_⟩) ?_ ?_
                      rotate_left
                      · intro w'
                        go_simp
                        with_reducible rfl
                      rotate_left
                      · simp only [Act.put, List.setIfInBounds_toArray, List.set_cons_zero, List.set_cons_succ, i64_w, i32_w]
                        rfl
                      refine take_ (i := 13) (N := some 78) (v := ?_) (a' := ?_) #[true, true, true, true, true, true, true, false, true, true, true, true, true, true, false, false] rfl rfl (take_ofW HT_.out HW_.out (by kernel_rfl)) (fun _ _ _ h => h) (Or.inl ⟨by rfl, ?_⟩) hHeld ?_ ?_
                      rotate_left
                      · rintro w' ⟨s0, s1, s2, s3, s4, s5, s6, s7, s8, s9, s10, s11, s12, s13, s14, s15, s16, s17⟩
                        go_simp
                        with_reducible rfl
                      rotate_left
                      · simp only [Act.put, List.setIfInBounds_toArray, List.set_cons_zero, List.set_cons_succ, i64_w, i32_w]
                        rfl
                      refine one_ (i := 7) (N := some 72) #[true, true, true, true, true, true, true, true, true, true, true, true, true, true, false, false] rfl rfl (one_of HT_.out (by kernel_rfl)) (by decide) (fun K hK => ?_)
                      refine goes_ Try.func152 (by kernel_rfl) rfl #[.slice Ao54 x3_3.length co54, .string ((rd_T138 l0_12 x6_3).f0)] (by rfl) rfl rfl (by (try simp only [List.map_toArray, List.map_cons, List.map_nil]); first | done | rfl | (simp only [List.length_drop, List.length_take]; rfl)) ?_
                      with_reducible refine (spec_PutText.calls k3 _ _ x3_3 ((rd_T138 l0_12 x6_3).f0) t1542 _ ?side1 ?side2 A50.out).mono ?_
                      (case side1 => repeat (first | exact (Kd.R_reads' HO_3.out).2.2 | (with_reducible refine Kd.C_alloc ?_ _) | (with_reducible refine Kd.C_drewN ?_ _) | (with_reducible refine Kd.C_drew ?_)))
                      (case side2 => exact (Kd.R_reads' HO_3.out).2.1)
                      rintro e w55 ⟨v1543, rfl, ho0, hb⟩
                      refine ⟨_, rfl, ?_⟩
                      have n0_ := Aside0.mk (Kd.R_elder' (by (with_reducible repeat (first | apply Kd.R_alloc | apply Kd.R_drewN | apply Kd.R_drew)); exact HO_3.out) (Kd.R_base ho0) hb)
                      have n1_ := Aside0.mk (Kd.R_lower (Kd.R_new' ho0 (Kd.R_lt (by (with_reducible repeat (first | apply Kd.R_alloc | apply Kd.R_drewN | apply Kd.R_drew)); exact HO_3.out))) (below_size (by repeat (first | (with_reducible first | exact HB.out | apply below_alloc | apply pw_below_drewN | apply below_drew1 | refine below_set ?_ GE1502.out) | exact HB.out))))
                      have n2_ := Aside0.mk (blk_below (g := gb1502) (by (with_reducible repeat (first | refine blk_drewN ?_ _ | refine blk_drew ?_ | refine blk_alloc ?_ _)); exact BK1502.out) hb)
                      have n3_ := Aside0.mk (below_step (by repeat (first | (with_reducible first | exact HB.out | apply below_alloc | apply pw_below_drewN | apply below_drew1 | refine below_set ?_ GE1502.out) | exact HB.out)) hb)
                      clear HO_3
                      clear BK1502
                      clear HB
                      have HO_3 := n0_
                      have HO1544 := n1_
                      have BK1502 := n2_
                      have HB := n3_
                      clear n0_ n1_ n2_ n3_
                      (try clear hb)
                      (try clear hb2)
                      (try clear hk)
                      (try clear hi)
                      (try clear ho0)
                      obtain ⟨Ao56, co56, eo56⟩ := Kd.R_slice HO1544.out
                      (first | subst eo56 | (injection eo56 with f1_ f2_ f3_; have f4_ := f1_.symm; have f5_ := f3_.symm; clear f1_ f2_ f3_; subst f4_; subst f5_))
                      refine hK.out _ _ ⟨(blk_cell BK1502.out 0).trans rfl, (blk_cell BK1502.out 1).trans rfl, (blk_cell BK1502.out 2).trans rfl, (blk_cell BK1502.out 3).trans rfl, (blk_cell BK1502.out 4).trans rfl, (blk_cell BK1502.out 5).trans rfl, (blk_cell BK1502.out 6).trans rfl, (blk_cell BK1502.out 7).trans rfl, (blk_cell BK1502.out 8).trans rfl, (blk_cell BK1502.out 9).trans rfl, (blk_cell BK1502.out 10).trans rfl, (blk_cell BK1502.out 11).trans rfl, (blk_cell BK1502.out 12).trans rfl, (blk_cell BK1502.out 13).trans rfl, ((HB.out.cell (World.block_lt_of_cell? w _ hw1541_0)).trans hw1541_0), ((HB.out.cell (World.block_lt_of_cell? w _ hw1541_1)).trans hw1541_1), ((HB.out.cell (World.block_lt_of_cell? w _ hw1545_0)).trans hw1545_0), ((HB.out.cell (World.block_lt_of_cell? w _ hw1545_1)).trans hw1545_1)⟩ (fun hHeld => ?_)
                      clear hK K
                      refine norm_ (a' := ?_) ?_ ?_
                      rotate_left
                      · show Act.put _ (some 72) _ = _
                        simp only [Act.put, List.setIfInBounds_toArray, List.set_cons_zero, List.set_cons_succ, i64_w, i32_w]
                        rfl
                      refine one_ (i := 14) (N := some 79) #[true, true, true, true, true, true, true, true, true, true, true, true, true, true, true, false] rfl rfl (one_of HT_.out (by kernel_rfl)) (by decide) (fun K hK => ?_)
                      refine goes_ Try.func153 (by kernel_rfl) rfl #[.slice Ao56 t1542.length co56, .int .i64 ((rd_T138 l0_12 x6_3).f1)] (by rfl) rfl rfl (by (try simp only [List.map_toArray, List.map_cons, List.map_nil]); first | done | rfl | (simp only [List.length_drop, List.length_take]; rfl)) ?_
                      with_reducible refine (spec_PutNum.calls k3 _ _ t1542 ((rd_T138 l0_12 x6_3).f1) t1546 _ ?side1 ?side2 A51.out).mono ?_
                      (case side1 => repeat (first | exact (Kd.R_reads' HO1544.out).2.2 | (with_reducible refine Kd.C_alloc ?_ _) | (with_reducible refine Kd.C_drewN ?_ _) | (with_reducible refine Kd.C_drew ?_)))
                      (case side2 => exact (Kd.R_reads' HO1544.out).2.1)
                      rintro e w57 ⟨v1547, rfl, ho0, hb⟩
                      refine ⟨_, rfl, ?_⟩
                      have n0_ := Aside0.mk (Kd.R_elder' (by (with_reducible repeat (first | apply Kd.R_alloc | apply Kd.R_drewN | apply Kd.R_drew)); exact HO_3.out) (Kd.R_base ho0) hb)
                      have n1_ := Aside0.mk (Kd.R_elder' (by (with_reducible repeat (first | apply Kd.R_alloc | apply Kd.R_drewN | apply Kd.R_drew)); exact HO1544.out) (Kd.R_base ho0) hb)
                      have n2_ := Aside0.mk (Kd.R_lower (Kd.R_new' (Kd.R_new' ho0 (Kd.R_lt (by (with_reducible repeat (first | apply Kd.R_alloc | apply Kd.R_drewN | apply Kd.R_drew)); exact HO_3.out))) (Kd.R_lt (by (with_reducible repeat (first | apply Kd.R_alloc | apply Kd.R_drewN | apply Kd.R_drew)); exact HO1544.out))) (below_size (by repeat (first | (with_reducible first | exact HB.out | apply below_alloc | apply pw_below_drewN | apply below_drew1 | refine below_set ?_ GE1502.out) | exact HB.out))))
                      have n3_ := Aside0.mk (blk_below (g := gb1502) (by (with_reducible repeat (first | refine blk_drewN ?_ _ | refine blk_drew ?_ | refine blk_alloc ?_ _)); exact BK1502.out) hb)
                      have n4_ := Aside0.mk (below_step (by repeat (first | (with_reducible first | exact HB.out | apply below_alloc | apply pw_below_drewN | apply below_drew1 | refine below_set ?_ GE1502.out) | exact HB.out)) hb)
                      clear HO_3
                      clear HO1544
                      clear BK1502
                      clear HB
                      have HO_3 := n0_
                      have HO1544 := n1_
                      have HO1548 := n2_
                      have BK1502 := n3_
                      have HB := n4_
                      clear n0_ n1_ n2_ n3_ n4_
                      (try clear hb)
                      (try clear hb2)
                      (try clear hk)
                      (try clear hi)
                      (try clear ho0)
                      refine hK.out _ _ ⟨(blk_cell BK1502.out 0).trans rfl, (blk_cell BK1502.out 1).trans rfl, (blk_cell BK1502.out 2).trans rfl, (blk_cell BK1502.out 3).trans rfl, (blk_cell BK1502.out 4).trans rfl, (blk_cell BK1502.out 5).trans rfl, (blk_cell BK1502.out 6).trans rfl, (blk_cell BK1502.out 7).trans rfl, (blk_cell BK1502.out 8).trans rfl, (blk_cell BK1502.out 9).trans rfl, (blk_cell BK1502.out 10).trans rfl, (blk_cell BK1502.out 11).trans rfl, (blk_cell BK1502.out 12).trans rfl, (blk_cell BK1502.out 13).trans rfl, ((HB.out.cell (World.block_lt_of_cell? w _ hw1541_0)).trans hw1541_0), ((HB.out.cell (World.block_lt_of_cell? w _ hw1541_1)).trans hw1541_1), ((HB.out.cell (World.block_lt_of_cell? w _ hw1545_0)).trans hw1545_0), ((HB.out.cell (World.block_lt_of_cell? w _ hw1545_1)).trans hw1545_1)⟩ (fun hHeld => ?_)
                      clear hK K
                      refine norm_ (a' := ?_) ?_ ?_
                      rotate_left
                      · show Act.put _ (some 79) _ = _
                        simp only [Act.put, List.setIfInBounds_toArray, List.set_cons_zero, List.set_cons_succ, i64_w, i32_w]
                        rfl
                      refine pure_ (i := 15) (N := some 3) (v := ?_) (a' := ?_) #[true, true, true, true, true, true, true, true, true, true, true, true, true, true, true, true] rfl rfl (any_of HT_.out (by kernel_rfl)) (fun _ _ _ h => h) (Or.inl ⟨by rfl, ?_⟩) ?_ ?_
                      rotate_left
                      · intro w'
                        go_simp
                        with_reducible rfl
                      rotate_left
                      · simp only [Act.put, List.setIfInBounds_toArray, List.set_cons_zero, List.set_cons_succ, i64_w, i32_w]
                        rfl
                      refine done_ (done_of HT_.out (by kernel_rfl)) ?_
                      try go_wp2
                      go_roundg k3
                      case measure => have := HK1.out; have := HJ37.out; have := HK3.out; omega
                      case rel => exact ⟨(t1546), (wrap64 (x6_3 + 1)), (by first | rfl | (simp; done) | (simp [*]; done)), H', ⟨by have := HK1.out; have := HJ37.out; have := HK3.out; omega⟩, ⟨by (with_reducible repeat (first | apply Kd.R_alloc | apply Kd.R_drewN | apply Kd.R_drew)); exact Kd.R_mono HO1548.out (fun _ hk => trivial)⟩, ⟨by (with_reducible repeat (first | refine blk_drewN ?_ _ | refine blk_drew ?_ | refine blk_alloc ?_ _)); exact BK1502.out⟩, ⟨by repeat (first | (with_reducible first | exact HB.out | apply below_alloc | apply pw_below_drewN | apply below_drew1 | refine below_set ?_ GE1502.out) | exact HB.out)⟩⟩
                    · rw [if_neg c49] at H
                      exact absurd H (by simp)
                  · rw [if_neg c48] at H
                    have c48b0 : decide (x6_3 < (l0_12.length : Int)) = false := decide_eq_false c48
                    clear c48
                    replace H := Option.bind_eq_some_iff.mp H
                    obtain ⟨t1549, A580, H⟩ := H
                    replace H : (some t1549) = some r := H
                    have A58 := Aside0.mk A580
                    clear A580
                    obtain rfl := Option.some.inj H
                    obtain ⟨hcz59_0, hcz59_1, hcz59_2, hcz59_3, hcz59_4, hcz59_5, hcz59_6, hcz59_7, hcz59_8, hcz59_9, hcz59_10, hcz59_11, hcz59_12, hcz59_13⟩ := cells14 BK1502.out
                    obtain ⟨hfz59_0, hfz59_1, hfz59_2, hfz59_3, hfz59_4, hfz59_5, hfz59_6, hfz59_7, hfz59_8, hfz59_9, hfz59_10, hfz59_11, hfz59_12, hfz59_13⟩ := frozens14 BK1502.out
                    obtain ⟨Ao60, co60, eo60⟩ := Kd.R_slice HO_3.out
                    subst eo60
                    go_wp2_with (first | ((with_reducible refine gate_callee (f := 152) rfl ?_); refine goesL_ (some 83) rfl rfl Try.func152 (by kernel_rfl) rfl #[.slice Ao60 x3_3.length co60, .string a0_13] rfl (by (try simp only [List.map_toArray, List.map_cons, List.map_nil]); first | done | rfl | (simp only [List.length_drop, List.length_take]; rfl)) ?_; (with_reducible refine (spec_PutText.calls k3 _ _ x3_3 a0_13 t1549 _ ?side1 ?side2 A58.out).mono ?_); (case side1 => repeat (first | exact (Kd.R_reads' HO_3.out).2.2 | (with_reducible refine Kd.C_alloc ?_ _) | (with_reducible refine Kd.C_drewN ?_ _) | (with_reducible refine Kd.C_drew ?_))); (case side2 => exact (Kd.R_reads' HO_3.out).2.1); rintro e w61 ⟨v1550, rfl, ho0, hb⟩; refine ⟨_, rfl, ?_⟩; have n0_ := Aside0.mk (Kd.R_elder' (by (with_reducible repeat (first | apply Kd.R_alloc | apply Kd.R_drewN | apply Kd.R_drew)); exact HO_3.out) (Kd.R_base ho0) hb); have n1_ := Aside0.mk (Kd.R_lower (Kd.R_new' ho0 (Kd.R_lt (by (with_reducible repeat (first | apply Kd.R_alloc | apply Kd.R_drewN | apply Kd.R_drew)); exact HO_3.out))) (below_size (by repeat (first | (with_reducible first | exact HB.out | apply below_alloc | apply pw_below_drewN | apply below_drew1 | refine below_set ?_ GE1502.out) | exact HB.out)))); have n2_ := Aside0.mk (blk_below (g := gb1502) (by (with_reducible repeat (first | refine blk_drewN ?_ _ | refine blk_drew ?_ | refine blk_alloc ?_ _)); exact BK1502.out) hb); have n3_ := Aside0.mk (below_step (by repeat (first | (with_reducible first | exact HB.out | apply below_alloc | apply pw_below_drewN | apply below_drew1 | refine below_set ?_ GE1502.out) | exact HB.out)) hb); clear HO_3; clear BK1502; clear HB; have HO_3 := n0_; have HO1551 := n1_; have BK1502 := n2_; have HB := n3_; clear n0_ n1_ n2_ n3_; (try clear hb); (try clear hb2); (try clear hk); (try clear hi); (try clear ho0)))
                    go_ret
                    exact ⟨_, by first | rfl | (simp [errW_none, errW_some] <;> rfl) | (simp [*, errW_none, errW_some] <;> rfl), by (with_reducible repeat (first | apply Kd.R_alloc | apply Kd.R_drewN | apply Kd.R_drew)); exact Kd.R_mono HO1551.out (fun _ hk => trivial), by repeat (first | (with_reducible first | exact HB.out | apply below_alloc | apply pw_below_drewN | apply below_drew1 | refine below_set ?_ GE1502.out) | exact HB.out)⟩
  · replace c3 := Bool.eq_false_iff.mpr c3
    subst c3
    have H1 : (some (([] : List Int))) = some r := by rw [if_neg (show ¬ (false = true) by decide)] at H; exact H
    clear H
    have H := H1
    clear H1
    obtain ⟨y1504, hy1504⟩ : ∃ y_ : List Int, y_ = (([] : List Int)) := ⟨_, rfl⟩
    replace H : (some y1504) = some r := by first | (rw [hy1504]; with_reducible exact H) | (have H2_ := (Option.bind_some _ _).symm.trans H; rw [hy1504]; with_reducible exact H2_) | (have H2_ := (Option.bind_some _ _).symm.trans H; with_reducible exact H2_) | with_reducible exact H | (rw [hy1504]; exact H) | exact H
    have Ny1504 := Aside0.mk hy1504
    clear hy1504
    obtain rfl := Option.some.inj H
    go_enter Try.func68, Try.ntmps68
    go_wp2_with (first | ((with_reducible refine gate_dst (N := 1) rfl ?_); refine box_event ?hg (N := 1) ?hd (cs := #[.int .i64 a0_0, .int .i64 a0_1, .int .i64 a0_2, .string a0_3, .int .i64 a0_4, .int .i64 a0_5, .slice A0_6 l0_6.length c0_6, .int .i64 a0_7, .slice A0_8 l0_8.length c0_8, .slice A0_9 l0_9.length c0_9, .slice A0_10 l0_10.length c0_10, .bool a0_11, .slice A0_12 l0_12.length c0_12, .string a0_13]) (t := 113) ?hr ?_; (case hd => rfl); (case hg => rfl); (case hr => first | (go_simp; done) | (go_simp; rfl)); intro gb1502 hg w62 hbox hb; have n0_ := Aside0.mk (below_step (by repeat (first | (with_reducible first | exact HB.out | apply below_alloc | apply pw_below_drewN | apply below_drew1) | exact HB.out)) hb); have n1_ := Aside0.mk (hbox); have n2_ := Aside0.mk ((by rw [hg]; exact (below_size (by repeat (first | (with_reducible first | exact HB.out | apply below_alloc | apply pw_below_drewN | apply below_drew1) | exact HB.out))) : w.heap.size ≤ gb1502)); have n3_ := n2_; clear HB; have HB := n0_; have BK1502 := n1_; have GW1502 := n2_; have GE1502 := n3_; clear n0_ n1_ n2_ n3_; clear hb hbox hg; obtain ⟨hcz63_0, hcz63_1, hcz63_2, hcz63_3, hcz63_4, hcz63_5, hcz63_6, hcz63_7, hcz63_8, hcz63_9, hcz63_10, hcz63_11, hcz63_12, hcz63_13⟩ := cells14 BK1502.out; obtain ⟨hfz63_0, hfz63_1, hfz63_2, hfz63_3, hfz63_4, hfz63_5, hfz63_6, hfz63_7, hfz63_8, hfz63_9, hfz63_10, hfz63_11, hfz63_12, hfz63_13⟩ := frozens14 BK1502.out) | ((with_reducible refine gate_callee (f := 151) rfl ?_); refine goesL_ (some 8) rfl rfl Try.func151 (by kernel_rfl) rfl #[.agg #[.int .i64 a0_0, .int .i64 a0_1, .int .i64 a0_2, .string a0_3, .int .i64 a0_4, .int .i64 a0_5, .slice A0_6 l0_6.length c0_6, .int .i64 a0_7, .slice A0_8 l0_8.length c0_8, .slice A0_9 l0_9.length c0_9, .slice A0_10 l0_10.length c0_10, .bool a0_11, .slice A0_12 l0_12.length c0_12, .string a0_13]] rfl (by (try simp only [List.map_toArray, List.map_cons, List.map_nil]); first | done | rfl | (simp only [List.length_drop, List.length_take]; rfl)) ?_; (with_reducible refine (spec_BlockOk.calls k a0_0 a0_1 a0_2 a0_3 a0_4 a0_5 _ _ l0_6 a0_7 _ _ l0_8 _ _ l0_9 _ _ l0_10 a0_11 _ _ l0_12 a0_13 false _ ?side1 ?side2 ?side3 ?side4 ?side5 ?side6 ?side7 ?side8 ?side9 ?side10 A2.out).mono ?_); (case side1 => repeat (first | exact (Kd.C_below HR0_6.out HB.out) | (with_reducible refine Kd.C_alloc ?_ _) | (with_reducible refine Kd.C_drewN ?_ _) | (with_reducible refine Kd.C_drew ?_))); (case side2 => exact HC0_6.out); (case side3 => repeat (first | exact (Kd.C_below HR0_8.out HB.out) | (with_reducible refine Kd.C_alloc ?_ _) | (with_reducible refine Kd.C_drewN ?_ _) | (with_reducible refine Kd.C_drew ?_))); (case side4 => exact HC0_8.out); (case side5 => repeat (first | exact (Kd.C_below HR0_9.out HB.out) | (with_reducible refine Kd.C_alloc ?_ _) | (with_reducible refine Kd.C_drewN ?_ _) | (with_reducible refine Kd.C_drew ?_))); (case side6 => exact HC0_9.out); (case side7 => repeat (first | exact (Kd.C_below HR0_10.out HB.out) | (with_reducible refine Kd.C_alloc ?_ _) | (with_reducible refine Kd.C_drewN ?_ _) | (with_reducible refine Kd.C_drew ?_))); (case side8 => exact HC0_10.out); (case side9 => repeat (first | exact (Kd.C_below HR0_12.out HB.out) | (with_reducible refine Kd.C_alloc ?_ _) | (with_reducible refine Kd.C_drewN ?_ _) | (with_reducible refine Kd.C_drew ?_))); (case side10 => exact HC0_12.out); rintro e w64 ⟨rfl, hb⟩; refine ⟨_, rfl, ?_⟩; have n0_ := Aside0.mk (blk_below (g := gb1502) (by (with_reducible repeat (first | refine blk_drewN ?_ _ | refine blk_drew ?_ | refine blk_alloc ?_ _)); exact BK1502.out) hb); have n1_ := Aside0.mk (below_step (by repeat (first | (with_reducible first | exact HB.out | apply below_alloc | apply pw_below_drewN | apply below_drew1 | refine below_set ?_ GE1502.out) | exact HB.out)) hb); clear BK1502; clear HB; have BK1502 := n0_; have HB := n1_; clear n0_ n1_; (try clear hb); (try clear hb2); (try clear hk); (try clear hi)) | ((with_reducible refine gate_dst (N := 10) rfl ?_); refine Kd.R_lit (Kd.int .u8) _ 5 ?hg (N := 10) ?hd (xs := ([] : List Int)) (inner := []) (ok := fun _ => True) (okp := fun _ => True) ?hr ?hp (fun _ hk => hk) trivial (Below.refl _ _) (Nat.le_refl _) (by simp) ?_; (case hd => rfl); (case hg => rfl); (case hr => first | (go_simp; done) | (go_simp; rfl)); (case hp => exact (Reps.none _ _)); intro v1505 w65 ho66 hb hg_ hnew_; clear hg_ hnew_; (first | rw [← Ny1504.out] at ho66 | (simp only [Int.reduceToNat] at ho66; rw [← Ny1504.out] at ho66)); have n0_ := Aside0.mk (Kd.R_lower ho66 (below_size (by repeat (first | (with_reducible first | exact HB.out | apply below_alloc | apply pw_below_drewN | apply below_drew1 | refine below_set ?_ GE1502.out) | exact HB.out)))); have n1_ := Aside0.mk (blk_below (g := gb1502) (by (with_reducible repeat (first | refine blk_drewN ?_ _ | refine blk_drew ?_ | refine blk_alloc ?_ _)); exact BK1502.out) hb); have n2_ := Aside0.mk (below_step (by repeat (first | (with_reducible first | exact HB.out | apply below_alloc | apply pw_below_drewN | apply below_drew1 | refine below_set ?_ GE1502.out) | exact HB.out)) hb); clear BK1502; clear HB; have HO1506 := n0_; have BK1502 := n1_; have HB := n2_; clear n0_ n1_ n2_; clear hb ho66))
    go_ret
    exact ⟨_, by first | rfl | (simp [errW_none, errW_some] <;> rfl) | (simp [*, errW_none, errW_some] <;> rfl), by (with_reducible repeat (first | apply Kd.R_alloc | apply Kd.R_drewN | apply Kd.R_drew)); exact HO1506.out, by repeat (first | (with_reducible first | exact HB.out | apply below_alloc | apply pw_below_drewN | apply below_drew1 | refine below_set ?_ GE1502.out) | exact HB.out)⟩

theorem spec_PutBlock.vals {b : S113} {o : List Int} (hl : o.length + (b.f8.flatMap pVal ++ pText b.f9).length ≤ 50000000) (hn : b.f8.length ≤ 1048576) : Ev (fun k => spec_PutBlock.l1 k o 0 b.f0 b.f1 b.f2 b.f3 b.f4.f0 b.f4.f1 b.f4.f2 b.f5.f0 b.f5.f1 b.f5.f2 b.f6 b.f7 b.f8 b.f9) (o ++ (b.f8.flatMap pVal ++ pText b.f9)) := by
  have hp : ∀ s : ByteArray, s.size ≤ (pText s).length := fun s => by unfold pText; rw [List.length_append, bytesOf_length]; omega
  rw [List.length_append] at hl
  refine ev_app (xs := b.f8) pVal (fun k x i => spec_PutBlock.l1 k x i b.f0 b.f1 b.f2 b.f3 b.f4.f0 b.f4.f1 b.f4.f2 b.f5.f0 b.f5.f1 b.f5.f2 b.f6 b.f7 b.f8 b.f9) (o ++ (b.f8.flatMap pVal ++ pText b.f9)) o ?_ (fun pre y ys x hx he ih => ?_)
  · have h9 := hp b.f9
    simp only [spec_PutBlock.l1]
    refine Ev.no (by omega) (Ev.bind (spec_PutText.is b.f9 (by rw [List.length_append]; omega)) ?_)
    exact Ev.is (by simp only [List.append_assoc])
  · have hlen := len_app hx
    have hrd : rd_T138 b.f8 (pre.length : Int) = y := by rw [hx]; exact at_app pre y ys _
    have hx2 : x.length + ((pVal y).length + (ys.flatMap pVal).length) = o.length + (b.f8.flatMap pVal).length := by
      have := congrArg List.length he
      simp only [List.length_append] at this
      omega
    have hy := hp y.f0
    have hv : (pVal y).length = (pText y.f0).length + (pNum y.f1).length := by unfold pVal; rw [List.length_append]
    simp only [spec_PutBlock.l1, hrd]
    refine Ev.yes (by omega) (Ev.yes (by omega) <|  Ev.bind (spec_PutText.is y.f0 (by omega)) (Ev.bind (spec_PutNum.is y.f1 (by rw [List.length_append]; omega)) ?_))
    rw [unw (x := (pre.length : Int) + 1) (by omega) (by omega), List.append_assoc]
    exact ih
theorem spec_PutBlock.txs {b : S113} {o : List Int} (hl : o.length + (b.f6.flatMap pTx ++ (pNum (endN b.f7) ++ (pNum (b.f8.length : Int) ++ (b.f8.flatMap pVal ++ pText b.f9)))).length ≤ 50000000) (hn : b.f6.length ≤ 1048576) (hn8 : b.f8.length ≤ 1048576) : Ev (fun k => spec_PutBlock.l0 k o 0 b.f0 b.f1 b.f2 b.f3 b.f4.f0 b.f4.f1 b.f4.f2 b.f5.f0 b.f5.f1 b.f5.f2 b.f6 b.f7 b.f8 b.f9) (o ++ (b.f6.flatMap pTx ++ (pNum (endN b.f7) ++ (pNum (b.f8.length : Int) ++ (b.f8.flatMap pVal ++ pText b.f9))))) := by
  simp only [List.length_append] at hl
  have end_ : ∀ e : Int, endN b.f7 = e → Ev (fun k => spec_PutBlock.j1 k (o ++ b.f6.flatMap pTx) e b.f0 b.f1 b.f2 b.f3 b.f4.f0 b.f4.f1 b.f4.f2 b.f5.f0 b.f5.f1 b.f5.f2 b.f6 b.f7 b.f8 b.f9) (o ++ (b.f6.flatMap pTx ++ (pNum (endN b.f7) ++ (pNum (b.f8.length : Int) ++ (b.f8.flatMap pVal ++ pText b.f9))))) := by
    intro e he
    rw [he] at hl ⊢
    refine Ev.up ?_
    simp only [spec_PutBlock.j1]
    refine Ev.bind (spec_PutNum.is e (by rw [List.length_append]; omega)) (Ev.bind (spec_PutNum.is (b.f8.length : Int) (by simp only [List.length_append]; omega)) ?_)
    refine Ev.to (spec_PutBlock.vals (b := b) (by simp only [List.length_append]; omega) hn8) ?_
    simp only [List.append_assoc]
  refine ev_app (xs := b.f6) pTx (fun k x i => spec_PutBlock.l0 k x i b.f0 b.f1 b.f2 b.f3 b.f4.f0 b.f4.f1 b.f4.f2 b.f5.f0 b.f5.f1 b.f5.f2 b.f6 b.f7 b.f8 b.f9) _ o ?_ (fun pre y ys x hx he ih => ?_)
  · simp only [spec_PutBlock.l0]
    refine Ev.no (by omega) ?_
    cases h7 : b.f7
    · rw [h7] at end_
      exact Ev.no (by decide) (end_ 0 rfl)
    · rw [h7] at end_
      exact Ev.yes rfl (end_ 1 rfl)
  · have hlen := len_app hx
    have hrd : rd_T186 b.f6 (pre.length : Int) = y := by rw [hx]; exact at_app pre y ys _
    have hx2 : x.length + ((pTx y).length + (ys.flatMap pTx).length) = o.length + (b.f6.flatMap pTx).length := by
      have := congrArg List.length he
      simp only [List.length_append] at this
      omega
    simp only [spec_PutBlock.l0, hrd]
    refine Ev.yes (by omega) (Ev.yes (by omega) <|  Ev.bind (spec_l5Put.is y (by omega)) ?_)
    rw [unw (x := (pre.length : Int) + 1) (by omega) (by omega)]
    exact ih
theorem spec_PutBlock.is {b : S113} (hf : blockFit b) : Ev (fun k => spec_PutBlock.f k b.f0 b.f1 b.f2 b.f3 b.f4.f0 b.f4.f1 b.f4.f2 b.f5.f0 b.f5.f1 b.f5.f2 b.f6 b.f7 b.f8 b.f9) (if blockOk b = true then pBlock b else []) := by
  unfold spec_PutBlock.f
  refine Ev.bind (spec_BlockOk.is hf) ?_
  cases hb : blockOk b
  · exact Ev.no (by decide) (Ev.now _)
  · obtain ⟨q, t, p3, x, v, p9, n1, n2, n3, n4, n5⟩ := blockOk_len hb
    have hp : b.f3.size ≤ (pText b.f3).length := by unfold pText; rw [List.length_append, bytesOf_length]; omega
    have a0 := pNum_len b.f0
    have a1 := pNum_len b.f1
    have a2 := pNum_len b.f2
    have a6 := pNum_len (b.f6.length : Int)
    have a7 := pNum_len (endN b.f7)
    have a8 := pNum_len (b.f8.length : Int)
    refine Ev.yes rfl (Ev.bind (spec_PutNum.is b.f0 (by simp only [List.length_nil]; omega)) (Ev.bind (spec_PutNum.is b.f1 (by simp only [List.length_append, List.length_nil]; omega)) (Ev.bind (spec_PutNum.is b.f2 (by simp only [List.length_append, List.length_nil]; omega)) (Ev.bind (spec_PutText.is b.f3 (by simp only [List.length_append, List.length_nil]; omega)) (Ev.bind (spec_l9PutQc.is b.f4.f0 b.f4.f1 (by simp only [List.length_append, List.length_nil]; omega) (by omega)) (Ev.bind (spec_l9PutTc.is b.f5.f0 (by simp only [List.length_append, List.length_nil]; omega) (by omega) (by omega)) (Ev.bind (spec_PutNum.is (b.f6.length : Int) (by simp only [List.length_append, List.length_nil]; omega)) ?_)))))))
    refine Ev.to (spec_PutBlock.txs (b := b) (by simp only [List.length_append, List.length_nil]; omega) (by omega) (by omega)) ?_
    rw [if_pos rfl]
    unfold pBlock
    simp only [List.append_assoc, List.nil_append]
theorem spec_PutBlock.does {b : S113} (hf : blockFit b) {cs : List Value} {w : World} (hK : k113.K w b cs) : Calls Try.prog 68 #[.agg cs.toArray] w fun e w' => ∃ v, e = .returned v ∧ Kd.R (Kd.int .u8) 5 w' w.heap.size (fun _ => True) v (if blockOk b = true then pBlock b else []) ∧ Below w.heap.size w w' := by
  obtain ⟨A6, c6, A8, c8, A9, c9, A10, c10, A12, c12, rfl, l6, g6, l8, g8, l9, g9, l10, g10, l12, g12⟩ := k113_open hK
  obtain ⟨k, h⟩ := (spec_PutBlock.is hf).rounds
  exact spec_PutBlock.calls (hr0_6 := g6) (hc0_6 := l6) (hr0_8 := g8) (hc0_8 := l8) (hr0_9 := g9) (hc0_9 := l9) (hr0_10 := g10) (hc0_10 := l10) (hr0_12 := g12) (hc0_12 := l12) (h := h)

/-! ### impl_BlockOk: walked in this session -/
set_option maxHeartbeats 2000000 in
set_option maxRecDepth 100000 in
theorem impl_BlockOk.does {b : S113} (hf : blockFit b) {cs : List Value} {w : World} (hK : k113.K w b cs) : Calls Try.prog 159 #[.agg cs.toArray] w fun e w' => e = .returned (.bool (blockOk b)) ∧ Below w.heap.size w w' := by
  obtain ⟨hby, ⟨hq, hqs⟩, ⟨ht, hts⟩, hh, ⟨hx, hxs⟩, hv, hvs⟩ := hf
  have hK' := hK
  obtain ⟨A6, u6, A8, u8, A9, u9, A10, u10, A12, u12, rfl, l6, g6, l8, g8, l9, g9, l10, g10, l12, g12⟩ := k113_open hK
  have NB := fun e : On (w.alloc (.cells #[.int .i64 b.f0, .int .i64 b.f1, .int .i64 b.f2, .string b.f3, .int .i64 b.f4.f0, .int .i64 b.f4.f1, .slice A6 b.f4.f2.length u6, .int .i64 b.f5.f0, .slice A8 b.f5.f1.length u8, .slice A9 b.f5.f2.length u9, .slice A10 b.f6.length u10, .bool b.f7, .slice A12 b.f8.length u12, .string b.f9] 113)) => cells14 (On.blk e)
  have N0 := fun e => (NB e).1
  have N1 := fun e => (NB e).2.1
  have N2 := fun e => (NB e).2.2.1
  have N3 := fun e => (NB e).2.2.2.1
  have N4 := fun e => (NB e).2.2.2.2.1
  have N5 := fun e => (NB e).2.2.2.2.2.1
  have N6 := fun e => (NB e).2.2.2.2.2.2.1
  have N7 := fun e => (NB e).2.2.2.2.2.2.2.1
  have N8 := fun e => (NB e).2.2.2.2.2.2.2.2.1
  have N9 := fun e => (NB e).2.2.2.2.2.2.2.2.2.1
  have N10 := fun e => (NB e).2.2.2.2.2.2.2.2.2.2.1
  have N11 := fun e => (NB e).2.2.2.2.2.2.2.2.2.2.2.1
  have N12 := fun e => (NB e).2.2.2.2.2.2.2.2.2.2.2.2.1
  have N13 := fun e => (NB e).2.2.2.2.2.2.2.2.2.2.2.2.2
  clear NB
  have E1 := Aside0.mk (fun W => impl_inRange.does b.f0 0 100000 W)
  have E2 := Aside0.mk (fun W => impl_inRange.does b.f1 0 900 W)
  have E3 := Aside0.mk (fun W => impl_inRange.does b.f2 1 10000 W)
  have E4 := Aside0.mk (fun W => impl_NameOk.does hby W)
  have E5 := Aside0.mk (fun e : On (w.alloc (.cells #[.int .i64 b.f0, .int .i64 b.f1, .int .i64 b.f2, .string b.f3, .int .i64 b.f4.f0, .int .i64 b.f4.f1, .slice A6 b.f4.f2.length u6, .int .i64 b.f5.f0, .slice A8 b.f5.f1.length u8, .slice A9 b.f5.f2.length u9, .slice A10 b.f6.length u10, .bool b.f7, .slice A12 b.f8.length u12, .string b.f9] 113)) => impl_qcForm.does (q := b.f4) (wrap64 (b.f2 - 1)) (wrap64 (b.f0 - 1)) hq hqs (On.val (k49_mk w b.f4 l6 g6) e.boxed))
  have E6 := Aside0.mk (fun e : On (w.alloc (.cells #[.int .i64 b.f0, .int .i64 b.f1, .int .i64 b.f2, .string b.f3, .int .i64 b.f4.f0, .int .i64 b.f4.f1, .slice A6 b.f4.f2.length u6, .int .i64 b.f5.f0, .slice A8 b.f5.f1.length u8, .slice A9 b.f5.f2.length u9, .slice A10 b.f6.length u10, .bool b.f7, .slice A12 b.f8.length u12, .string b.f9] 113)) => impl_tcForm.does (t := b.f5) (wrap64 (b.f2 - 1)) ht hts hh (On.val (k60_mk w b.f5 l8 g8 l9 g9) e.boxed))
  have E7 := Aside0.mk (fun e : On (w.alloc (.cells #[.int .i64 b.f0, .int .i64 b.f1, .int .i64 b.f2, .string b.f3, .int .i64 b.f4.f0, .int .i64 b.f4.f1, .slice A6 b.f4.f2.length u6, .int .i64 b.f5.f0, .slice A8 b.f5.f1.length u8, .slice A9 b.f5.f2.length u9, .slice A10 b.f6.length u10, .bool b.f7, .slice A12 b.f8.length u12, .string b.f9] 113)) => impl_txsOk.does hx hxs (On.row g10 e.boxed) l10)
  have E9 := Aside0.mk (fun e : On (w.alloc (.cells #[.int .i64 b.f0, .int .i64 b.f1, .int .i64 b.f2, .string b.f3, .int .i64 b.f4.f0, .int .i64 b.f4.f1, .slice A6 b.f4.f2.length u6, .int .i64 b.f5.f0, .slice A8 b.f5.f1.length u8, .slice A9 b.f5.f2.length u9, .slice A10 b.f6.length u10, .bool b.f7, .slice A12 b.f8.length u12, .string b.f9] 113)) => impl_SetOk.does hv hvs (On.row g12 e.boxed) l12)
  simp only [On.boxed_now] at E5 E6 E7 E9
  have hat : blockOk b = (inR b.f0 0 100000 && (inR b.f1 0 900 && (inR b.f2 1 10000 && (nameOk b.f3 && (qcForm b.f4.f0 b.f4.f1 b.f4.f2 (wrap64 (b.f2 - 1)) (wrap64 (b.f0 - 1)) && (tcForm b.f5.f0 b.f5.f1 b.f5.f2 (wrap64 (b.f2 - 1)) && (!decide ((b.f6.length : Int) > 4) && (allUpto b.f6.length (fun i => txOk (rd_T186 b.f6 (i : Int))) && (if b.f7 = true then (setOk b.f8 && ((b.f9.size : Int) == 32)) else (decide ((b.f8.length : Int) = 0) && (b.f9.toList == ([] : List UInt8)))))))))))) := rfl
  clear hby hq hqs ht hts hh hx hxs hv hvs hK hK' l6 g6 l8 g8 l9 g9 l10 g10 l12 g12
  generalize inR b.f0 0 100000 = b1 at *
  generalize inR b.f1 0 900 = b2 at *
  generalize inR b.f2 1 10000 = b3 at *
  generalize nameOk b.f3 = b4 at *
  generalize qcForm b.f4.f0 b.f4.f1 b.f4.f2 (wrap64 (b.f2 - 1)) (wrap64 (b.f0 - 1)) = b5 at *
  generalize tcForm b.f5.f0 b.f5.f1 b.f5.f2 (wrap64 (b.f2 - 1)) = b6 at *
  generalize allUpto b.f6.length (fun i => txOk (rd_T186 b.f6 (i : Int))) = b7 at *
  generalize b.f7 = vE at *
  generalize b.f8 = s8 at *
  cases b1
  · skip
    go_enter Try.func159, Try.ntmps159
    go_wp2_with fail
    refine BW.callD (e := On.hereOf N0) (E1.out _) (fun e1 => ?_)
    go_wp2
    go_ret
    exact ⟨by first | (rw [hat]; rfl) | rfl, e1.boxed.ok⟩
  · skip
    cases b2
    · skip
      go_enter Try.func159, Try.ntmps159
      go_wp2_with fail
      refine BW.callD (e := On.hereOf N0) (E1.out _) (fun e1 => ?_)
      go_wp2_with fail
      refine BW.callD (E2.out _) (fun e2 => ?_)
      go_wp2
      go_ret
      exact ⟨by first | (rw [hat]; rfl) | rfl, e2.boxed.ok⟩
    · skip
      cases b3
      · skip
        go_enter Try.func159, Try.ntmps159
        go_wp2_with fail
        refine BW.callD (e := On.hereOf N0) (E1.out _) (fun e1 => ?_)
        go_wp2_with fail
        refine BW.callD (E2.out _) (fun e2 => ?_)
        go_wp2_with fail
        refine BW.callD (E3.out _) (fun e3 => ?_)
        go_wp2
        go_ret
        exact ⟨by first | (rw [hat]; rfl) | rfl, e3.boxed.ok⟩
      · skip
        cases b4
        · skip
          go_enter Try.func159, Try.ntmps159
          go_wp2_with fail
          refine BW.callD (e := On.hereOf N0) (E1.out _) (fun e1 => ?_)
          go_wp2_with fail
          refine BW.callD (E2.out _) (fun e2 => ?_)
          go_wp2_with fail
          refine BW.callD (E3.out _) (fun e3 => ?_)
          go_wp2_with fail
          refine BW.callD (E4.out _) (fun e4 => ?_)
          go_wp2
          go_ret
          exact ⟨by first | (rw [hat]; rfl) | rfl, e4.boxed.ok⟩
        · skip
          cases b5
          · skip
            go_enter Try.func159, Try.ntmps159
            go_wp2_with fail
            refine BW.callD (e := On.hereOf N0) (E1.out _) (fun e1 => ?_)
            go_wp2_with fail
            refine BW.callD (E2.out _) (fun e2 => ?_)
            go_wp2_with fail
            refine BW.callD (E3.out _) (fun e3 => ?_)
            go_wp2_with fail
            refine BW.callD (E4.out _) (fun e4 => ?_)
            go_wp2_with fail
            refine BW.call (E5.out _) (fun e5 => ?_)
            go_wp2
            go_ret
            exact ⟨by first | (rw [hat]; rfl) | rfl, e5.boxed.ok⟩
          · skip
            cases b6
            · skip
              go_enter Try.func159, Try.ntmps159
              go_wp2_with fail
              refine BW.callD (e := On.hereOf N0) (E1.out _) (fun e1 => ?_)
              go_wp2_with fail
              refine BW.callD (E2.out _) (fun e2 => ?_)
              go_wp2_with fail
              refine BW.callD (E3.out _) (fun e3 => ?_)
              go_wp2_with fail
              refine BW.callD (E4.out _) (fun e4 => ?_)
              go_wp2_with fail
              refine BW.call (E5.out _) (fun e5 => ?_)
              go_wp2_with fail
              refine BW.call (E6.out _) (fun e6 => ?_)
              go_wp2
              go_ret
              exact ⟨by first | (rw [hat]; rfl) | rfl, e6.boxed.ok⟩
            · skip
              by_cases c7 : (b.f6.length : Int) > 4
              · skip
                have c7' : decide ((b.f6.length : Int) > 4) = true := decide_eq_true c7
                rw [c7'] at hat
                go_enter Try.func159, Try.ntmps159
                go_wp2_with fail
                refine BW.callD (e := On.hereOf N0) (E1.out _) (fun e1 => ?_)
                go_wp2_with fail
                refine BW.callD (E2.out _) (fun e2 => ?_)
                go_wp2_with fail
                refine BW.callD (E3.out _) (fun e3 => ?_)
                go_wp2_with fail
                refine BW.callD (E4.out _) (fun e4 => ?_)
                go_wp2_with fail
                refine BW.call (E5.out _) (fun e5 => ?_)
                go_wp2_with fail
                refine BW.call (E6.out _) (fun e6 => ?_)
                go_wp2
                go_ret
                exact ⟨by first | (rw [hat]; rfl) | rfl, e6.boxed.ok⟩
              · skip
                have c7' : decide ((b.f6.length : Int) > 4) = false := decide_eq_false c7
                rw [c7'] at hat
                cases b7
                · skip
                  go_enter Try.func159, Try.ntmps159
                  go_wp2_with fail
                  refine BW.callD (e := On.hereOf N0) (E1.out _) (fun e1 => ?_)
                  go_wp2_with fail
                  refine BW.callD (E2.out _) (fun e2 => ?_)
                  go_wp2_with fail
                  refine BW.callD (E3.out _) (fun e3 => ?_)
                  go_wp2_with fail
                  refine BW.callD (E4.out _) (fun e4 => ?_)
                  go_wp2_with fail
                  refine BW.call (E5.out _) (fun e5 => ?_)
                  go_wp2_with fail
                  refine BW.call (E6.out _) (fun e6 => ?_)
                  go_wp2_with fail
                  refine BW.call (E7.out _) (fun e7 => ?_)
                  go_wp2
                  go_ret
                  exact ⟨by first | (rw [hat]; rfl) | rfl, e7.boxed.ok⟩
                · skip
                  cases vE
                  case true =>
                    rw [if_pos rfl] at hat
                    generalize setOk s8 = b9 at *
                    cases b9
                    · skip
                      go_enter Try.func159, Try.ntmps159
                      go_wp2_with fail
                      refine BW.callD (e := On.hereOf N0) (E1.out _) (fun e1 => ?_)
                      go_wp2_with fail
                      refine BW.callD (E2.out _) (fun e2 => ?_)
                      go_wp2_with fail
                      refine BW.callD (E3.out _) (fun e3 => ?_)
                      go_wp2_with fail
                      refine BW.callD (E4.out _) (fun e4 => ?_)
                      go_wp2_with fail
                      refine BW.call (E5.out _) (fun e5 => ?_)
                      go_wp2_with fail
                      refine BW.call (E6.out _) (fun e6 => ?_)
                      go_wp2_with fail
                      refine BW.call (E7.out _) (fun e7 => ?_)
                      go_wp2_with fail
                      refine BW.call (E9.out _) (fun e9 => ?_)
                      go_wp2
                      go_ret
                      exact ⟨by first | (rw [hat]; rfl) | rfl, e9.boxed.ok⟩
                    · by_cases c9 : (b.f9.size : Int) = 32
                      · skip
                        have c9' : decide ((b.f9.size : Int) = 32) = true := decide_eq_true c9
                        have c9'' : ((b.f9.size : Int) == 32) = true := c9'
                        rw [c9''] at hat
                        clear c9
                        go_enter Try.func159, Try.ntmps159
                        go_wp2_with fail
                        refine BW.callD (e := On.hereOf N0) (E1.out _) (fun e1 => ?_)
                        go_wp2_with fail
                        refine BW.callD (E2.out _) (fun e2 => ?_)
                        go_wp2_with fail
                        refine BW.callD (E3.out _) (fun e3 => ?_)
                        go_wp2_with fail
                        refine BW.callD (E4.out _) (fun e4 => ?_)
                        go_wp2_with fail
                        refine BW.call (E5.out _) (fun e5 => ?_)
                        go_wp2_with fail
                        refine BW.call (E6.out _) (fun e6 => ?_)
                        go_wp2_with fail
                        refine BW.call (E7.out _) (fun e7 => ?_)
                        go_wp2_with fail
                        refine BW.call (E9.out _) (fun e9 => ?_)
                        go_wp2
                        go_ret
                        exact ⟨by first | (rw [hat]; rfl) | rfl, e9.boxed.ok⟩
                      · skip
                        have c9' : decide ((b.f9.size : Int) = 32) = false := decide_eq_false c9
                        have c9'' : ((b.f9.size : Int) == 32) = false := c9'
                        rw [c9''] at hat
                        clear c9
                        go_enter Try.func159, Try.ntmps159
                        go_wp2_with fail
                        refine BW.callD (e := On.hereOf N0) (E1.out _) (fun e1 => ?_)
                        go_wp2_with fail
                        refine BW.callD (E2.out _) (fun e2 => ?_)
                        go_wp2_with fail
                        refine BW.callD (E3.out _) (fun e3 => ?_)
                        go_wp2_with fail
                        refine BW.callD (E4.out _) (fun e4 => ?_)
                        go_wp2_with fail
                        refine BW.call (E5.out _) (fun e5 => ?_)
                        go_wp2_with fail
                        refine BW.call (E6.out _) (fun e6 => ?_)
                        go_wp2_with fail
                        refine BW.call (E7.out _) (fun e7 => ?_)
                        go_wp2_with fail
                        refine BW.call (E9.out _) (fun e9 => ?_)
                        go_wp2
                        go_ret
                        exact ⟨by first | (rw [hat]; rfl) | rfl, e9.boxed.ok⟩
                  case false =>
                    rw [if_neg (by decide)] at hat
                    by_cases c9 : (s8.length : Int) = 0
                    · skip
                      have c9' : decide ((s8.length : Int) = 0) = true := decide_eq_true c9
                      rw [c9'] at hat
                      obtain rfl : s8 = [] := List.length_eq_zero_iff.1 (by omega)
                      by_cases c8 : b.f9.toList = []
                      · skip
                        have c8' : (b.f9.toList == ([] : List UInt8)) = true := by rw [c8]; rfl
                        rw [c8'] at hat
                        clear c9
                        go_enter Try.func159, Try.ntmps159
                        go_wp2_with fail
                        refine BW.callD (e := On.hereOf N0) (E1.out _) (fun e1 => ?_)
                        go_wp2_with fail
                        refine BW.callD (E2.out _) (fun e2 => ?_)
                        go_wp2_with fail
                        refine BW.callD (E3.out _) (fun e3 => ?_)
                        go_wp2_with fail
                        refine BW.callD (E4.out _) (fun e4 => ?_)
                        go_wp2_with fail
                        refine BW.call (E5.out _) (fun e5 => ?_)
                        go_wp2_with fail
                        refine BW.call (E6.out _) (fun e6 => ?_)
                        go_wp2_with fail
                        refine BW.call (E7.out _) (fun e7 => ?_)
                        go_wp2
                        go_ret
                        exact ⟨by first | (rw [hat]; rfl) | rfl, e7.boxed.ok⟩
                      · skip
                        have c8' : (b.f9.toList == ([] : List UInt8)) = false := by simp [c8]
                        rw [c8'] at hat
                        clear c9
                        go_enter Try.func159, Try.ntmps159
                        go_wp2_with fail
                        refine BW.callD (e := On.hereOf N0) (E1.out _) (fun e1 => ?_)
                        go_wp2_with fail
                        refine BW.callD (E2.out _) (fun e2 => ?_)
                        go_wp2_with fail
                        refine BW.callD (E3.out _) (fun e3 => ?_)
                        go_wp2_with fail
                        refine BW.callD (E4.out _) (fun e4 => ?_)
                        go_wp2_with fail
                        refine BW.call (E5.out _) (fun e5 => ?_)
                        go_wp2_with fail
                        refine BW.call (E6.out _) (fun e6 => ?_)
                        go_wp2_with fail
                        refine BW.call (E7.out _) (fun e7 => ?_)
                        go_wp2
                        go_ret
                        exact ⟨by first | (rw [hat]; rfl) | rfl, e7.boxed.ok⟩
                    · skip
                      have c9' : decide ((s8.length : Int) = 0) = false := decide_eq_false c9
                      rw [c9'] at hat
                      have c9e : ¬ s8 = [] := fun h => c9 (by rw [h]; rfl)
                      clear c9
                      go_enter Try.func159, Try.ntmps159
                      go_wp2_with fail
                      refine BW.callD (e := On.hereOf N0) (E1.out _) (fun e1 => ?_)
                      go_wp2_with fail
                      refine BW.callD (E2.out _) (fun e2 => ?_)
                      go_wp2_with fail
                      refine BW.callD (E3.out _) (fun e3 => ?_)
                      go_wp2_with fail
                      refine BW.callD (E4.out _) (fun e4 => ?_)
                      go_wp2_with fail
                      refine BW.call (E5.out _) (fun e5 => ?_)
                      go_wp2_with fail
                      refine BW.call (E6.out _) (fun e6 => ?_)
                      go_wp2_with fail
                      refine BW.call (E7.out _) (fun e7 => ?_)
                      go_wp2
                      go_ret
                      exact ⟨by first | (rw [hat]; rfl) | rfl, e7.boxed.ok⟩

/-- What it comes to, told as the printer tells it (the function is walked by hand above). -/
def impl_BlockOk.f (_k : Nat) (a0_0 : Int) (a0_1 : Int) (a0_2 : Int) (a0_3 : ByteArray) (a0_4 : Int) (a0_5 : Int) (l0_6 : List ByteArray) (a0_7 : Int) (l0_8 : List ByteArray) (l0_9 : List Int) (l0_10 : List (S186)) (a0_11 : Bool) (l0_12 : List (S138)) (a0_13 : ByteArray) : Option Bool := if blockFit (⟨a0_0, a0_1, a0_2, a0_3, ⟨a0_4, a0_5, l0_6⟩, ⟨a0_7, l0_8, l0_9⟩, l0_10, a0_11, l0_12, a0_13⟩ : S113) then some (blockOk (⟨a0_0, a0_1, a0_2, a0_3, ⟨a0_4, a0_5, l0_6⟩, ⟨a0_7, l0_8, l0_9⟩, l0_10, a0_11, l0_12, a0_13⟩ : S113)) else none
theorem impl_BlockOk.mono : ∀ a0 a1 a2 a3 a4 a5 a6 a7 a8 a9 a10 a11 a12 a13 k, LeO (impl_BlockOk.f k a0 a1 a2 a3 a4 a5 a6 a7 a8 a9 a10 a11 a12 a13) (impl_BlockOk.f (k + 1) a0 a1 a2 a3 a4 a5 a6 a7 a8 a9 a10 a11 a12 a13) := fun _ _ _ _ _ _ _ _ _ _ _ _ _ _ _ => LeO.refl _
theorem impl_BlockOk.calls (k : Nat) (a0_0 : Int) (a0_1 : Int) (a0_2 : Int) (a0_3 : ByteArray) (a0_4 : Int) (a0_5 : Int) (A0_6 : Option Addr) (c0_6 : Nat) (l0_6 : List ByteArray) (a0_7 : Int) (A0_8 : Option Addr) (c0_8 : Nat) (l0_8 : List ByteArray) (A0_9 : Option Addr) (c0_9 : Nat) (l0_9 : List Int) (A0_10 : Option Addr) (c0_10 : Nat) (l0_10 : List (S186)) (a0_11 : Bool) (A0_12 : Option Addr) (c0_12 : Nat) (l0_12 : List (S138)) (a0_13 : ByteArray) (r : Bool) (w : World) (hr0_6 : Kd.C Kd.string w A0_6 l0_6.length l0_6) (hc0_6 : l0_6.length ≤ c0_6) (hr0_8 : Kd.C Kd.string w A0_8 l0_8.length l0_8) (hc0_8 : l0_8.length ≤ c0_8) (hr0_9 : Kd.C (Kd.int .i64) w A0_9 l0_9.length l0_9) (hc0_9 : l0_9.length ≤ c0_9) (hr0_10 : Kd.C k186 w A0_10 l0_10.length l0_10) (hc0_10 : l0_10.length ≤ c0_10) (hr0_12 : Kd.C k138 w A0_12 l0_12.length l0_12) (hc0_12 : l0_12.length ≤ c0_12) (h : impl_BlockOk.f k a0_0 a0_1 a0_2 a0_3 a0_4 a0_5 l0_6 a0_7 l0_8 l0_9 l0_10 a0_11 l0_12 a0_13 = some r) :
    Calls Try.prog 159 #[.agg #[.int .i64 a0_0, .int .i64 a0_1, .int .i64 a0_2, .string a0_3, .int .i64 a0_4, .int .i64 a0_5, .slice A0_6 l0_6.length c0_6, .int .i64 a0_7, .slice A0_8 l0_8.length c0_8, .slice A0_9 l0_9.length c0_9, .slice A0_10 l0_10.length c0_10, .bool a0_11, .slice A0_12 l0_12.length c0_12, .string a0_13]] w fun e w' => e = .returned (.bool r) ∧ Below w.heap.size w w' := by
  unfold impl_BlockOk.f at h
  split at h
  · next hf =>
    cases h
    exact impl_BlockOk.does hf (k113_mk w (⟨a0_0, a0_1, a0_2, a0_3, ⟨a0_4, a0_5, l0_6⟩, ⟨a0_7, l0_8, l0_9⟩, l0_10, a0_11, l0_12, a0_13⟩ : S113) hc0_6 hr0_6 hc0_8 hr0_8 hc0_9 hr0_9 hc0_10 hr0_10 hc0_12 hr0_12)
  · cases h
theorem impl_BlockOk.is {b : S113} (hf : blockFit b) : Ev (fun k => impl_BlockOk.f k b.f0 b.f1 b.f2 b.f3 b.f4.f0 b.f4.f1 b.f4.f2 b.f5.f0 b.f5.f1 b.f5.f2 b.f6 b.f7 b.f8 b.f9) (blockOk b) := by
  unfold impl_BlockOk.f
  rw [if_pos (show blockFit b from hf)]
  exact Ev.now _

/-! ### impl_putNum: function 202 -/
mutual
def impl_putNum.j0 : Nat → List Int → Int → Option (List Int)
  | 0, _, _ => none
  | k + 1, x0, x5 => impl_putNum.l0 k x0 x5
def impl_putNum.l0 : Nat → List Int → Int → Option (List Int)
  | 0, _, _ => none
  | k + 1, x0, x5 => if x5 > 127 then (if x0.length < 140737488355328 then (impl_putNum.l0 k (x0 ++ [(Go.bits .or .i64 128 (Go.bits .and .i64 x5 127)) % 256]) (x5 / 128)) else (none)) else (if x0.length < 140737488355328 then (some (x0 ++ [(x5) % 256])) else (none))
end
def impl_putNum.f (k : Nat) (l0 : List Int) (a1 : Int) : Option (List Int) := if (mx (-1000000000) (mn a1 1000000000)) < 0 then (impl_putNum.j0 k l0 (((-2) * (mx (-1000000000) (mn a1 1000000000))) - 1)) else (impl_putNum.j0 k l0 (2 * (mx (-1000000000) (mn a1 1000000000))))
theorem impl_putNum.mono_l : ∀ k, (∀ y0 y1, LeO (impl_putNum.j0 k y0 y1) (impl_putNum.j0 (k + 1) y0 y1)) ∧ (∀ y0 y1, LeO (impl_putNum.l0 k y0 y1) (impl_putNum.l0 (k + 1) y0 y1))
  | 0 => ⟨fun _ _ r h => by simp [impl_putNum.j0] at h, fun _ _ r h => by simp [impl_putNum.l0] at h⟩
  | k + 1 => by
    obtain ⟨ih0, ih1⟩ := impl_putNum.mono_l k
    refine ⟨?_, ?_⟩
    · intro y0 y1
      unfold impl_putNum.j0
      repeat' first
      | (with_reducible exact ih0 _ _)
      | (with_reducible exact ih1 _ _)
      | (with_reducible exact LeO.refl _)
      | (with_reducible exact LeO.none _)
      | (with_reducible refine LeO.ite ?_ ?_)
      | (with_reducible refine LeO.bind ?_ (fun _ => ?_))
      | exact ih0 _ _
      | exact ih1 _ _
      | exact LeO.none _
      | refine LeO.ite ?_ ?_
      | refine LeO.bind ?_ (fun _ => ?_)
    · intro y0 y1
      unfold impl_putNum.l0
      repeat' first
      | (with_reducible exact ih0 _ _)
      | (with_reducible exact ih1 _ _)
      | (with_reducible exact LeO.refl _)
      | (with_reducible exact LeO.none _)
      | (with_reducible refine LeO.ite ?_ ?_)
      | (with_reducible refine LeO.bind ?_ (fun _ => ?_))
      | exact ih0 _ _
      | exact ih1 _ _
      | exact LeO.none _
      | refine LeO.ite ?_ ?_
      | refine LeO.bind ?_ (fun _ => ?_)
theorem impl_putNum.mono : ∀ a0 a1 k, LeO (impl_putNum.f k a0 a1) (impl_putNum.f (k + 1) a0 a1) := by
  intro a0 a1 k
  obtain ⟨ih0, ih1⟩ := impl_putNum.mono_l k
  unfold impl_putNum.f
  repeat' first
      | (with_reducible exact ih0 _ _)
      | (with_reducible exact ih1 _ _)
      | (with_reducible exact LeO.refl _)
      | (with_reducible exact LeO.none _)
      | (with_reducible refine LeO.ite ?_ ?_)
      | (with_reducible refine LeO.bind ?_ (fun _ => ?_))
      | exact ih0 _ _
      | exact ih1 _ _
      | exact LeO.none _
      | refine LeO.ite ?_ ?_
      | refine LeO.bind ?_ (fun _ => ?_)
set_option maxHeartbeats 8000000 in
set_option maxRecDepth 100000 in
theorem impl_putNum.calls (k : Nat) (P0_ : Nat → Prop) (u9000_ : Value) (l0 : List Int) (a1 : Int) (r : List Int) (w0 w : World) (hB : Below w0.heap.size w0 w) (ho0 : Kd.R (Kd.int .u8) 5 w w0.heap.size P0_ u9000_ l0) (h : impl_putNum.f k l0 a1 = some r) :
    Calls Try.prog 202 #[u9000_, .int .i64 a1] w fun e w' => ∃ v0_ : Value, e = .returned (v0_) ∧ Kd.R (Kd.int .u8) 5 w' w0.heap.size (fun k_ => (P0_ k_ ∨ w.heap.size ≤ k_)) v0_ r ∧ Below w0.heap.size w0 w' ∧ Kept w w' (fun k_ => P0_ k_) := by
  have HO0 := Aside0.mk (show Kd.R (Kd.int .u8) 5 w w0.heap.size (fun k_ => (P0_ k_ ∨ w.heap.size ≤ k_)) u9000_ l0 from Kd.R_mono ho0 (fun k_ hk => (.inl hk)))
  have HK := Aside0.mk (Kept.refl w (fun k_ => P0_ k_))
  have HW0 := Aside0.mk hB.size
  have HB := Aside0.mk hB
  clear hB
  have H : (if (mx (-1000000000) (mn a1 1000000000)) < 0 then (impl_putNum.j0 k l0 (((-2) * (mx (-1000000000) (mn a1 1000000000))) - 1)) else (impl_putNum.j0 k l0 (2 * (mx (-1000000000) (mn a1 1000000000))))) = some r := h
  clear h
  obtain ⟨ji3, hji3⟩ : ∃ j_ : Int, (mn a1 1000000000) = j_ := ⟨_, rfl⟩
  replace H : (if (mx (-1000000000) (ji3)) < 0 then (impl_putNum.j0 k l0 (((-2) * (mx (-1000000000) (ji3))) - 1)) else (impl_putNum.j0 k l0 (2 * (mx (-1000000000) (ji3))))) = some r := by first | (rw [hji3] at H; exact H) | (simp only [hji3] at H ⊢; exact H)
  (try (have hji3h : ji3 ≤ 1000000000 := by (rw [← hji3]; unfold mn; (repeat' split) <;> omega)))
  (try (have hji3g : ji3 ≤ 64 := by omega))
  have hji3_ : (if 1000000000 < a1 then 1000000000 else a1) = ji3 := hji3
  obtain ⟨ji4, hji4⟩ : ∃ j_ : Int, (mx (-1000000000) (ji3)) = j_ := ⟨_, rfl⟩
  replace H : (if (ji4) < 0 then (impl_putNum.j0 k l0 (((-2) * (ji4)) - 1)) else (impl_putNum.j0 k l0 (2 * (ji4)))) = some r := by first | (rw [hji4] at H; exact H) | (simp only [hji4] at H ⊢; exact H)
  have hji4_ : (if (-1000000000) < (ji3) then (ji3) else (-1000000000)) = ji4 := hji4
  have HC5 := Aside0.mk H
  clear H
  go_enter Try.func202, Try.ntmps202
  go_upto_if 12 with (fail)
  go_cut [5] (fun v5 wc => ∃ (kq : Nat) (x5_4 : Int), v5 = .int .i64 x5_4 ∧ Aside0 (impl_putNum.j0 kq l0 x5_4 = some r) ∧ Aside0 (kq ≤ k) ∧ Aside0 (Kd.R (Kd.int .u8) 5 wc w0.heap.size (fun k_ => (P0_ k_ ∨ w.heap.size ≤ k_)) u9000_ l0) ∧ Aside0 (Kept w wc (fun k_ => P0_ k_)) ∧ Aside0 (Below w0.heap.size w0 wc))
  case first =>
    have H := HC5.out
    clear HC5
    by_cases c6 : (ji4) < 0
    · rw [if_pos c6] at H
      have c6b0 : decide ((ji4) < 0) = true := decide_eq_true c6
      clear c6
      (first | rw [c6b0] | (simp only [i64_w, i32_w]; rw [c6b0]) | skip)
      have H' := Aside0.mk H
      clear H
      go_wp2
      go_meet
      case rel => exact ⟨_, (((-2) * (ji4)) - 1), (by first | rfl | (simp; done) | (simp only [← hji4] <;> (first | rfl | simp)) | (simp [*]; done)), H', ⟨by first | omega | exact Nat.le_refl _⟩, ⟨by (with_reducible repeat (first | apply Kd.R_alloc | apply Kd.R_drewN | apply Kd.R_drew)); exact HO0.out⟩, ⟨by repeat (first | (with_reducible first | exact HK.out | apply Kept.alloc | apply Kept.drewN | apply Kept.drew) | exact HK.out)⟩, ⟨by repeat (first | (with_reducible first | exact HB.out | apply below_alloc | apply pw_below_drewN | apply below_drew1) | exact HB.out)⟩⟩
    · rw [if_neg c6] at H
      have c6b0 : decide ((ji4) < 0) = false := decide_eq_false c6
      clear c6
      (first | rw [c6b0] | (simp only [i64_w, i32_w]; rw [c6b0]) | skip)
      have H' := Aside0.mk H
      clear H
      go_wp2
      go_meet
      case rel => exact ⟨_, (2 * (ji4)), (by first | rfl | (simp; done) | (simp only [← hji4] <;> (first | rfl | simp)) | (simp [*]; done)), H', ⟨by first | omega | exact Nat.le_refl _⟩, ⟨by (with_reducible repeat (first | apply Kd.R_alloc | apply Kd.R_drewN | apply Kd.R_drew)); exact HO0.out⟩, ⟨by repeat (first | (with_reducible first | exact HK.out | apply Kept.alloc | apply Kept.drewN | apply Kept.drew) | exact HK.out)⟩, ⟨by repeat (first | (with_reducible first | exact HB.out | apply below_alloc | apply pw_below_drewN | apply below_drew1) | exact HB.out)⟩⟩
  case rest =>
    clear HC5
    try clear c2
    try clear p2
    try clear c6
    try clear c6b0
    obtain ⟨kq, x5_4, rfl, HA, HJ4, HO_0, HK, HB⟩ := hcut
    cases kq with
    | zero => exact absurd HA.out (by simp [impl_putNum.j0])
    | succ kj4 =>
      have H := HA.out
      clear HA
      simp only [impl_putNum.j0] at H
      have H' := Aside0.mk H
      clear H
      go_wp2
      go_loopg [0, 5] kj4 (fun kq v0 v5 w' => ∃ (x0_2 : List Int) (x5_2 : Int), v5 = .int .i64 x5_2 ∧ Aside0 (impl_putNum.l0 kq x0_2 x5_2 = some r) ∧ Aside0 (kq ≤ kj4) ∧ Aside0 (Kd.R (Kd.int .u8) 5 w' w0.heap.size (fun k_ => (P0_ k_ ∨ w.heap.size ≤ k_)) v0 x0_2) ∧ Aside0 (Kept w w' (fun k_ => P0_ k_)) ∧ Aside0 (Below w0.heap.size w0 w'))
      case atStart => exact ⟨(l0), (x5_4), (by first | rfl | (simp; done) | (simp [*]; done)), H', ⟨Nat.le_refl _⟩, ⟨by (with_reducible repeat (first | apply Kd.R_alloc | apply Kd.R_drewN | apply Kd.R_drew)); exact HO_0.out⟩, ⟨by repeat (first | (with_reducible first | exact HK.out | apply Kept.alloc | apply Kept.drewN | apply Kept.drew) | exact HK.out)⟩, ⟨by repeat (first | (with_reducible first | exact HB.out | apply below_alloc | apply pw_below_drewN | apply below_drew1) | exact HB.out)⟩⟩
      case round =>
        clear H'
        try clear c2
        try clear p2
        try clear c6
        try clear c6b0
        try clear p2
        obtain ⟨x0_2, x5_2, rfl, HA, HK2, HO_0, HK, HB⟩ := hrel
        cases gk with
        | zero => exact absurd HA.out (by simp [impl_putNum.l0])
        | succ k2 =>
          have H := HA.out
          clear HA
          simp only [impl_putNum.l0] at H
          by_cases c7 : x5_2 > 127
          · rw [if_pos c7] at H
            have c7b0 : decide (127 < x5_2) = true := decide_eq_true c7
            clear c7
            by_cases c8 : x0_2.length < 140737488355328
            · rw [if_pos c8] at H
              have LMc8 := Aside0.mk c8
              clear c8
              obtain ⟨y1629, hy1629⟩ : ∃ y_ : List Int, y_ = (x0_2 ++ [(Go.bits .or .i64 128 (Go.bits .and .i64 x5_2 127)) % 256]) := ⟨_, rfl⟩
              replace H : (impl_putNum.l0 k2 y1629 (x5_2 / 128)) = some r := by first | (rw [hy1629]; with_reducible exact H) | (have H2_ := (Option.bind_some _ _).symm.trans H; rw [hy1629]; with_reducible exact H2_) | (have H2_ := (Option.bind_some _ _).symm.trans H; with_reducible exact H2_) | with_reducible exact H | (rw [hy1629]; exact H) | exact H
              have Ny1629 := Aside0.mk hy1629
              clear hy1629
              have H' := Aside0.mk H
              clear H
              go_wp2_with (first | ((with_reducible refine gate_builtin (b := .append) (xs := #[.tmp 18, .tmp 23]) rfl ?_); at_builtin; refine Kd.R_append (Kd.int .u8) (w0 := w0) w0.heap.size rfl (.tmp 18) (.tmp 23) 22 5 (.int .u8 0) 1 rfl Try.underlying22 info5 rfl (by decide) (by omega) u0 x0_2 ((Go.bits .or .i64 128 (Go.bits .and .i64 x5_2 127)) % 256) [.int .u8 ((Go.bits .or .i64 128 (Go.bits .and .i64 x5_2 127)) % 256)] (fun k_ => (P0_ k_ ∨ w.heap.size ≤ k_)) (fun _ => False) rfl rfl ?aP (fun _ hk => hk.elim) ?aF ?aO ?aB ?aS ?aL ?_; (case aP => exact rfl); (case aB => exact (by repeat (first | (with_reducible first | exact HB.out | apply below_alloc | apply pw_below_drewN | apply below_drew1) | exact HB.out))); (case aF => exact (fun k_ hk => (.inr (Nat.le_trans (by first | exact HK.out.1 | exact (show Kept w _ (fun k_ => P0_ k_) from by repeat (first | (with_reducible first | exact HK.out | apply Kept.alloc | apply Kept.drewN | apply Kept.drew) | exact HK.out)).1) hk)))); (case aO => exact (by (with_reducible repeat (first | apply Kd.R_alloc | apply Kd.R_drewN | apply Kd.R_drew)); exact HO_0.out)); (case aS => exact (below_size (by repeat (first | (with_reducible first | exact HB.out | apply below_alloc | apply pw_below_drewN | apply below_drew1) | exact HB.out)))); (case aL => have := LMc8.out; omega); intro v1630 w9 ho hb hg hat; rw [← Ny1629.out] at ho; have n0_ := Aside0.mk (hb); have n1_ := Aside0.mk (Kept.of_grown (S := (fun k_ => P0_ k_)) hg (by repeat (first | (with_reducible first | exact HK.out | apply Kept.alloc | apply Kept.drewN | apply Kept.drew) | exact HK.out)) (fun k_ e_ => (HO_0.out.1 k_ e_))); have n2_ := Aside0.mk (ho); clear HB; clear HK; clear HO_0; have HB := n0_; have HK := n1_; have HO1631 := n2_; clear n0_ n1_ n2_; clear ho hb hg hat))
              go_roundg k2
              case measure => have := HJ4.out; have := HK2.out; omega
              case rel => exact ⟨(y1629), (x5_2 / 128), (by first | rfl | (simp; done) | (simp [*]; done)), H', ⟨by have := HJ4.out; have := HK2.out; omega⟩, ⟨by (with_reducible repeat (first | apply Kd.R_alloc | apply Kd.R_drewN | apply Kd.R_drew)); exact HO1631.out⟩, ⟨by repeat (first | (with_reducible first | exact HK.out | apply Kept.alloc | apply Kept.drewN | apply Kept.drew) | exact HK.out)⟩, ⟨by repeat (first | (with_reducible first | exact HB.out | apply below_alloc | apply pw_below_drewN | apply below_drew1) | exact HB.out)⟩⟩
            · rw [if_neg c8] at H
              exact absurd H (by simp)
          · rw [if_neg c7] at H
            have c7b0 : decide (127 < x5_2) = false := decide_eq_false c7
            clear c7
            by_cases c10 : x0_2.length < 140737488355328
            · rw [if_pos c10] at H
              have LMc10 := Aside0.mk c10
              clear c10
              obtain ⟨y1632, hy1632⟩ : ∃ y_ : List Int, y_ = (x0_2 ++ [(x5_2) % 256]) := ⟨_, rfl⟩
              replace H : (some y1632) = some r := by first | (rw [hy1632]; with_reducible exact H) | (have H2_ := (Option.bind_some _ _).symm.trans H; rw [hy1632]; with_reducible exact H2_) | (have H2_ := (Option.bind_some _ _).symm.trans H; with_reducible exact H2_) | with_reducible exact H | (rw [hy1632]; exact H) | exact H
              have Ny1632 := Aside0.mk hy1632
              clear hy1632
              obtain rfl := Option.some.inj H
              go_wp2_with (first | ((with_reducible refine gate_builtin (b := .append) (xs := #[.tmp 27, .tmp 30]) rfl ?_); at_builtin; refine Kd.R_append (Kd.int .u8) (w0 := w0) w0.heap.size rfl (.tmp 27) (.tmp 30) 22 5 (.int .u8 0) 1 rfl Try.underlying22 info5 rfl (by decide) (by omega) u0 x0_2 ((x5_2) % 256) [.int .u8 ((x5_2) % 256)] (fun k_ => (P0_ k_ ∨ w.heap.size ≤ k_)) (fun _ => False) rfl rfl ?aP (fun _ hk => hk.elim) ?aF ?aO ?aB ?aS ?aL ?_; (case aP => exact rfl); (case aB => exact (by repeat (first | (with_reducible first | exact HB.out | apply below_alloc | apply pw_below_drewN | apply below_drew1) | exact HB.out))); (case aF => exact (fun k_ hk => (.inr (Nat.le_trans (by first | exact HK.out.1 | exact (show Kept w _ (fun k_ => P0_ k_) from by repeat (first | (with_reducible first | exact HK.out | apply Kept.alloc | apply Kept.drewN | apply Kept.drew) | exact HK.out)).1) hk)))); (case aO => exact (by (with_reducible repeat (first | apply Kd.R_alloc | apply Kd.R_drewN | apply Kd.R_drew)); exact HO_0.out)); (case aS => exact (below_size (by repeat (first | (with_reducible first | exact HB.out | apply below_alloc | apply pw_below_drewN | apply below_drew1) | exact HB.out)))); (case aL => have := LMc10.out; omega); intro v1633 w11 ho hb hg hat; rw [← Ny1632.out] at ho; have n0_ := Aside0.mk (hb); have n1_ := Aside0.mk (Kept.of_grown (S := (fun k_ => P0_ k_)) hg (by repeat (first | (with_reducible first | exact HK.out | apply Kept.alloc | apply Kept.drewN | apply Kept.drew) | exact HK.out)) (fun k_ e_ => (HO_0.out.1 k_ e_))); have n2_ := Aside0.mk (ho); clear HB; clear HK; clear HO_0; have HB := n0_; have HK := n1_; have HO1634 := n2_; clear n0_ n1_ n2_; clear ho hb hg hat))
              go_ret
              exact ⟨_, by first | rfl | (simp [errW_none, errW_some] <;> rfl) | (simp only [← hji3, ← hji4]; first | rfl | (simp [errW_none, errW_some] <;> rfl)) | (simp [*, errW_none, errW_some] <;> rfl), by (with_reducible repeat (first | apply Kd.R_alloc | apply Kd.R_drewN | apply Kd.R_drew)); exact HO1634.out, by repeat (first | (with_reducible first | exact HB.out | apply below_alloc | apply pw_below_drewN | apply below_drew1) | exact HB.out), by repeat (first | (with_reducible first | exact HK.out | apply Kept.alloc | apply Kept.drewN | apply Kept.drew) | exact HK.out)⟩
            · rw [if_neg c10] at H
              exact absurd H (by simp)

theorem impl_putNum.l0_is : ∀ (d : Nat) (m : Int) (out : List Int), 0 ≤ m → m < bdN d → out.length + d ≤ 100000000 → Ev (fun k => impl_putNum.l0 k out m) (out ++ grpN d m)
  | 0, m, out, h0, h1, hl => by
    refine Ev.up ?_
    simp only [impl_putNum.l0]
    exact Ev.no (by unfold bdN at h1; omega) (Ev.yes (by omega) (Ev.now _))
  | d + 1, m, out, h0, h1, hl => by
    refine Ev.up ?_
    simp only [impl_putNum.l0]
    unfold grpN
    by_cases hm : m > 127
    · rw [if_pos hm]
      refine Ev.yes hm (Ev.yes (by omega) ?_)
      have e := impl_putNum.l0_is d (m / 128) (out ++ [byteN m]) (by omega) (by unfold bdN at h1; omega) (by rw [List.length_append, List.length_singleton]; omega)
      rw [List.append_assoc] at e
      rw [bits_or_comm 128]
      exact e
    · rw [if_neg hm]
      exact Ev.no hm (Ev.yes (by omega) (Ev.now _))
theorem impl_putNum.is {out : List Int} (n : Int) (hl : out.length ≤ 90000000) : Ev (fun k => impl_putNum.f k out n) (out ++ pNum n) := by
  have hb : bdN 4 = 34359738368 := rfl
  have hr := clampN_range n
  have hc : mx (-1000000000) (mn n 1000000000) = clampN n := by
    unfold mx mn clampN
    split <;> split <;> (try split) <;> omega
  unfold impl_putNum.f pNum zigC
  rw [hc]
  by_cases h : clampN n < 0
  · rw [if_pos h]
    refine Ev.yes h (Ev.up ?_)
    simp only [impl_putNum.j0]
    exact impl_putNum.l0_is 4 _ out (by omega) (by omega) (by omega)
  · rw [if_neg h]
    refine Ev.no h (Ev.up ?_)
    simp only [impl_putNum.j0]
    exact impl_putNum.l0_is 4 _ out (by omega) (by omega) (by omega)

/-! ### impl_putText: function 203 -/
def impl_putText.f (k : Nat) (l0 : List Int) (a1 : ByteArray) : Option (List Int) := (impl_putNum.f k l0 (a1.size : Int)).bind fun t1635 => (if t1635.length + a1.size < 140737488355328 then (some (t1635 ++ bytesOf a1)) else (none))
theorem impl_putText.mono : ∀ a0 a1 k, LeO (impl_putText.f k a0 a1) (impl_putText.f (k + 1) a0 a1) := by
  intro a0 a1 k
  unfold impl_putText.f
  repeat' first
      | (with_reducible exact impl_putNum.mono _ _ _)
      | (with_reducible exact LeO.refl _)
      | (with_reducible exact LeO.none _)
      | (with_reducible refine LeO.ite ?_ ?_)
      | (with_reducible refine LeO.bind ?_ (fun _ => ?_))
      | exact impl_putNum.mono _ _ _
      | exact LeO.none _
      | refine LeO.ite ?_ ?_
      | refine LeO.bind ?_ (fun _ => ?_)
set_option maxHeartbeats 8000000 in
set_option maxRecDepth 100000 in
theorem impl_putText.calls (k : Nat) (P0_ : Nat → Prop) (u9000_ : Value) (l0 : List Int) (a1 : ByteArray) (r : List Int) (w0 w : World) (hB : Below w0.heap.size w0 w) (ho0 : Kd.R (Kd.int .u8) 5 w w0.heap.size P0_ u9000_ l0) (h : impl_putText.f k l0 a1 = some r) :
    Calls Try.prog 203 #[u9000_, .string a1] w fun e w' => ∃ v0_ : Value, e = .returned (v0_) ∧ Kd.R (Kd.int .u8) 5 w' w0.heap.size (fun k_ => (P0_ k_ ∨ w.heap.size ≤ k_)) v0_ r ∧ Below w0.heap.size w0 w' ∧ Kept w w' (fun k_ => P0_ k_) := by
  have HO0 := Aside0.mk (show Kd.R (Kd.int .u8) 5 w w0.heap.size (fun k_ => (P0_ k_ ∨ w.heap.size ≤ k_)) u9000_ l0 from Kd.R_mono ho0 (fun k_ hk => (.inl hk)))
  have HK := Aside0.mk (Kept.refl w (fun k_ => P0_ k_))
  have HW0 := Aside0.mk hB.size
  have HB := Aside0.mk hB
  clear hB
  have H : ((impl_putNum.f k l0 (a1.size : Int)).bind fun t1635 => (if t1635.length + a1.size < 140737488355328 then (some (t1635 ++ bytesOf a1)) else (none))) = some r := h
  clear h
  replace H := Option.bind_eq_some_iff.mp H
  obtain ⟨t1635, A30, H⟩ := H
  replace H : (if t1635.length + a1.size < 140737488355328 then (some (t1635 ++ bytesOf a1)) else (none)) = some r := H
  have A3 := Aside0.mk A30
  clear A30
  by_cases c4 : t1635.length + a1.size < 140737488355328
  · rw [if_pos c4] at H
    have LMc4 := Aside0.mk c4
    clear c4
    obtain ⟨y1638, hy1638⟩ : ∃ y_ : List Int, y_ = (t1635 ++ bytesOf a1) := ⟨_, rfl⟩
    replace H : (some y1638) = some r := by first | (rw [hy1638]; with_reducible exact H) | (have H2_ := (Option.bind_some _ _).symm.trans H; rw [hy1638]; with_reducible exact H2_) | (have H2_ := (Option.bind_some _ _).symm.trans H; with_reducible exact H2_) | with_reducible exact H | (rw [hy1638]; exact H) | exact H
    have Ny1638 := Aside0.mk hy1638
    clear hy1638
    obtain rfl := Option.some.inj H
    obtain ⟨Ao5, co5, eo5⟩ := Kd.R_slice HO0.out
    subst eo5
    go_enter Try.func203, Try.ntmps203
    go_wp2_with (first | ((with_reducible refine gate_callee (f := 202) rfl ?_); refine goesL_ (some 8) rfl rfl Try.func202 (by kernel_rfl) rfl #[.slice Ao5 l0.length co5, .int .i64 (a1.size : Int)] rfl (by (try simp only [List.map_toArray, List.map_cons, List.map_nil]); first | done | rfl | (simp only [List.length_drop, List.length_take]; rfl)) ?_; (with_reducible refine (impl_putNum.calls k (fun k_ => some k_ = (.slice Ao5 l0.length co5 : Value).ownBlock) (.slice Ao5 l0.length co5) l0 (a1.size : Int) t1635 w0 _ ?side1 ?side2 A3.out).mono ?_); (case side1 => repeat (first | (with_reducible first | exact HB.out | apply below_alloc | apply pw_below_drewN | apply below_drew1) | exact HB.out)); (case side2 => exact Kd.R_tight rfl HO0.out); rintro e w6 ⟨v1636, rfl, ho0, hb, hkp⟩; refine ⟨_, rfl, ?_⟩; have n0_ := Aside0.mk (Kd.R_mono (ok' := fun k_ => (P0_ k_ ∨ w.heap.size ≤ k_)) ho0 (fun k_ hk_ => Or.elim hk_ (fun hs_ => (HO0.out.1 k_ (hs_).symm)) (fun hn_ => (.inr (Nat.le_trans (by first | exact HK.out.1 | exact (show Kept w _ (fun k_ => P0_ k_) from by repeat (first | (with_reducible first | exact HK.out | apply Kept.alloc | apply Kept.drewN | apply Kept.drew) | exact HK.out)).1) hn_))))); have n1_ := Aside0.mk (Kept.then_ (S := (fun k_ => P0_ k_)) (by repeat (first | (with_reducible first | exact HK.out | apply Kept.alloc | apply Kept.drewN | apply Kept.drew) | exact HK.out)) hkp (fun k_ hs_ => (fun e_ => (HO0.out.1 k_ e_.symm)) hs_)); have n2_ := Aside0.mk (hb); clear HK; clear HB; clear HO0; have HO1637 := n0_; have HK := n1_; have HB := n2_; clear n0_ n1_ n2_; (try clear hb); (try clear hkp); (try clear ho0)) | (at_builtin; refine Strs.append_str (w0 := w0) w0.heap.size rfl (.tmp 8) _ 22 9 5 rfl Try.underlying22 Try.underlying9 info5 v1636 t1635 a1 rfl rfl ?aO ?aB ?aS ?aL ?_; (case aB => exact (by repeat (first | (with_reducible first | exact HB.out | apply below_alloc | apply pw_below_drewN | apply below_drew1) | exact HB.out))); (case aO => exact (Kd.own_of_R (by (with_reducible repeat (first | apply Kd.R_alloc | apply Kd.R_drewN | apply Kd.R_drew)); exact HO1637.out))); (case aS => exact (below_size (by repeat (first | (with_reducible first | exact HB.out | apply below_alloc | apply pw_below_drewN | apply below_drew1) | exact HB.out)))); (case aL => have := LMc4.out; omega); intro v1639 w7 ho0 hb hg hat0; have ho := Kd.R_of_own (h1 := fun _ => rfl) (ok := (fun k_ => (P0_ k_ ∨ w.heap.size ≤ k_))) ho0 (fun k_ hk_ => Or.elim hat0 (fun h_ => HO1637.out.1 k_ (h_.symm.trans hk_)) (fun ⟨b_, h_, hb_⟩ => .inr (by cases h_.symm.trans hk_; exact Nat.le_trans HK.out.1 hb_))); clear ho0 hat0; have hat := True.intro; rw [← Ny1638.out] at ho; change Kd.R (Kd.int .u8) 5 w7 w0.heap.size (fun k_ => (P0_ k_ ∨ w.heap.size ≤ k_)) v1639 y1638 at ho; have n0_ := Aside0.mk (hb); have n1_ := Aside0.mk (Kept.of_grown (S := (fun k_ => P0_ k_)) hg (by repeat (first | (with_reducible first | exact HK.out | apply Kept.alloc | apply Kept.drewN | apply Kept.drew) | exact HK.out)) (fun k_ e_ => (HO1637.out.1 k_ e_))); have n2_ := Aside0.mk (ho); clear HB; clear HK; clear HO1637; have HB := n0_; have HK := n1_; have HO1640 := n2_; clear n0_ n1_ n2_; clear ho hb hg hat))
    go_ret
    exact ⟨_, by first | rfl | (simp [errW_none, errW_some] <;> rfl) | (simp [*, errW_none, errW_some] <;> rfl), by (with_reducible repeat (first | apply Kd.R_alloc | apply Kd.R_drewN | apply Kd.R_drew)); exact HO1640.out, by repeat (first | (with_reducible first | exact HB.out | apply below_alloc | apply pw_below_drewN | apply below_drew1) | exact HB.out), by repeat (first | (with_reducible first | exact HK.out | apply Kept.alloc | apply Kept.drewN | apply Kept.drew) | exact HK.out)⟩
  · rw [if_neg c4] at H
    exact absurd H (by simp)

theorem impl_putText.is {out : List Int} (s : ByteArray) (hl : out.length + s.size ≤ 80000000) : Ev (fun k => impl_putText.f k out s) (out ++ pText s) := by
  unfold impl_putText.f pText
  refine Ev.bind (impl_putNum.is (s.size : Int) (by omega)) ?_
  have h := pNum_len (s.size : Int)
  refine Ev.yes (by rw [List.length_append]; omega) ?_
  rw [List.append_assoc]
  exact Ev.now _

/-! ### laws_eqByteS: printed by compact.py -/
set_option maxHeartbeats 2000000 in
set_option maxRecDepth 100000 in
theorem laws_eqByteS.same {xs : List Int} (hl : (fun l : List Int => l.length ≤ 9223372036854775807) xs) {B D : Option Addr} {c d : Nat} {w : World} (hr : Kd.C (Kd.int .u8) w B xs.length xs) (hc : xs.length ≤ c) (hs : Kd.C (Kd.int .u8) w D xs.length xs) (hd : xs.length ≤ d) :
    Calls Try.prog 71 #[.slice B xs.length c, .slice D xs.length d] w fun e w' => e = .returned (.bool true) ∧ Below w.heap.size w w' := by
  have hn : (xs.length : Int) ≤ 9223372036854775807 := by have := hl; omega
  have HR := Aside0.mk hr
  have HS := Aside0.mk hs
  clear hr hs hl
  go_enter Try.func71, Try.ntmps71
  go_wp2
  go_loopg [5] xs.length (fun g v5 w' => ∃ (i : Int) (e : On w), v5 = .int .i64 i ∧ w' = e.now ∧ 0 ≤ i ∧ i ≤ xs.length ∧ Aside0 ((xs.length : Int) - i ≤ g))
  case atStart => exact ⟨0, On.here w, rfl, rfl, Int.le_refl _, by omega, ⟨by omega⟩⟩
  case round =>
    obtain ⟨i, e, rfl, rfl, hi0, hi1, HG⟩ := hrel
    by_cases c1 : i < (xs.length : Int)
    rotate_left
    · go_wp2
      go_ret
      exact ⟨rfl, e.ok⟩
    obtain ⟨ad, e1, h0⟩ := Kd.at_int HR.out i hi0 c1
    cases e1
    obtain ⟨ad', e1, k0⟩ := Kd.at_int HS.out i hi0 c1
    cases e1
    have R0 := On.cell h0
    have S0 := On.cell k0
    clear h0 k0
    generalize rd xs i = y at R0 S0
    go_wp2
    refine BW.region (by kernel_rfl) (by kernel_rfl) ?_
    repeat (go_big_quiet_step (fail))
    refine wpQuiet_nil ?_
    rintro _ ⟨e2, rfl⟩
    go_wp2
    go_roundg (xs.length - i.toNat - 1)
    case measure => have := HG.out; omega
    case rel => exact ⟨i + 1, e2, rfl, rfl, by omega, by omega, ⟨by omega⟩⟩

end Go.Proofs.Ytadkhkpchankjaa.F
