/-
The pure side of FnExactHighOf: what the printed functions come to, and that the law's own comes to true.
Conditions: what the reading gives of the arguments.
-/
import Derived.Test.YtieecjilnaijkaaPFnExactHighOfx2
import Derived.Test.YtieecjilnaijkaaTFnExactHighOf
import Derived.Test.YtieecjilnaijkaaBase
set_option linter.unusedVariables false
set_option linter.unusedSimpArgs false
namespace Go.Proofs.Ytieecjilnaijkaa.Pure
open Go.RowKit Go.Proofs.Ytieecjilnaijkaa.PFnExactHighOf Go.Proofs.YtieecjilnaijkaaW.PrintWords Go.Proofs.YtieecjilnaijkaaW.PrintLast Go.Proofs.YtieecjilnaijkaaW.PrintMore Go.Proofs.Ytieecjilnaijkaa.Base

theorem laws_szStringS.is {xs : List ByteArray} {left : Int} (hw : (fun l : List ByteArray => l.length ≤ maxLen ∧ ∀ x ∈ l, (fun s : ByteArray => s.size ≤ maxLen) x) xs) (h0 : 0 ≤ left) (h1 : left ≤ 1048576) : Ev (fun k => laws_szStringS.f k xs left) (szR ((xs.length : Int) + sums (fun x : ByteArray => (x.size : Int)) xs) left) :=
  sz_sliceS (l := fun k s i => laws_szStringS.l0 k xs s i) (fun k s i => rfl) hw.2 hw.1 h0 h1

theorem laws_szIntS.is {xs : List Int} {left : Int} (hw : (fun l : List Int => l.length ≤ maxLen ∧ ∀ x ∈ l, (fun n : Int => (Lit.int .i64 n).wf = true) x) xs) (h0 : 0 ≤ left) (h1 : left ≤ 1048576) : Ev (fun k => laws_szIntS.f xs left) (szR (xs.length : Int) left) := by
  unfold laws_szIntS.f
  refine Ev.to (r := szR ((xs.length : Int) + 0) left) (Ev.szl hw.1 h0 h1 (Int.le_refl _) (fun hc => ?_)) (by rw [Int.add_zero])
  have hm : maxLen = 9223372036854775807 := rfl
  rw [w64 (by omega) (by omega)]
  exact Ev.is (szR_zero (by omega)).symm

/-- How much a value of struct type 33 holds. -/
def hold33 (x : S33) : Int := ((x.f1.length : Int) + sums (fun x : ByteArray => (x.size : Int)) x.f1) + ((x.f2.length : Int) + (0))

theorem hold33.nn (x : S33) : 0 ≤ hold33 x := by
  unfold hold33
  have n1 := (show 0 ≤ ((x.f1.length : Int) + sums (fun x : ByteArray => (x.size : Int)) x.f1) from (Int.add_nonneg (Int.natCast_nonneg _) (sums_nn (fun x => Int.natCast_nonneg _) x.f1)))
  have n2 := (show 0 ≤ (x.f2.length : Int) from (Int.natCast_nonneg _))
  omega

theorem laws_szTc.is {x : S33} {left : Int} (hw : w33 x) (h0 : 0 ≤ left) (h1 : left ≤ 1048576) : Ev (fun k => laws_szTc.f k x.f0 x.f1 x.f2 left) (szR (hold33 x) left) := by
  unfold laws_szTc.f hold33
  have n1 : 0 ≤ ((x.f1.length : Int) + sums (fun x : ByteArray => (x.size : Int)) x.f1) := (Int.add_nonneg (Int.natCast_nonneg _) (sums_nn (fun x => Int.natCast_nonneg _) x.f1))
  have n2 : 0 ≤ (x.f2.length : Int) := (Int.natCast_nonneg _)
  refine Ev.sz (laws_szStringS.is hw.2.1 (by omega) (by omega)) (by omega) (by omega) (fun hc1 => ?_)
  refine Ev.sz (laws_szIntS.is hw.2.2 (by omega) (by omega)) (by omega) (by omega) (fun hc2 => ?_)
  exact Ev.is (szR_zero (by omega)).symm

theorem laws_toStringS.is {xs : List ByteArray} (hs : xs.length ≤ 1048576) : Ev (fun k => laws_toStringS.f k xs) xs := by
  unfold laws_toStringS.f
  exact to_slice0 (l := fun k out i => laws_toStringS.l0 k xs out i) (fun k out i => rfl) hs (by decide)

theorem laws_toIntS.is {xs : List Int} (hs : xs.length ≤ 1048576) : Ev (fun k => laws_toIntS.f k xs) xs := by
  unfold laws_toIntS.f
  exact to_slice0 (l := fun k out i => laws_toIntS.l0 k xs out i) (fun k out i => rfl) hs (by decide)

def c33 (x : S33) : S36 := ⟨x.f0, x.f1, x.f2⟩

def s33 (x : S33) : Prop := (fun l : List ByteArray => l.length ≤ 1048576) x.f1 ∧ (fun l : List Int => l.length ≤ 1048576) x.f2

theorem laws_toTc.is {x : S33} (hs : s33 x) : Ev (fun k => laws_toTc.f k x.f0 x.f1 x.f2) ((c33 x).f0, (c33 x).f1, (c33 x).f2) := by
  unfold laws_toTc.f
  refine Ev.bind (laws_toStringS.is hs.1) ?_
  refine Ev.bind (laws_toIntS.is hs.2) ?_
  exact Ev.now _

theorem small33 {x : S33} (h : hold33 x ≤ 1048576) : s33 x := by
  unfold hold33 at h
  have n1 : 0 ≤ ((x.f1.length : Int) + sums (fun x : ByteArray => (x.size : Int)) x.f1) := (Int.add_nonneg (Int.natCast_nonneg _) (sums_nn (fun x => Int.natCast_nonneg _) x.f1))
  have n2 : 0 ≤ (x.f2.length : Int) := (Int.natCast_nonneg _)
  exact ⟨(by have := sums_nn (h := fun x : ByteArray => (x.size : Int)) (fun x => Int.natCast_nonneg _) x.f1; omega), (by omega)⟩

theorem laws_eqStringS.refl {xs : List ByteArray} (hl : xs.length ≤ 9223372036854775807) : Ev (fun k => laws_eqStringS.f k xs xs) true :=
  eq_slice0 (p := fun a b : ByteArray => a.toList = b.toList) (l := fun k i => laws_eqStringS.l0 k xs xs i) (fun k i => rfl) (fun _ => rfl) hl

theorem laws_eqIntS.refl {xs : List Int} (hl : xs.length ≤ 9223372036854775807) : Ev (fun k => laws_eqIntS.f k xs xs) true :=
  eq_slice0 (p := fun a b : Int => a = b) (l := fun k i => laws_eqIntS.l0 k xs xs i) (fun k i => rfl) (fun _ => rfl) hl

def l36 (x : S36) : Prop := (fun l : List ByteArray => l.length ≤ 9223372036854775807) x.f1 ∧ (fun l : List Int => l.length ≤ 9223372036854775807) x.f2

theorem laws_eqTc.refl {x : S36} (hl : l36 x) : Ev (fun k => laws_eqTc.f k x.f0 x.f1 x.f2 x.f0 x.f1 x.f2) true := by
  unfold laws_eqTc.f
  repeat (first | exact Ev.now _ | refine Ev.yes rfl ?_ | refine Ev.bind (laws_eqStringS.refl hl.1) ?_ | refine Ev.bind (laws_eqIntS.refl hl.2) ?_)

theorem long33 {x : S33} (h : s33 x) : l36 (c33 x) := by
  exact ⟨Nat.le_trans h.1 (by decide), Nat.le_trans h.2 (by decide)⟩

/-- The greatest of these, but n at least. -/
def high : List Int → Int → Int
  | [], n => n
  | x :: xs, n => high xs (if n < x then x else n)

theorem spec_HighOf.is {r : Int} {who : List ByteArray} {l : List Int} (hl : l.length ≤ 9223372036854775807) : Ev (fun k => spec_HighOf.f k r who l) (high l 0) := by
  unfold spec_HighOf.f
  refine ev_loop (fun k s i => spec_HighOf.l0 k s i r who l) high (fun s => ?_) (fun pre y ys s hx ih => ?_) 0
  · simp only [spec_HighOf.l0]
    exact Ev.no (by omega) (Ev.now _)
  · have hp := len_app hx
    have hrd : rd l pre.length = y := by rw [hx]; exact at_app pre y ys _
    simp only [spec_HighOf.l0, hrd]
    refine Ev.yes (by omega) (Ev.yes (by omega) ?_)
    rw [w64 (x := (pre.length : Int) + 1) (by omega) (by omega)]
    refine Ev.cond (fun hc => Ev.to (ih _) ?_) (fun hc => Ev.to (ih _) ?_)
    · simp only [high]; rw [if_pos (by omega)]
    · simp only [high]; rw [if_neg (by omega)]

theorem impl_HighOf.is {r : Int} {who : List ByteArray} {l : List Int} (hl : l.length ≤ 9223372036854775807) : Ev (fun k => impl_HighOf.f k r who l) (high l 0) := by
  unfold impl_HighOf.f
  refine ev_loop (fun k s i => impl_HighOf.l0 k s l l.length i) high (fun s => ?_) (fun pre y ys s hx ih => ?_) 0
  · simp only [impl_HighOf.l0]
    exact Ev.no (by omega) (Ev.now _)
  · have hp := len_app hx
    have hrd : rd l pre.length = y := by rw [hx]; exact at_app pre y ys _
    simp only [impl_HighOf.l0, hrd]
    refine Ev.yes (by omega) (Ev.yes (by omega) (Ev.yes (by omega) ?_))
    rw [w64 (x := (pre.length : Int) + 1) (by omega) (by omega)]
    exact ih _

theorem FnExactHighOf : ∀ (x0 : S33), w33 x0 → ∃ k, laws_FnExactHighOf.f k x0.f0 x0.f1 x0.f2 = some true := by
  intro x0 hw
  refine Ev.rounds ?_
  unfold laws_FnExactHighOf.f
  refine Ev.bind (laws_szTc.is hw (by omega) (by omega)) (Ev.cond (fun _ => Ev.now _) (fun hc => ?_))
  have hs := small33 (x := x0) (by have := mt (szR_lt (by omega)).2 hc; omega)
  have hl := long33 hs
  refine Ev.bind (laws_toTc.is hs) (Ev.bind (spec_HighOf.is hl.2) (Ev.bind (laws_toTc.is hs) (Ev.bind (impl_HighOf.is hl.2) (Ev.yes rfl ?_))))
  exact Ev.bind (laws_toTc.is hs) (Ev.bind (laws_eqTc.refl hl) (Ev.yes rfl (Ev.now _)))

end Go.Proofs.Ytieecjilnaijkaa.Pure
