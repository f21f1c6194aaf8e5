/-
The pure side of FnExactTotalOf: what the printed functions come to, and that the law's own comes to true.
Conditions: what the reading gives of the arguments.
-/
import Derived.Test.YtieecjilnaijkaaPFnExactTotalOfx2
import Derived.Test.YtieecjilnaijkaaTFnExactTotalOf
import Derived.Test.YtieecjilnaijkaaBase
set_option linter.unusedVariables false
set_option linter.unusedSimpArgs false
namespace Go.Proofs.Ytieecjilnaijkaa.Pure
open Go.RowKit Go.Proofs.Ytieecjilnaijkaa.PFnExactTotalOf Go.Proofs.YtieecjilnaijkaaW.PrintWords Go.Proofs.YtieecjilnaijkaaW.PrintLast Go.Proofs.YtieecjilnaijkaaW.PrintMore Go.Proofs.Ytieecjilnaijkaa.Base

/-- How much a value of struct type 92 holds. -/
def hold92 (x : S92) : Int := (x.f0.size : Int) + (0)

theorem hold92.nn (x : S92) : 0 ≤ hold92 x := by
  unfold hold92
  have n0 := (show 0 ≤ (x.f0.size : Int) from (Int.natCast_nonneg _))
  omega

theorem laws_szVal.is {x : S92} {left : Int} (hw : w92 x) (h0 : 0 ≤ left) (h1 : left ≤ 1048576) : Ev (fun k => laws_szVal.f x.f0 x.f1 left) (szR (hold92 x) left) := by
  unfold laws_szVal.f hold92
  have n0 : 0 ≤ (x.f0.size : Int) := (Int.natCast_nonneg _)
  refine Ev.szl hw.1 (by omega) (by omega) (by omega) (fun hc0 => ?_)
  rw [w64 (x := left - (x.f0.size : Int)) (by omega) (by omega)]
  exact Ev.is (szR_zero (by omega)).symm

theorem laws_szValS.is {xs : List S92} {left : Int} (hw : (fun l : List S92 => l.length ≤ maxLen ∧ ∀ x ∈ l, w92 x) xs) (h0 : 0 ≤ left) (h1 : left ≤ 1048576) : Ev (fun k => laws_szValS.f k xs left) (szR ((xs.length : Int) + sums hold92 xs) left) :=
  sz_slice (z := z92) hold92.nn (l := fun k s i => laws_szValS.l0 k xs s i) (g := fun k x s => laws_szVal.f x.f0 x.f1 s) (fun k s i => rfl) (fun x hx s a b => laws_szVal.is (hw.2 x hx) a b) hw.1 h0 h1

def c92 (x : S92) : S93 := ⟨x.f0, x.f1⟩

theorem laws_toVal.is {x : S92} : Ev (fun k => laws_toVal.f x.f0 x.f1) ((c92 x).f0, (c92 x).f1) := Ev.now _

theorem laws_toValS.is {xs : List S92} (hs : (fun l : List S92 => l.length ≤ 1048576) xs) : Ev (fun k => laws_toValS.f k xs) (xs.map c92) := by
  unfold laws_toValS.f
  exact to_slice (z := z92) (zb := z93) (l := fun k out i => laws_toValS.l0 k xs out i) (g := fun k x => laws_toVal.f x.f0 x.f1) (mk := fun t : ByteArray × Int => (⟨t.1, t.2⟩ : S93)) (tup := fun x => ((c92 x).f0, (c92 x).f1)) (fun k out i => rfl) (fun x hx => laws_toVal.is) hs (by decide)

theorem laws_eqVal.refl {x : S93} : Ev (fun k => laws_eqVal.f x.f0 x.f1 x.f0 x.f1) true := by
  unfold laws_eqVal.f
  repeat (first | exact Ev.now _ | refine Ev.yes rfl ?_)

theorem laws_eqValS.refl {xs : List S93} (hl : (fun l : List S93 => l.length ≤ 9223372036854775807) xs) : Ev (fun k => laws_eqValS.f k xs xs) true :=
  eq_slice (z := z93) (l := fun k i => laws_eqValS.l0 k xs xs i) (g := fun k a b => laws_eqVal.f a.f0 a.f1 b.f0 b.f1) (fun k i => rfl) (fun x hx => laws_eqVal.refl) hl

/-- The sum of the weights, as the program adds them. -/
def total : List S93 → Int → Int
  | [], n => n
  | v :: vs, n => total vs (wrap64 (n + v.f1))

theorem spec_TotalOf.is {l : List S93} (hl : l.length ≤ 9223372036854775807) : Ev (fun k => spec_TotalOf.f k l) (total l 0) := by
  unfold spec_TotalOf.f
  refine ev_loop (fun k s i => spec_TotalOf.l0 k l s i) total (fun s => ?_) (fun pre y ys s hx ih => ?_) 0
  · simp only [spec_TotalOf.l0]
    exact Ev.no (by omega) (Ev.now _)
  · have hp := len_app hx
    have hrd : rd_T93 l pre.length = y := by rw [hx]; exact at_app pre y ys _
    simp only [spec_TotalOf.l0, hrd]
    refine Ev.yes (by omega) (Ev.yes (by omega) ?_)
    rw [w64 (x := (pre.length : Int) + 1) (by omega) (by omega)]
    exact ih _

theorem impl_TotalOf.is {l : List S93} (hl : l.length ≤ 9223372036854775807) : Ev (fun k => impl_TotalOf.f k l) (total l 0) := by
  unfold impl_TotalOf.f
  refine ev_loop (fun k s i => impl_TotalOf.l0 k s l l.length i) total (fun s => ?_) (fun pre y ys s hx ih => ?_) 0
  · simp only [impl_TotalOf.l0]
    exact Ev.no (by omega) (Ev.now _)
  · have hp := len_app hx
    have hrd : rd_T93 l pre.length = y := by rw [hx]; exact at_app pre y ys _
    simp only [impl_TotalOf.l0, hrd]
    refine Ev.yes (by omega) (Ev.yes (by omega) (Ev.yes (by omega) ?_))
    rw [w64 (x := (pre.length : Int) + 1) (by omega) (by omega)]
    exact ih _

theorem FnExactTotalOf : ∀ (x0 : List S92), (fun l : List S92 => l.length ≤ maxLen ∧ ∀ x ∈ l, w92 x) x0 → ∃ k, laws_FnExactTotalOf.f k x0 = some true := by
  intro x0 hw
  refine Ev.rounds ?_
  unfold laws_FnExactTotalOf.f
  refine Ev.bind (laws_szValS.is hw (by omega) (by omega)) (Ev.cond (fun _ => Ev.now _) (fun hc => ?_))
  have hc' := mt (szR_lt (by omega)).2 hc
  have hs : x0.length ≤ 1048576 := by have := sums_nn hold92.nn x0; omega
  have hl : (x0.map c92).length ≤ 9223372036854775807 := by rw [List.length_map]; omega
  refine Ev.bind (laws_toValS.is hs) (Ev.bind (spec_TotalOf.is hl) (Ev.bind (laws_toValS.is hs) (Ev.bind (impl_TotalOf.is hl) (Ev.yes rfl ?_))))
  exact Ev.bind (laws_toValS.is hs) (Ev.bind (laws_eqValS.refl hl) (Ev.yes rfl (Ev.now _)))

end Go.Proofs.Ytieecjilnaijkaa.Pure
