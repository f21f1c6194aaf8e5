/-
The pure side of FnExactIsQuorum: what the printed functions come to, and that the law's own comes to true.
Conditions: what the reading gives of the arguments.
-/
import Derived.Test.YtieecjilnaijkaaPFnExactIsQuorumx3
import Derived.Test.YtieecjilnaijkaaTFnExactIsQuorum
import Derived.Test.YtieecjilnaijkaaBase
set_option linter.unusedVariables false
set_option linter.unusedSimpArgs false
namespace Go.Proofs.Ytieecjilnaijkaa.Pure
open Go.RowKit Go.Proofs.Ytieecjilnaijkaa.PFnExactIsQuorum Go.Proofs.YtieecjilnaijkaaW.PrintWords Go.Proofs.YtieecjilnaijkaaW.PrintLast Go.Proofs.YtieecjilnaijkaaW.PrintMore Go.Proofs.Ytieecjilnaijkaa.Base

/-- How much a value of struct type 92 holds. -/
def hold92 (x : S92) : Int := (x.f0.size : Int) + (0)

theorem hold92.nn (x : S92) : 0 ≤ hold92 x := by
  unfold hold92
  have n0 := (show 0 ≤ (x.f0.size : Int) from (Int.natCast_nonneg _))
  omega

theorem laws_szVal.is {x : S92} {left : Int} (hw : w92 x) (h0 : 0 ≤ left) (h1 : left ≤ 1048576) : Ev (fun k => laws_szVal.f x.f0 x.f1 left) (szR (hold92 x) left) := by
  unfold laws_szVal.f hold92
  have n0 : 0 ≤ (x.f0.size : Int) := (Int.natCast_nonneg _)
  refine Ev.szl hw.1 (by omega) (by omega) (by omega) (fun hc0 => ?_)
  rw [w64 (x := left - (x.f0.size : Int)) (by omega) (by omega)]
  exact Ev.is (szR_zero (by omega)).symm

theorem laws_szValS.is {xs : List S92} {left : Int} (hw : (fun l : List S92 => l.length ≤ maxLen ∧ ∀ x ∈ l, w92 x) xs) (h0 : 0 ≤ left) (h1 : left ≤ 1048576) : Ev (fun k => laws_szValS.f k xs left) (szR ((xs.length : Int) + sums hold92 xs) left) :=
  sz_slice (z := z92) hold92.nn (l := fun k s i => laws_szValS.l0 k xs s i) (g := fun k x s => laws_szVal.f x.f0 x.f1 s) (fun k s i => rfl) (fun x hx s a b => laws_szVal.is (hw.2 x hx) a b) hw.1 h0 h1

def c92 (x : S92) : S93 := ⟨x.f0, x.f1⟩

theorem laws_toVal.is {x : S92} : Ev (fun k => laws_toVal.f x.f0 x.f1) ((c92 x).f0, (c92 x).f1) := Ev.now _

theorem laws_toValS.is {xs : List S92} (hs : (fun l : List S92 => l.length ≤ 1048576) xs) : Ev (fun k => laws_toValS.f k xs) (xs.map c92) := by
  unfold laws_toValS.f
  exact to_slice (z := z92) (zb := z93) (l := fun k out i => laws_toValS.l0 k xs out i) (g := fun k x => laws_toVal.f x.f0 x.f1) (mk := fun t : ByteArray × Int => (⟨t.1, t.2⟩ : S93)) (tup := fun x => ((c92 x).f0, (c92 x).f1)) (fun k out i => rfl) (fun x hx => laws_toVal.is) hs (by decide)

theorem laws_szStringS.is {xs : List ByteArray} {left : Int} (hw : (fun l : List ByteArray => l.length ≤ maxLen ∧ ∀ x ∈ l, (fun s : ByteArray => s.size ≤ maxLen) x) xs) (h0 : 0 ≤ left) (h1 : left ≤ 1048576) : Ev (fun k => laws_szStringS.f k xs left) (szR ((xs.length : Int) + sums (fun x : ByteArray => (x.size : Int)) xs) left) :=
  sz_sliceS (l := fun k s i => laws_szStringS.l0 k xs s i) (fun k s i => rfl) hw.2 hw.1 h0 h1

theorem laws_toStringS.is {xs : List ByteArray} (hs : xs.length ≤ 1048576) : Ev (fun k => laws_toStringS.f k xs) xs := by
  unfold laws_toStringS.f
  exact to_slice0 (l := fun k out i => laws_toStringS.l0 k xs out i) (fun k out i => rfl) hs (by decide)

theorem laws_eqVal.refl {x : S93} : Ev (fun k => laws_eqVal.f x.f0 x.f1 x.f0 x.f1) true := by
  unfold laws_eqVal.f
  repeat (first | exact Ev.now _ | refine Ev.yes rfl ?_)

theorem laws_eqValS.refl {xs : List S93} (hl : (fun l : List S93 => l.length ≤ 9223372036854775807) xs) : Ev (fun k => laws_eqValS.f k xs xs) true :=
  eq_slice (z := z93) (l := fun k i => laws_eqValS.l0 k xs xs i) (g := fun k a b => laws_eqVal.f a.f0 a.f1 b.f0 b.f1) (fun k i => rfl) (fun x hx => laws_eqVal.refl) hl

theorem laws_eqStringS.refl {xs : List ByteArray} (hl : xs.length ≤ 9223372036854775807) : Ev (fun k => laws_eqStringS.f k xs xs) true :=
  eq_slice0 (p := fun a b : ByteArray => a.toList = b.toList) (l := fun k i => laws_eqStringS.l0 k xs xs i) (fun k i => rfl) (fun _ => rfl) hl

/-- Whether a text is among these. -/
def has (s : ByteArray) (l : List ByteArray) : Bool := l.any fun x => decide (x = s)
theorem toList_eq {a b : ByteArray} : a.toList = b.toList ↔ a = b := by
  constructor
  · intro h
    have : a.data.toList = b.data.toList := by rw [ByteArray.toList_eq, ByteArray.toList_eq] at h; exact h
    cases a; cases b
    simp_all
  · rintro rfl
    rfl

theorem spec_l7Has.is {l : List ByteArray} {s : ByteArray} (hl : l.length ≤ 9223372036854775807) : Ev (fun k => spec_l7Has.f k l s) (has s l) := by
  unfold spec_l7Has.f
  refine ev_loop (fun k (_ : Unit) i => spec_l7Has.l0 k l s i) (fun ys _ => has s ys) (fun _ => ?_) (fun pre y ys _ hx ih => ?_) ()
  · simp only [spec_l7Has.l0]
    exact Ev.no (by omega) (Ev.now _)
  · have hp := len_app hx
    have hrd : rdOf ByteArray.empty l pre.length = y := by rw [hx]; exact at_app pre y ys _
    simp only [spec_l7Has.l0, hrd, toList_eq]
    refine Ev.yes (by omega) (Ev.yes (by omega) ?_)
    rw [w64 (x := (pre.length : Int) + 1) (by omega) (by omega)]
    refine Ev.cond (fun hc => Ev.is (by simp [has, hc])) (fun hc => Ev.to (ih ()) (by simp [has, hc]))

/-- What those of them that are named weigh. -/
def weight (names : List ByteArray) : List S93 → Int → Int
  | [], n => n
  | v :: vs, n => weight names vs (if has v.f0 names then wrap64 (n + v.f1) else n)

theorem spec_WeightOf.is {l : List S93} {names : List ByteArray} (hl : l.length ≤ 9223372036854775807) (hn : names.length ≤ 9223372036854775807) : Ev (fun k => spec_WeightOf.f k l names) (weight names l 0) := by
  unfold spec_WeightOf.f
  refine ev_loop (fun k s i => spec_WeightOf.l0 k l names s i) (weight names) (fun s => ?_) (fun pre y ys s hx ih => ?_) 0
  · simp only [spec_WeightOf.l0]
    exact Ev.no (by omega) (Ev.now _)
  · have hp := len_app hx
    have hrd : rd_T93 l pre.length = y := by rw [hx]; exact at_app pre y ys _
    simp only [spec_WeightOf.l0, hrd]
    refine Ev.yes (by omega) (Ev.yes (by omega) (Ev.bind (spec_l7Has.is hn) ?_))
    rw [w64 (x := (pre.length : Int) + 1) (by omega) (by omega)]
    refine Ev.cond (fun hc => Ev.to (ih _) ?_) (fun hc => Ev.to (ih _) ?_)
    · simp only [weight, hc, if_true]
    · simp only [weight, hc]; rfl

/-- The sum of the weights, as the program adds them. -/
def total : List S93 → Int → Int
  | [], n => n
  | v :: vs, n => total vs (wrap64 (n + v.f1))

theorem spec_TotalOf.is {l : List S93} (hl : l.length ≤ 9223372036854775807) : Ev (fun k => spec_TotalOf.f k l) (total l 0) := by
  unfold spec_TotalOf.f
  refine ev_loop (fun k s i => spec_TotalOf.l0 k l s i) total (fun s => ?_) (fun pre y ys s hx ih => ?_) 0
  · simp only [spec_TotalOf.l0]
    exact Ev.no (by omega) (Ev.now _)
  · have hp := len_app hx
    have hrd : rd_T93 l pre.length = y := by rw [hx]; exact at_app pre y ys _
    simp only [spec_TotalOf.l0, hrd]
    refine Ev.yes (by omega) (Ev.yes (by omega) ?_)
    rw [w64 (x := (pre.length : Int) + 1) (by omega) (by omega)]
    exact ih _

def quorum (l : List S93) (names : List ByteArray) : Bool := decide (wrap64 (3 * weight names l 0) > wrap64 (2 * total l 0))

theorem spec_IsQuorum.is {l : List S93} {names : List ByteArray} (hl : l.length ≤ 9223372036854775807) (hn : names.length ≤ 9223372036854775807) : Ev (fun k => spec_IsQuorum.f k l names) (quorum l names) := by
  unfold spec_IsQuorum.f
  exact Ev.bind (spec_WeightOf.is hl hn) (Ev.bind (spec_TotalOf.is hl) (Ev.now _))

theorem slices_Index_string_string.is {l : List ByteArray} {s : ByteArray} (hl : l.length ≤ 9223372036854775807) : Ev (fun k => slices_Index_string_string.f k l s) (if has s l then (l.findIdx fun x => decide (x = s) : Int) else -1) := by
  unfold slices_Index_string_string.f
  have key : ∀ (ys pre : List ByteArray), l = pre ++ ys → Ev (fun k => slices_Index_string_string.l0 k l s l.length (pre.length : Int)) (if has s ys then ((pre.length + ys.findIdx fun x => decide (x = s) : Nat) : Int) else -1) := by
    intro ys
    induction ys with
    | nil =>
      intro pre hx
      refine Ev.up ?_
      simp only [slices_Index_string_string.l0]
      exact Ev.no (by rw [hx]; simp) (Ev.now _)
    | cons y ys ih =>
      intro pre hx
      have hp := len_app hx
      have hrd : rdOf ByteArray.empty l pre.length = y := by rw [hx]; exact at_app pre y ys _
      refine Ev.up ?_
      simp only [slices_Index_string_string.l0, hrd, toList_eq]
      refine Ev.yes (by omega) (Ev.yes (by omega) (Ev.yes (by omega) ?_))
      rw [w64 (x := (pre.length : Int) + 1) (by omega) (by omega)]
      refine Ev.cond (fun hc => Ev.is (by simp [has, hc, List.findIdx_cons])) (fun hc => ?_)
      have := ih (pre ++ [y]) (by rw [hx]; simp)
      rw [List.length_append, List.length_singleton] at this
      refine Ev.to (by simpa using this) ?_
      have hc' : ¬ y = s := fun h => hc h.symm
      have hh : has s (y :: ys) = has s ys := by simp [has, hc']
      rw [hh]
      split
      · simp [List.findIdx_cons, hc']
        omega
      · rfl
  refine Ev.to (key l [] rfl) ?_
  simp

theorem slices_Contains_string_string.is {l : List ByteArray} {s : ByteArray} (hl : l.length ≤ 9223372036854775807) : Ev (fun k => slices_Contains_string_string.f k l s) (has s l) := by
  unfold slices_Contains_string_string.f
  refine Ev.bind (slices_Index_string_string.is hl) (Ev.is ?_)
  split <;> rename_i h
  · rw [h]; simp
  · simp at h; rw [h]; simp

theorem impl_WeightOf.is {l : List S93} {names : List ByteArray} (hl : l.length ≤ 9223372036854775807) (hn : names.length ≤ 9223372036854775807) : Ev (fun k => impl_WeightOf.f k l names) (weight names l 0) := by
  unfold impl_WeightOf.f
  refine ev_loop (fun k s i => impl_WeightOf.l0 k names s l l.length i) (weight names) (fun s => ?_) (fun pre y ys s hx ih => ?_) 0
  · simp only [impl_WeightOf.l0]
    exact Ev.no (by omega) (Ev.now _)
  · have hp := len_app hx
    have hrd : rd_T93 l pre.length = y := by rw [hx]; exact at_app pre y ys _
    simp only [impl_WeightOf.l0, hrd]
    refine Ev.yes (by omega) (Ev.yes (by omega) (Ev.yes (by omega) (Ev.bind (slices_Contains_string_string.is hn) ?_)))
    rw [w64 (x := (pre.length : Int) + 1) (by omega) (by omega)]
    refine Ev.cond (fun hc => Ev.to (ih _) ?_) (fun hc => Ev.to (ih _) ?_)
    · simp only [weight, hc, if_true]
    · simp only [weight, hc]; rfl

theorem impl_TotalOf.is {l : List S93} (hl : l.length ≤ 9223372036854775807) : Ev (fun k => impl_TotalOf.f k l) (total l 0) := by
  unfold impl_TotalOf.f
  refine ev_loop (fun k s i => impl_TotalOf.l0 k s l l.length i) total (fun s => ?_) (fun pre y ys s hx ih => ?_) 0
  · simp only [impl_TotalOf.l0]
    exact Ev.no (by omega) (Ev.now _)
  · have hp := len_app hx
    have hrd : rd_T93 l pre.length = y := by rw [hx]; exact at_app pre y ys _
    simp only [impl_TotalOf.l0, hrd]
    refine Ev.yes (by omega) (Ev.yes (by omega) (Ev.yes (by omega) ?_))
    rw [w64 (x := (pre.length : Int) + 1) (by omega) (by omega)]
    exact ih _

theorem impl_IsQuorum.is {l : List S93} {names : List ByteArray} (hl : l.length ≤ 9223372036854775807) (hn : names.length ≤ 9223372036854775807) : Ev (fun k => impl_IsQuorum.f k l names) (quorum l names) := by
  unfold impl_IsQuorum.f
  exact Ev.bind (impl_WeightOf.is hl hn) (Ev.bind (impl_TotalOf.is hl) (Ev.now _))

theorem FnExactIsQuorum : ∀ (x0 : List S92) (x1 : List ByteArray), (fun l : List S92 => l.length ≤ maxLen ∧ ∀ x ∈ l, w92 x) x0 → (fun l : List ByteArray => l.length ≤ maxLen ∧ ∀ x ∈ l, (fun s : ByteArray => s.size ≤ maxLen) x) x1 → ∃ k, laws_FnExactIsQuorum.f k x0 x1 = some true := by
  intro x0 x1 hw hw1
  refine Ev.rounds ?_
  unfold laws_FnExactIsQuorum.f
  refine Ev.bind (laws_szValS.is hw (by omega) (by omega)) (Ev.cond (fun _ => Ev.now _) (fun hc => ?_))
  have hc' := mt (szR_lt (by omega)).2 hc
  have hn0 := sums_nn hold92.nn x0
  have hs : x0.length ≤ 1048576 := by omega
  have hl : (x0.map c92).length ≤ 9223372036854775807 := by rw [List.length_map]; omega
  refine Ev.bind (laws_szStringS.is hw1 (by omega) (szR_up (by omega) (by omega))) (Ev.cond (fun _ => Ev.now _) (fun hd => ?_))
  have hd' := mt (szR_lt (by omega)).2 hd
  have hs1 : x1.length ≤ 1048576 := by have := sums_nn (h := fun x : ByteArray => (x.size : Int)) (fun x => Int.natCast_nonneg _) x1; have := szR_up (h := (x0.length : Int) + sums hold92 x0) (left := 1048576) (by omega) (by omega); omega
  have hl1 : x1.length ≤ 9223372036854775807 := by omega
  refine Ev.bind (laws_toValS.is hs) (Ev.bind (laws_toStringS.is hs1) (Ev.bind (spec_IsQuorum.is hl hl1) (Ev.bind (laws_toValS.is hs) (Ev.bind (laws_toStringS.is hs1) (Ev.bind (impl_IsQuorum.is hl hl1) (Ev.no (by simp) ?_))))))
  exact Ev.bind (laws_toValS.is hs) (Ev.bind (laws_eqValS.refl hl) (Ev.yes rfl (Ev.bind (laws_toStringS.is hs1) (Ev.bind (laws_eqStringS.refl hl1) (Ev.yes rfl (Ev.now _))))))

end Go.Proofs.Ytieecjilnaijkaa.Pure
