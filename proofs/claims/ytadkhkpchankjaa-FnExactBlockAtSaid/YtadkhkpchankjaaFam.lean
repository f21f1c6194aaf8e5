/-
Words for the walks of a law's own helpers: how much a list holds, told by what is left of it; a box that lies in a later world.
Conditions: none beside those that each theorem names.
-/
import Derived.Test.YtadkhkpchankjaaBase
import Derived.Test.YtadkhkpchankjaaBW
set_option linter.unusedVariables false
namespace Go.Proofs.Ytadkhkpchankjaa.FamW
open Go.RowKit Go.Proofs.YtadkhkpchankjaaW.PrintWords Go.Proofs.Ytadkhkpchankjaa.Base Go.Proofs.Ytadkhkpchankjaa.BW
theorem drop_at {α : Type} {xs : List α} {i : Int} (h0 : 0 ≤ i) (h1 : i < xs.length) (z : α) : xs.drop i.toNat = xs.getD i.toNat z :: xs.drop (i + 1).toNat := by
  have hi : i.toNat < xs.length := by omega
  rw [List.drop_eq_getElem_cons hi, List.getD_eq_getElem?_getD, List.getElem?_eq_getElem hi]
  rw [show (i + 1).toNat = i.toNat + 1 by omega]
  rfl
theorem sz_next {α : Type} {h : α → Int} (hn : ∀ x, 0 ≤ h x) {xs : List α} {i s r : Int} {z : α} (h0 : 0 ≤ i) (h1 : i < xs.length) (hs : 0 ≤ s) (H : szR (sums h (xs.drop i.toNat)) s = r) (hle : h (xs.getD i.toNat z) ≤ s) : szR (sums h (xs.drop (i + 1).toNat)) (s - h (xs.getD i.toNat z)) = r := by
  rw [drop_at h0 h1 z] at H
  rw [← H]
  have a := hn (xs.getD i.toNat z)
  have b := sums_nn hn (xs.drop (i + 1).toNat)
  show szR _ _ = szR (h (xs.getD i.toNat z) + sums h (xs.drop (i + 1).toNat)) s
  unfold szR
  split <;> split <;> omega
theorem sz_over {α : Type} {h : α → Int} (hn : ∀ x, 0 ≤ h x) {xs : List α} {i s r : Int} {z : α} (h0 : 0 ≤ i) (h1 : i < xs.length) (H : szR (sums h (xs.drop i.toNat)) s = r) (hle : s < h (xs.getD i.toNat z)) : r = -1 := by
  rw [drop_at h0 h1 z] at H
  rw [← H]
  have b := sums_nn hn (xs.drop (i + 1).toNat)
  exact szR_no (by show s < h (xs.getD i.toNat z) + sums h (xs.drop (i + 1).toNat); omega)
theorem sz_end {α : Type} {h : α → Int} {xs : List α} {i s r : Int} (h1 : (xs.length : Int) ≤ i) (hs : 0 ≤ s) (H : szR (sums h (xs.drop i.toNat)) s = r) : r = s := by
  rw [List.drop_eq_nil_of_le (by omega)] at H
  rw [← H]
  exact szR_zero hs
theorem sz_first {α : Type} {h : α → Int} (hn : ∀ x, 0 ≤ h x) {xs : List α} {left r : Int} (H : szR ((xs.length : Int) + sums h xs) left = r) (hle : (xs.length : Int) ≤ left) : szR (sums h (xs.drop (0 : Int).toNat)) (left - xs.length) = r := by
  rw [← H]
  have b := sums_nn hn xs
  show szR (sums h xs) _ = _
  unfold szR
  split <;> split <;> omega
theorem sz_part {a b left : Int} (h : a ≤ left) : szR (a + b) left = szR b (left - a) := by
  unfold szR
  split <;> split <;> omega
variable {w W W' : World} {o o2 : Obj} {cs ds : Array Value} {t u : TypeId}
theorem box (hb : Below (W.alloc (.cells cs t)).heap.size (W.alloc (.cells cs t)) W') : W'.heap[W.heap.size]? = some (.cells cs t (0, 0)) := blk_below (blk_new W (.cells cs t)) hb
theorem size1 : (W.alloc o).heap.size = W.heap.size + 1 := Array.size_push ..
theorem off1 (hb : Below (W.alloc o).heap.size (W.alloc o) W') : Below W.heap.size W W' := below_then (below_alloc (Below.refl _ _) o) (by rw [size1]; omega) hb
/-- Two boxes: the first one. -/
theorem boxA (hb : Below ((W.alloc (.cells cs t)).alloc o).heap.size ((W.alloc (.cells cs t)).alloc o) W') : W'.heap[W.heap.size]? = some (.cells cs t (0, 0)) := blk_below (blk_new W (.cells cs t)) (off1 hb)
theorem boxB (hb : Below ((W.alloc o).alloc (.cells cs t)).heap.size ((W.alloc o).alloc (.cells cs t)) W') : W'.heap[W.heap.size + 1]? = some (.cells cs t (0, 0)) := by
  have h := blk_below (blk_new (W.alloc o) (.cells cs t)) hb
  rwa [size1] at h
theorem then_ (h : Below w.heap.size w W) (hb : Below W.heap.size W W') : Below w.heap.size w W' := below_then h h.size hb
theorem atop (h : Below w.heap.size w W) : Below w.heap.size w (W.alloc o) := below_alloc h o
end Go.Proofs.Ytadkhkpchankjaa.FamW
