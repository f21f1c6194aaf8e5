/-
Words for the walks of a law's own helpers: how much a list holds, told by what is left of it; a box that lies in a later world.
Conditions: none beside those that each theorem names.
-/
import Derived.Test.YtieecjilnaijkaaBase
import Derived.Test.YtieecjilnaijkaaBW
set_option linter.unusedVariables false
namespace Go.Proofs.Ytieecjilnaijkaa.FamW
open Go.RowKit Go.Proofs.YtieecjilnaijkaaW.PrintWords Go.Proofs.Ytieecjilnaijkaa.Base Go.Proofs.Ytieecjilnaijkaa.BW
theorem drop_at {α : Type} {xs : List α} {i : Int} (h0 : 0 ≤ i) (h1 : i < xs.length) (z : α) : xs.drop i.toNat = xs.getD i.toNat z :: xs.drop (i + 1).toNat := by
  have hi : i.toNat < xs.length := by omega
  rw [List.drop_eq_getElem_cons hi, List.getD_eq_getElem?_getD, List.getElem?_eq_getElem hi]
  rw [show (i + 1).toNat = i.toNat + 1 by omega]
  rfl
theorem sz_next {α : Type} {h : α → Int} (hn : ∀ x, 0 ≤ h x) {xs : List α} {i s r : Int} {z : α} (h0 : 0 ≤ i) (h1 : i < xs.length) (hs : 0 ≤ s) (H : szR (sums h (xs.drop i.toNat)) s = r) (hle : h (xs.getD i.toNat z) ≤ s) : szR (sums h (xs.drop (i + 1).toNat)) (s - h (xs.getD i.toNat z)) = r := by
  rw [drop_at h0 h1 z] at H
  rw [← H]
  have a := hn (xs.getD i.toNat z)
  have b := sums_nn hn (xs.drop (i + 1).toNat)
  show szR _ _ = szR (h (xs.getD i.toNat z) + sums h (xs.drop (i + 1).toNat)) s
  unfold szR
  split <;> split <;> omega
theorem sz_over {α : Type} {h : α → Int} (hn : ∀ x, 0 ≤ h x) {xs : List α} {i s r : Int} {z : α} (h0 : 0 ≤ i) (h1 : i < xs.length) (H : szR (sums h (xs.drop i.toNat)) s = r) (hle : s < h (xs.getD i.toNat z)) : r = -1 := by
  rw [drop_at h0 h1 z] at H
  rw [← H]
  have b := sums_nn hn (xs.drop (i + 1).toNat)
  exact szR_no (by show s < h (xs.getD i.toNat z) + sums h (xs.drop (i + 1).toNat); omega)
theorem sz_end {α : Type} {h : α → Int} {xs : List α} {i s r : Int} (h1 : (xs.length : Int) ≤ i) (hs : 0 ≤ s) (H : szR (sums h (xs.drop i.toNat)) s = r) : r = s := by
  rw [List.drop_eq_nil_of_le (by omega)] at H
  rw [← H]
  exact szR_zero hs
theorem sz_first {α : Type} {h : α → Int} (hn : ∀ x, 0 ≤ h x) {xs : List α} {left r : Int} (H : szR ((xs.length : Int) + sums h xs) left = r) (hle : (xs.length : Int) ≤ left) : szR (sums h (xs.drop (0 : Int).toNat)) (left - xs.length) = r := by
  rw [← H]
  have b := sums_nn hn xs
  show szR (sums h xs) _ = _
  unfold szR
  split <;> split <;> omega
theorem sz_part {a b left : Int} (h : a ≤ left) : szR (a + b) left = szR b (left - a) := by
  unfold szR
  split <;> split <;> omega
variable {w W W' : World} {o o2 : Obj} {cs ds : Array Value} {t u : TypeId}
theorem box (hb : Below (W.alloc (.cells cs t)).heap.size (W.alloc (.cells cs t)) W') : W'.heap[W.heap.size]? = some (.cells cs t (0, 0)) := blk_below (blk_new W (.cells cs t)) hb
theorem size1 : (W.alloc o).heap.size = W.heap.size + 1 := Array.size_push ..
theorem off1 (hb : Below (W.alloc o).heap.size (W.alloc o) W') : Below W.heap.size W W' := below_then (below_alloc (Below.refl _ _) o) (by rw [size1]; omega) hb
/-- Two boxes: the first one. -/
theorem boxA (hb : Below ((W.alloc (.cells cs t)).alloc o).heap.size ((W.alloc (.cells cs t)).alloc o) W') : W'.heap[W.heap.size]? = some (.cells cs t (0, 0)) := blk_below (blk_new W (.cells cs t)) (off1 hb)
theorem boxB (hb : Below ((W.alloc o).alloc (.cells cs t)).heap.size ((W.alloc o).alloc (.cells cs t)) W') : W'.heap[W.heap.size + 1]? = some (.cells cs t (0, 0)) := by
  have h := blk_below (blk_new (W.alloc o) (.cells cs t)) hb
  rwa [size1] at h
theorem then_ (h : Below w.heap.size w W) (hb : Below W.heap.size W W') : Below w.heap.size w W' := below_then h h.size hb
theorem atop (h : Below w.heap.size w W) : Below w.heap.size w (W.alloc o) := below_alloc h o
/-! ### a list made place by place -/
def upto {α β : Type} (f : α → β) (z : β) (xs : List α) (i : Int) : List β := (xs.take i.toNat).map f ++ List.replicate (xs.length - i.toNat) z
section
variable {α β : Type} {f : α → β} {z : β} {xs : List α} {i : Int}
theorem upto_zero : List.replicate xs.length z = upto f z xs 0 := by simp [upto]
theorem upto_len (h1 : i ≤ xs.length) : (upto f z xs i).length = xs.length := by
  unfold upto
  rw [List.length_append, List.length_map, List.length_take, List.length_replicate]
  omega
theorem upto_all (h1 : (xs.length : Int) ≤ i) : upto f z xs i = xs.map f := by
  unfold upto
  rw [List.take_of_length_le (by omega), show xs.length - i.toNat = 0 by omega]
  simp
theorem upto_set (h0 : 0 ≤ i) (h1 : i < xs.length) (d : α) {y : α} (hy : xs.getD i.toNat d = y) : (upto f z xs i).set i.toNat (f y) = upto f z xs (i + 1) := by
  have hi : i.toNat < xs.length := by omega
  have hg : xs[i.toNat] = y := by rw [← hy, List.getD_eq_getElem?_getD, List.getElem?_eq_getElem hi]; rfl
  unfold upto
  rw [show (i + 1).toNat = i.toNat + 1 by omega, List.take_succ_eq_append_getElem hi, hg, List.map_append, List.set_append_right _ _ (by simp; omega)]
  rw [show i.toNat - (List.map f (List.take i.toNat xs)).length = 0 by simp; omega, show xs.length - i.toNat = (xs.length - (i.toNat + 1)) + 1 by omega, List.replicate_succ]
  simp
end
/-! ### a part of a box written -/
def putSeg (cs : Array Value) (o : Nat) : List Value → Array Value
  | [] => cs
  | v :: r => putSeg (cs.setIfInBounds o v) (o + 1) r
theorem blk_seg {g : Nat} {T : TypeId} : ∀ (seg : List Value) (o : Nat) {W : World} {cs : Array Value}, W.heap[g]? = some (.cells cs T (0, 0)) → (W.setCells g o seg).heap[g]? = some (.cells (putSeg cs o seg) T (0, 0))
  | [], _, _, _, h => h
  | v :: r, o, _, _, h => blk_seg r (o + 1) (blk_set h o v)
section
variable {P : Program} {ops : Array Oper} {rest : List Oper} {op : Oper} {a : Act} {Q : Exit → Act → World → Prop}
theorem put (hgd : op.guard = none) (hN : op.dst = none) (ty : TypeId) (p x : Operand) (ho : op.op = .store ty p x) {g o' : Nat} {T : TypeId} {cs : Array Value} (val : Value) (seg : List Value) (haddr : a.eval p = .pointer (some ⟨g, o', none⟩)) (hx : a.eval x = val) (hu : val.cells.toList = seg)
    (ht : (P.info? ty).map (·.size) = some seg.length) (h1 : seg.all (·.oneCell') = true) (BO : W.heap[g]? = some (.cells cs T (0, 0))) (hfit : o' + seg.length ≤ cs.size)
    (h : ∀ W', W'.heap[g]? = some (.cells (putSeg cs o' seg) T (0, 0)) → W.grownBy W' (some g) → wpList P ops Q rest a W') : wpList P ops Q (op :: rest) a W := by
  refine wpList_plain hgd fun K hK => ?_
  have hrun := run_store_run (P := P) ty val seg BO hu ht hfit (fun q hq => List.all_eq_true.1 h1 q hq)
  unfold Oper.wp execOp
  simp only [ho, haddr, hx, Sem.run_bind, Sem.run_pure, Result.andThen_ok, hrun]
  show K (a.put op.dst undef) _
  rw [hN]
  obtain ⟨s1, s2, s3, s4⟩ := setCells_same g seg o' W
  exact hK _ _ (h _ (blk_seg seg o' BO) ⟨s1, s2, s3, by rw [s4]; exact Nat.le_refl _, fun k _ hk => setCells_far seg o' k (fun he => hk (by rw [he]))⟩)
end
theorem on (h : Below w.heap.size w W) {g : Nat} (hg : W.grownBy W' (some g)) (hge : w.heap.size ≤ g) : Below w.heap.size w W' := pw_below_grown h (some g) h.size hg (fun k hk => by cases hk; exact hge)
theorem blk_on {g g' : Nat} {o : Obj} (h : W.heap[g']? = some o) (hg : W.grownBy W' (some g)) (hne : g' ≠ g) : W'.heap[g']? = some o := blk_grown h hg (by simpa using hne)
theorem new3 {a b : Obj} : (((w.alloc a).alloc b).alloc o).heap[w.heap.size + 2]? = some o := by
  have h := blk_new ((w.alloc a).alloc b) o
  rwa [size1, size1] at h
theorem new2 {a b : Obj} : (((w.alloc a).alloc o).alloc b).heap[w.heap.size + 1]? = some o := by
  have h := blk_alloc (blk_new (w.alloc a) o) b
  rwa [size1] at h
theorem new1 {a b : Obj} : (((w.alloc o).alloc a).alloc b).heap[w.heap.size]? = some o := blk_alloc (blk_alloc (blk_new w o) a) b
theorem size3 {a b : Obj} : (((w.alloc a).alloc b).alloc o).heap.size = w.heap.size + 3 := by rw [size1, size1, size1]
end Go.Proofs.Ytieecjilnaijkaa.FamW
