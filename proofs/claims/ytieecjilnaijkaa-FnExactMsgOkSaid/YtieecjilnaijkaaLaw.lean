/-
Steps of a law's walk: a box that a walk has put down, and what lies elsewhere.
Conditions: none beside those that each theorem names.
-/
import Derived.Test.YtieecjilnaijkaaBW
import Derived.Test.YtieecjilnaijkaaWKept
set_option linter.unusedVariables false
namespace Go.Proofs.Ytieecjilnaijkaa.Law
open Go.RowKit Go.Proofs.YtieecjilnaijkaaW.PrintWords
variable {w W W' W2 : World} {o : Obj} {cs : Array Value} {t : TypeId}
theorem boxed (hb : Below (W.alloc o).heap.size (W.alloc o) W') : Below W.heap.size W W' := below_then (below_alloc (Below.refl _ _) o) (by rw [show (W.alloc o).heap.size = W.heap.size + 1 from Array.size_push ..]; omega) hb
theorem box (hb : Below (W.alloc (.cells cs t)).heap.size (W.alloc (.cells cs t)) W') : W'.heap[W.heap.size]? = some (.cells cs t (0, 0)) := blk_below (blk_new W (.cells cs t)) hb
theorem lt (hb : Below (W.alloc o).heap.size (W.alloc o) W') : W.heap.size < W'.heap.size := by
  have h := hb.size
  rw [show (W.alloc o).heap.size = W.heap.size + 1 from Array.size_push ..] at h
  omega
theorem then_ (h : Below w.heap.size w W) (hb : Below W.heap.size W W') : Below w.heap.size w W' := below_then h h.size hb
theorem atop (h : Below w.heap.size w W) : Below w.heap.size w (W.alloc o) := below_alloc h o
end Go.Proofs.Ytieecjilnaijkaa.Law
