/-
Worlds that hold all that an elder one held: what a call that only reads, or makes, leaves behind; and a region whose operations only read, walked once in such worlds.
Conditions: none beside those that each theorem names.
-/
import Derived.WalkKit
import Derived.BigQuiet
import Derived.Below
import Derived.Test.YtieecjilnaijkaaWWords
set_option linter.unusedVariables false
namespace Go.Proofs.Ytieecjilnaijkaa.BW
open Go.RowKit Go.Proofs.YtieecjilnaijkaaW.PrintWords

/-- A world in which all that lay in w lies unturned. -/
structure On (w : World) where
  now : World
  ok : Below w.heap.size w now
def On.here (w : World) : On w := ⟨w, Below.refl _ _⟩
instance (w : World) : Nonempty (On w) := ⟨On.here w⟩
theorem On.cell {w : World} {p : Addr} {v : Value} (h : w.cell? p = some v) : ∀ e : On w, e.now.cell? p = some v := fun e => (e.ok.cell (World.block_lt_of_cell? w p h)).trans h
theorem On.next {w : World} (e : On w) {W : World} (h : Below e.now.heap.size e.now W) : ∃ e' : On w, W = e'.now := ⟨⟨W, below_then e.ok e.ok.size h⟩, rfl⟩
theorem On.drew {w : World} (e : On w) : ∃ e' : On w, e.now.drew = e'.now := ⟨⟨_, below_drew1 e.ok⟩, rfl⟩
theorem On.drewN {w : World} (e : On w) (n : Nat) : ∃ e' : On w, e.now.drewN n = e'.now := ⟨⟨_, pw_below_drewN e.ok n⟩, rfl⟩
theorem On.alloc {w : World} (e : On w) (o : Obj) : ∃ e' : On w, e.now.alloc o = e'.now := ⟨⟨_, below_alloc e.ok o⟩, rfl⟩
/-- What lies on a world made of e's by a block more lies on the elder one. -/
def On.up {w : World} (e : On w) {o : Obj} (e2 : On (e.now.alloc o)) : On w := ⟨e2.now, below_then (below_alloc e.ok o) (below_alloc e.ok o).size e2.ok⟩
theorem On.old {w : World} {e : On w} {o : Obj} {p : Addr} {v : Value} (h : ∀ e : On w, e.now.cell? p = some v) : ∀ e2 : On (e.now.alloc o), e2.now.cell? p = some v := fun e2 => h (e.up e2)
theorem On.new {w : World} {e : On w} {cs : Array Value} {t : TypeId} {i : Nat} {v : Value} (h : cs[i]? = some v) : ∀ e2 : On (e.now.alloc (.cells cs t)), e2.now.cell? ⟨e.now.heap.size, i, none⟩ = some v :=
  On.cell ((blk_cell (heap_alloc_new e.now (.cells cs t)) i).trans h)
theorem On.blk {w : World} {o : Obj} (e : On (w.alloc o)) : e.now.heap[w.heap.size]? = some o := (e.ok.block _ (Array.getElem?_eq_some_iff.1 (heap_alloc_new w o)).1).trans (heap_alloc_new w o)
/-- A world made of w by a block at once. -/
def On.boxed {w : World} {o : Obj} (e : On (w.alloc o)) : On w := ⟨e.now, below_then (below_alloc (Below.refl _ _) o) (below_alloc (Below.refl _ _) o).size e.ok⟩
theorem On.boxed_now {w : World} {o : Obj} (e : On (w.alloc o)) : e.boxed.now = e.now := rfl
def On.hereOf {w : World} {X : On w → Prop} (_ : ∀ e, X e) : On w := On.here w
theorem On.cellBox {w : World} {o : Obj} {p : Addr} {v : Value} {X : On (w.alloc o) → Prop} (_ : ∀ e, X e) (h : w.cell? p = some v) : ∀ e : On (w.alloc o), e.now.cell? p = some v := fun e => On.cell h e.boxed
theorem On.row {α : Type} {d : Kd α} {w : World} {A : Option Addr} {n : Nat} {xs : List α} (h : d.C w A n xs) (e : On w) : d.C e.now A n xs := Kd.C_below h e.ok
theorem On.val {α : Type} {d : Kd α} {w : World} {x : α} {cs : List Value} (h : d.K w x cs) (e : On w) : d.K e.now x cs := d.K_below e.ok h

section
variable {P : Program} {f : FuncId} {args : Array Value} {w : World} {v : Value}
/-- A callee's contract met on the way. -/
theorem call {e : On w} {Q : Ending → World → Prop} (h : Calls P f args e.now fun r W => r = .returned v ∧ Below e.now.heap.size e.now W) (k : ∀ e' : On w, Q (.returned v) e'.now) : Calls P f args e.now Q :=
  h.mono fun r W ⟨hr, hb⟩ => by
    obtain ⟨e', rfl⟩ := e.next hb
    rw [hr]
    exact k e'
theorem callD {e : On w} {Q : Ending → World → Prop} (h : Calls P f args e.now fun r W => r = .returned v ∧ Drawn0 e.now W) (k : ∀ e' : On w, Q (.returned v) e'.now) : Calls P f args e.now Q :=
  call (h.mono fun r W ⟨hr, hb⟩ => ⟨hr, hb.below⟩) k
/-- The same inside a region that draws its order. -/
theorem quiet {e : On w} (h : Calls P f args e.now fun r W => r = .returned v ∧ Below e.now.heap.size e.now W) : Calls P f args e.now fun r W => r = .returned v ∧ ∃ e' : On w, W = e'.now :=
  h.mono fun r W ⟨hr, hb⟩ => ⟨hr, e.next hb⟩
theorem quietD {e : On w} (h : Calls P f args e.now fun r W => r = .returned v ∧ Drawn0 e.now W) : Calls P f args e.now fun r W => r = .returned v ∧ ∃ e' : On w, W = e'.now :=
  h.mono fun r W ⟨hr, hb⟩ => ⟨hr, e.next hb.below⟩
/-- A region that draws its order, at the class of these worlds. -/
theorem region {id : Nat} {Q : Exit → Act → World → Prop} {a : Act} {w : World} {e : On w} {l : List Oper} (hm : P.follows .mixedOrders = true) (hB : Region.lexB .any l.toArray = true)
    (h : wpQuiet P l.toArray (fun W => ∃ e' : On w, W = e'.now) (fun a' => ∀ W, (∃ e' : On w, W = e'.now) → Q .normal a' W) l a) : (Code.region id l.toArray true).wp P Q a e.now :=
  wp_region_quiet (C := fun W => ∃ e' : On w, W = e'.now) hm hB e.drew (by simpa using h)
theorem regionAt {id : Nat} {Q : Exit → Act → World → Prop} {a : Act} {W : World} {l : List Oper} (hm : P.follows .mixedOrders = true) (hB : Region.lexB .any l.toArray = true)
    (h : wpQuiet P l.toArray (fun W' => ∃ e' : On W, W' = e'.now) (fun a' => ∀ W', (∃ e' : On W, W' = e'.now) → Q .normal a' W') l a) : (Code.region id l.toArray true).wp P Q a W :=
  wp_region_quiet (C := fun W' => ∃ e' : On W, W' = e'.now) hm hB (On.here W).drew (by simpa using h)
end
theorem cells3 {w : World} {g : Nat} {t : TypeId} {v0 v1 v2 : Value} (h : w.heap[g]? = some (.cells #[v0, v1, v2] t (0, 0))) : w.cell? ⟨g, 0, none⟩ = some v0 ∧ w.cell? ⟨g, 1, none⟩ = some v1 ∧ w.cell? ⟨g, 2, none⟩ = some v2 := ⟨(blk_cell h 0).trans rfl, (blk_cell h 1).trans rfl, (blk_cell h 2).trans rfl⟩
theorem frozens3 {w : World} {g : Nat} {t : TypeId} {v0 v1 v2 : Value} (h : w.heap[g]? = some (.cells #[v0, v1, v2] t (0, 0))) : w.frozen? ⟨g, 0, none⟩ = false ∧ w.frozen? ⟨g, 1, none⟩ = false ∧ w.frozen? ⟨g, 2, none⟩ = false := ⟨blk_frozen h 0, blk_frozen h 1, blk_frozen h 2⟩
theorem cells5 {w : World} {g : Nat} {t : TypeId} {v0 v1 v2 v3 v4 : Value} (h : w.heap[g]? = some (.cells #[v0, v1, v2, v3, v4] t (0, 0))) : w.cell? ⟨g, 0, none⟩ = some v0 ∧ w.cell? ⟨g, 1, none⟩ = some v1 ∧ w.cell? ⟨g, 2, none⟩ = some v2 ∧ w.cell? ⟨g, 3, none⟩ = some v3 ∧ w.cell? ⟨g, 4, none⟩ = some v4 := ⟨(blk_cell h 0).trans rfl, (blk_cell h 1).trans rfl, (blk_cell h 2).trans rfl, (blk_cell h 3).trans rfl, (blk_cell h 4).trans rfl⟩
theorem frozens5 {w : World} {g : Nat} {t : TypeId} {v0 v1 v2 v3 v4 : Value} (h : w.heap[g]? = some (.cells #[v0, v1, v2, v3, v4] t (0, 0))) : w.frozen? ⟨g, 0, none⟩ = false ∧ w.frozen? ⟨g, 1, none⟩ = false ∧ w.frozen? ⟨g, 2, none⟩ = false ∧ w.frozen? ⟨g, 3, none⟩ = false ∧ w.frozen? ⟨g, 4, none⟩ = false := ⟨blk_frozen h 0, blk_frozen h 1, blk_frozen h 2, blk_frozen h 3, blk_frozen h 4⟩
theorem cells14 {w : World} {g : Nat} {t : TypeId} {v0 v1 v2 v3 v4 v5 v6 v7 v8 v9 v10 v11 v12 v13 : Value} (h : w.heap[g]? = some (.cells #[v0, v1, v2, v3, v4, v5, v6, v7, v8, v9, v10, v11, v12, v13] t (0, 0))) : w.cell? ⟨g, 0, none⟩ = some v0 ∧ w.cell? ⟨g, 1, none⟩ = some v1 ∧ w.cell? ⟨g, 2, none⟩ = some v2 ∧ w.cell? ⟨g, 3, none⟩ = some v3 ∧ w.cell? ⟨g, 4, none⟩ = some v4 ∧ w.cell? ⟨g, 5, none⟩ = some v5 ∧ w.cell? ⟨g, 6, none⟩ = some v6 ∧ w.cell? ⟨g, 7, none⟩ = some v7 ∧ w.cell? ⟨g, 8, none⟩ = some v8 ∧ w.cell? ⟨g, 9, none⟩ = some v9 ∧ w.cell? ⟨g, 10, none⟩ = some v10 ∧ w.cell? ⟨g, 11, none⟩ = some v11 ∧ w.cell? ⟨g, 12, none⟩ = some v12 ∧ w.cell? ⟨g, 13, none⟩ = some v13 := ⟨(blk_cell h 0).trans rfl, (blk_cell h 1).trans rfl, (blk_cell h 2).trans rfl, (blk_cell h 3).trans rfl, (blk_cell h 4).trans rfl, (blk_cell h 5).trans rfl, (blk_cell h 6).trans rfl, (blk_cell h 7).trans rfl, (blk_cell h 8).trans rfl, (blk_cell h 9).trans rfl, (blk_cell h 10).trans rfl, (blk_cell h 11).trans rfl, (blk_cell h 12).trans rfl, (blk_cell h 13).trans rfl⟩
theorem frozens14 {w : World} {g : Nat} {t : TypeId} {v0 v1 v2 v3 v4 v5 v6 v7 v8 v9 v10 v11 v12 v13 : Value} (h : w.heap[g]? = some (.cells #[v0, v1, v2, v3, v4, v5, v6, v7, v8, v9, v10, v11, v12, v13] t (0, 0))) : w.frozen? ⟨g, 0, none⟩ = false ∧ w.frozen? ⟨g, 1, none⟩ = false ∧ w.frozen? ⟨g, 2, none⟩ = false ∧ w.frozen? ⟨g, 3, none⟩ = false ∧ w.frozen? ⟨g, 4, none⟩ = false ∧ w.frozen? ⟨g, 5, none⟩ = false ∧ w.frozen? ⟨g, 6, none⟩ = false ∧ w.frozen? ⟨g, 7, none⟩ = false ∧ w.frozen? ⟨g, 8, none⟩ = false ∧ w.frozen? ⟨g, 9, none⟩ = false ∧ w.frozen? ⟨g, 10, none⟩ = false ∧ w.frozen? ⟨g, 11, none⟩ = false ∧ w.frozen? ⟨g, 12, none⟩ = false ∧ w.frozen? ⟨g, 13, none⟩ = false := ⟨blk_frozen h 0, blk_frozen h 1, blk_frozen h 2, blk_frozen h 3, blk_frozen h 4, blk_frozen h 5, blk_frozen h 6, blk_frozen h 7, blk_frozen h 8, blk_frozen h 9, blk_frozen h 10, blk_frozen h 11, blk_frozen h 12, blk_frozen h 13⟩
theorem cells16 {w : World} {g : Nat} {t : TypeId} {v0 v1 v2 v3 v4 v5 v6 v7 v8 v9 v10 v11 v12 v13 v14 v15 : Value} (h : w.heap[g]? = some (.cells #[v0, v1, v2, v3, v4, v5, v6, v7, v8, v9, v10, v11, v12, v13, v14, v15] t (0, 0))) : w.cell? ⟨g, 0, none⟩ = some v0 ∧ w.cell? ⟨g, 1, none⟩ = some v1 ∧ w.cell? ⟨g, 2, none⟩ = some v2 ∧ w.cell? ⟨g, 3, none⟩ = some v3 ∧ w.cell? ⟨g, 4, none⟩ = some v4 ∧ w.cell? ⟨g, 5, none⟩ = some v5 ∧ w.cell? ⟨g, 6, none⟩ = some v6 ∧ w.cell? ⟨g, 7, none⟩ = some v7 ∧ w.cell? ⟨g, 8, none⟩ = some v8 ∧ w.cell? ⟨g, 9, none⟩ = some v9 ∧ w.cell? ⟨g, 10, none⟩ = some v10 ∧ w.cell? ⟨g, 11, none⟩ = some v11 ∧ w.cell? ⟨g, 12, none⟩ = some v12 ∧ w.cell? ⟨g, 13, none⟩ = some v13 ∧ w.cell? ⟨g, 14, none⟩ = some v14 ∧ w.cell? ⟨g, 15, none⟩ = some v15 := ⟨(blk_cell h 0).trans rfl, (blk_cell h 1).trans rfl, (blk_cell h 2).trans rfl, (blk_cell h 3).trans rfl, (blk_cell h 4).trans rfl, (blk_cell h 5).trans rfl, (blk_cell h 6).trans rfl, (blk_cell h 7).trans rfl, (blk_cell h 8).trans rfl, (blk_cell h 9).trans rfl, (blk_cell h 10).trans rfl, (blk_cell h 11).trans rfl, (blk_cell h 12).trans rfl, (blk_cell h 13).trans rfl, (blk_cell h 14).trans rfl, (blk_cell h 15).trans rfl⟩
theorem frozens16 {w : World} {g : Nat} {t : TypeId} {v0 v1 v2 v3 v4 v5 v6 v7 v8 v9 v10 v11 v12 v13 v14 v15 : Value} (h : w.heap[g]? = some (.cells #[v0, v1, v2, v3, v4, v5, v6, v7, v8, v9, v10, v11, v12, v13, v14, v15] t (0, 0))) : w.frozen? ⟨g, 0, none⟩ = false ∧ w.frozen? ⟨g, 1, none⟩ = false ∧ w.frozen? ⟨g, 2, none⟩ = false ∧ w.frozen? ⟨g, 3, none⟩ = false ∧ w.frozen? ⟨g, 4, none⟩ = false ∧ w.frozen? ⟨g, 5, none⟩ = false ∧ w.frozen? ⟨g, 6, none⟩ = false ∧ w.frozen? ⟨g, 7, none⟩ = false ∧ w.frozen? ⟨g, 8, none⟩ = false ∧ w.frozen? ⟨g, 9, none⟩ = false ∧ w.frozen? ⟨g, 10, none⟩ = false ∧ w.frozen? ⟨g, 11, none⟩ = false ∧ w.frozen? ⟨g, 12, none⟩ = false ∧ w.frozen? ⟨g, 13, none⟩ = false ∧ w.frozen? ⟨g, 14, none⟩ = false ∧ w.frozen? ⟨g, 15, none⟩ = false := ⟨blk_frozen h 0, blk_frozen h 1, blk_frozen h 2, blk_frozen h 3, blk_frozen h 4, blk_frozen h 5, blk_frozen h 6, blk_frozen h 7, blk_frozen h 8, blk_frozen h 9, blk_frozen h 10, blk_frozen h 11, blk_frozen h 12, blk_frozen h 13, blk_frozen h 14, blk_frozen h 15⟩
end Go.Proofs.Ytieecjilnaijkaa.BW
