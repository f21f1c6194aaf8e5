/-
What a mark leaves of a world: the rows that were given to it hold other values, as many; the headers of the rows within stay; all else stays.
Conditions: none beside those that each theorem names.
-/
import Derived.Test.YtadkhkpchankjaaBW
import Derived.Test.YtadkhkpchankjaaWKept
set_option linter.unusedVariables false
namespace Go.Proofs.Ytadkhkpchankjaa.Mark
open Go.RowKit Go.Proofs.YtadkhkpchankjaaW.PrintWords

/-- Worlds that marks make of w: they build on a, write into blocks of P alone (none below B), and not where H says. -/
structure Mk (B : Nat) (a w : World) (P : Nat → Prop) (H : Nat → Nat → Prop) where
  now : World
  le : B ≤ a.heap.size
  inH : ∀ g i, H g i → g < w.heap.size
  ok : Below B a now
  kept : Kept w now P
  like : ∀ (k : Nat) (cs : Array Value) (t : TypeId), w.heap[k]? = some (.cells cs t (0, 0)) → ∃ cs' : Array Value, now.heap[k]? = some (.cells cs' t (0, 0)) ∧ cs'.size = cs.size
  same : ∀ g i, H g i → now.cell? ⟨g, i, none⟩ = w.cell? ⟨g, i, none⟩
section
variable {B : Nat} {a w : World} {P : Nat → Prop} {H : Nat → Nat → Prop}
def Mk.start (hle : B ≤ a.heap.size) (hH : ∀ g i, H g i → g < w.heap.size) (hb : Below B a w) : Mk B a w P H := ⟨w, hle, hH, hb, Kept.refl w P, fun _ cs _ h => ⟨cs, h, rfl⟩, fun _ _ _ => rfl⟩
theorem Mk.set (e : Mk B a w P H) {g i : Nat} (hP : P g) (hB : B ≤ g) (hH : ¬ H g i) (u : Value) : ∃ e' : Mk B a w P H, e.now.setCell ⟨g, i, none⟩ u = e'.now := by
  refine ⟨⟨e.now.setCell ⟨g, i, none⟩ u, e.le, e.inH, Below.setCell e.ok hB u, Kept.setCell e.kept (.inl hP) u, fun k cs t h => ?_, fun g' i' h => ?_⟩, rfl⟩
  · obtain ⟨cs', h1, h2⟩ := e.like k cs t h
    by_cases hk : k = g
    · subst hk
      exact ⟨_, blk_set h1 i u, by rw [Array.size_setIfInBounds]; exact h2⟩
    · exact ⟨cs', blk_far h1 hk u, h2⟩
  · rw [World.cell?_setCell_other _ _ _ _ (by
      intro hq
      simp only [Addr.mk.injEq] at hq
      obtain ⟨rfl, rfl, _⟩ := hq
      exact hH h)]
    exact e.same g' i' h
theorem Mk.next (e : Mk B a w P H) {W : World} (hb : Below e.now.heap.size e.now W) : ∃ e' : Mk B a w P H, W = e'.now := by
  refine ⟨⟨W, e.le, e.inH, below_then e.ok (Nat.le_trans e.le e.ok.size) hb, e.kept.below hb, fun k cs t h => ?_, fun g i h => ?_⟩, rfl⟩
  · obtain ⟨cs', h1, h2⟩ := e.like k cs t h
    exact ⟨cs', (hb.block k (Array.getElem?_eq_some_iff.1 h1).1).trans h1, h2⟩
  · have hlt : g < e.now.heap.size := Nat.lt_of_lt_of_le (e.inH g i h) e.kept.1
    have : W.cell? ⟨g, i, none⟩ = e.now.cell? ⟨g, i, none⟩ := by simp only [World.cell?, hb.block g hlt]
    rw [this]
    exact e.same g i h
theorem Mk.cell (e : Mk B a w P H) {g i : Nat} {cs : Array Value} {t : TypeId} (h : w.heap[g]? = some (.cells cs t (0, 0))) (hi : i < cs.size) : ∃ u, e.now.cell? ⟨g, i, none⟩ = some u := by
  obtain ⟨cs', h1, h2⟩ := e.like g cs t h
  have hi' : i < cs'.size := by omega
  exact ⟨cs'[i], by simp [World.cell?, h1, hi']⟩
theorem Mk.frz (e : Mk B a w P H) {g i : Nat} {cs : Array Value} {t : TypeId} (h : w.heap[g]? = some (.cells cs t (0, 0))) : e.now.frozen? ⟨g, i, none⟩ = false := by
  obtain ⟨cs', h1, h2⟩ := e.like g cs t h
  simp [World.frozen?, h1]
/-- A call that only reads or makes. -/
theorem Mk.calls {Pg : Program} {f : FuncId} {args : Array Value} {v : Value} {e : Mk B a w P H} {Q : Ending → World → Prop} (h : Calls Pg f args e.now fun r W => r = .returned v ∧ Below e.now.heap.size e.now W) (k : ∀ e' : Mk B a w P H, Q (.returned v) e'.now) : Calls Pg f args e.now Q :=
  h.mono fun r W ⟨hr, hb⟩ => by
    obtain ⟨e', rfl⟩ := e.next hb
    rw [hr]
    exact k e'
/-- A row that may be marked: each element lies in a block of P, and may be written at the offsets of F. -/
def Rw (w : World) (B : Nat) (P : Nat → Prop) (H : Nat → Nat → Prop) (t : TypeId) (sz : Nat) (F : Nat → Prop) (A : Option Addr) (n : Nat) : Prop :=
  ∀ i, i < n → ∃ (g : Nat) (cs : Array Value), A = some ⟨g, 0, none⟩ ∧ w.heap[g]? = some (.cells cs t (0, 0)) ∧ (i + 1) * sz ≤ cs.size ∧ P g ∧ B ≤ g ∧ ∀ j, j < sz → F j → ¬ H g (i * sz + j)
/-- What may be written of element i, whatever marks were made. -/
theorem Rw.open_ {t : TypeId} {sz : Nat} {F : Nat → Prop} {A : Option Addr} {n : Nat} (h : Rw w B P H t sz F A n) {i : Nat} (hi : i < n) :
    ∃ g, A = some ⟨g, 0, none⟩ ∧ (∀ j, j < sz → ∀ e : Mk B a w P H, ∃ u, e.now.cell? ⟨g, i * sz + j, none⟩ = some u) ∧ (∀ j (e : Mk B a w P H), e.now.frozen? ⟨g, j, none⟩ = false) ∧ (∀ j, j < sz → F j → ∀ (e : Mk B a w P H) (u : Value), ∃ e' : Mk B a w P H, e.now.setCell ⟨g, i * sz + j, none⟩ u = e'.now) := by
  obtain ⟨g, cs, hA, hb, hs, hP, hB, hH⟩ := h i hi
  refine ⟨g, hA, fun j hj e => e.cell hb ?_, fun j e => e.frz hb, fun j hj hF e u => e.set hP hB (hH j hj hF) u⟩
  have : (i + 1) * sz = i * sz + sz := Nat.succ_mul i sz
  omega
theorem Rw.of_R {α : Type} {d : Kd α} {t base : Nat} {ok : Nat → Prop} {A : Option Addr} {n c : Nat} {xs : List α} (z : α) (hR : d.R t w base ok (.slice A n c) xs) (hsz : 0 < d.sz) {F : Nat → Prop} (hP : ∀ k, ok k → P k) (hB : B ≤ base) (hH : ∀ g, (∃ cs, w.heap[g]? = some (.cells cs t (0, 0))) → ∀ i j, i < n → j < d.sz → F j → ¬ H g (i * d.sz + j)) : Rw w B P H t d.sz F A n := by
  intro i hi
  have hn := (Kd.R_reads' hR).1
  obtain ⟨g, cap, hv, hbase, _, cells, hc⟩ := Kd.R_form hR (by omega)
  injection hv with hA _ _
  subst hA
  obtain ⟨c', hcl, hM, hcc, _⟩ := Kd.R_elem hR z (i : Int) (by omega) (by omega)
  have hx := hcc (d.sz - 1) _ (List.getElem?_eq_getElem (by omega))
  refine ⟨g, cells, rfl, hc, ?_, hP g (hR.1 g rfl), Nat.le_trans hB hbase, fun j hj hF => hH g ⟨cells, hc⟩ i j hi hj hF⟩
  have hlt : i * d.sz + (d.sz - 1) < cells.size := by
    simp only [World.cell?, hc, Int.toNat_natCast] at hx
    simp only [Option.isSome_none, Bool.false_eq_true, if_false] at hx
    exact (Array.getElem?_eq_some_iff.1 hx).1
  have : (i + 1) * d.sz = i * d.sz + d.sz := Nat.succ_mul i d.sz
  omega
/-- Behind a box of one's own: the rows that may be marked, and marks of the elder worlds. -/
theorem Rw.boxed {t : TypeId} {sz : Nat} {F : Nat → Prop} {A : Option Addr} {n : Nat} (h : Rw w B P H t sz F A n) (e : Mk B a w P H) (o : Obj) : Rw (e.now.alloc o) B P (fun g i => H g i ∨ g = e.now.heap.size) t sz F A n := by
  intro i hi
  obtain ⟨g, cs, hA, hb, hs, hP, hB, hH⟩ := h i hi
  obtain ⟨cs', h1, h2⟩ := e.like g cs t hb
  have hlt : g < e.now.heap.size := blk_lt h1
  exact ⟨g, cs', hA, blk_alloc h1 o, by omega, hP, hB, fun j hj hF hc => hc.elim (hH j hj hF) (fun h => by omega)⟩
def Mk.box (e : Mk B a w P H) (o : Obj) : Mk B a (e.now.alloc o) P (fun g i => H g i ∨ g = e.now.heap.size) :=
  ⟨e.now.alloc o, e.le, fun g i h => by
    have hs : (e.now.alloc o).heap.size = e.now.heap.size + 1 := Array.size_push ..
    rcases h with h | h
    · have := e.inH g i h
      have := e.kept.1
      omega
    · omega, below_then e.ok (Nat.le_trans e.le e.ok.size) (below_alloc (Below.refl _ _) o), Kept.refl _ P, fun k cs t h => ⟨cs, h, rfl⟩, fun _ _ _ => rfl⟩
theorem Mk.unbox {e : Mk B a w P H} {o : Obj} (e1 : Mk B a (e.now.alloc o) P (fun g i => H g i ∨ g = e.now.heap.size)) : ∃ e' : Mk B a w P H, e1.now = e'.now := by
  refine ⟨⟨e1.now, e.le, e.inH, e1.ok, (e.kept.alloc o).then_ e1.kept (fun k h => .inl h), fun k cs t h => ?_, fun g i h => ?_⟩, rfl⟩
  · obtain ⟨cs', h1, h2⟩ := e.like k cs t h
    obtain ⟨cs2, h3, h4⟩ := e1.like k cs' t (blk_alloc h1 o)
    exact ⟨cs2, h3, by omega⟩
  · have hlt : g < e.now.heap.size := Nat.lt_of_lt_of_le (e.inH g i h) e.kept.1
    have h2 : (e.now.alloc o).cell? ⟨g, i, none⟩ = e.now.cell? ⟨g, i, none⟩ := by simp only [World.cell?, Below.heap_alloc e.now o g hlt]
    exact ((e1.same g i (.inl h)).trans h2).trans (e.same g i h)
theorem Mk.boxcell {e : Mk B a w P H} {cs : Array Value} {t : TypeId} (e1 : Mk B a (e.now.alloc (.cells cs t)) P (fun g i => H g i ∨ g = e.now.heap.size)) (i : Nat) {v : Value} (h : cs[i]? = some v) : e1.now.cell? ⟨e.now.heap.size, i, none⟩ = some v :=
  (e1.same _ i (.inr rfl)).trans ((blk_cell (heap_alloc_new e.now (.cells cs t)) i).trans h)
end
end Go.Proofs.Ytadkhkpchankjaa.Mark
