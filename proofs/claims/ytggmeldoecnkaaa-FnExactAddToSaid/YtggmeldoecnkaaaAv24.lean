/-
What slices.Insert needs: copies within a row of the call's own, told cell by cell; two slices of which one may be written do not overlap.
Conditions: none beside those that each theorem names.
-/
import Derived.Test.YtggmeldoecnkaaaAv22
import Derived.Shelf.Spec.SlicesInsertGrow
set_option linter.unusedVariables false
set_option linter.unusedSimpArgs false
namespace Go.Proofs.Ytggmeldoecnkaaa.Av
open Go.RowKit

/-- Since w: block g holds cur; nothing else of what there was is touched. -/
structure AtRow (w : World) (g : Nat) (ty : TypeId) (cur : Array Value) (W : World) : Prop where
  os : W.os = w.os
  tape : W.tape = w.tape
  output : W.output = w.output
  size : w.heap.size ≤ W.heap.size
  block : ∀ k, k < w.heap.size → k ≠ g → W.heap[k]? = w.heap[k]?
  row : W.heap[g]? = some (.cells cur ty (0, 0))
section
variable {P : Program} {w W : World} {g : Nat} {ty : TypeId} {cur : Array Value}
theorem AtRow.here (h : w.heap[g]? = some (.cells cur ty (0, 0))) : AtRow w g ty cur w := ⟨rfl, rfl, rfl, Nat.le_refl _, fun _ _ _ => rfl, h⟩
theorem AtRow.drew (h : AtRow w g ty cur W) : AtRow w g ty cur W.drew := ⟨h.os, h.tape, h.output, h.size, h.block, h.row⟩
theorem AtRow.set (h : AtRow w g ty cur W) (cs : Array Value) : AtRow w g ty cs (W.setRow g cs) := by
  refine ⟨h.os, h.tape, h.output, ?_, fun k hk hn => ?_, setRow_heap W g cur cs ty (0, 0) h.row⟩
  · have := h.size; simpa [World.setRow] using this
  · rw [← h.block k hk hn]
    simp [World.setRow, Array.getElem?_modify, Ne.symm hn]
theorem AtRow.new (w : World) (ty : TypeId) (cs : Array Value) : AtRow w w.heap.size ty cs (w.drew.alloc (.cells cs ty)) := by
  refine ⟨rfl, rfl, rfl, ?_, fun k hk hn => ?_, ?_⟩
  · show w.heap.size ≤ (w.heap.push _).size
    simp
  · show (w.heap.push _)[k]? = _
    rw [Array.getElem?_push]
    simp [hn]
  · show (w.heap.push _)[w.heap.size]? = _
    simp
theorem AtRow.copy (h : AtRow w g ty cur W) {S E : TypeId} {wd : Nat} (hu : P.underlying S = some (.slice E)) (hz : (P.info? E).map (·.size) = some wd) (t : TypeId) {o dLen dCap : Nat} {a : Addr} {sLen sCap : Nat} (cs : List Value) (hn : cs.length = Nat.min sLen dLen * wd)
    (hsrc : ∀ j v, cs[j]? = some v → W.cell? (a.add j) = some v) (hfit : o + cs.length ≤ cur.size) (h1 : ∀ v ∈ cs, v.oneCell' = true) :
    (Builtin.copy_ #[S, S] t #[.slice (some ⟨g, o, none⟩) dLen dCap, .slice (some a) sLen sCap]).run P W = .ok (goInt (Nat.min sLen dLen)) (W.setRow g (cur.toList.take o ++ cs ++ cur.toList.drop (o + cs.length)).toArray) := by
  have hl := run_loadCells_list (P := P) W a cs hsrc
  have hst := run_storeCells_at P g o ty cs 0 cur W h.row (by simpa using hfit) h1
  cases hq : P.info? E with
  | none => simp [hq] at hz
  | some i =>
    have hi : i.size = wd := by simpa [hq] using hz
    subst hi
    simp [Builtin.copy_, run_underlying hu, Builtin.lenOf, Builtin.firstCells, sizeOf, typeInfo, hq, ← hn, hl, hst]
end
/-! ### what the copies come to -/
theorem ins_room (L news : List Value) (p q d : Nat) (hpq : p ≤ q) (hq : q + d ≤ L.length) (hd : news.length = d) :
    let mid := (L.take q).drop p
    let A := L.take (p + d) ++ mid ++ L.drop (p + d + mid.length)
    (A.take p ++ news ++ A.drop (p + news.length)).take (q + d) = (L.take q).take p ++ news ++ (L.take q).drop p := by
  intro mid A
  have hm : mid.length = q - p := by simp only [mid, List.length_drop, List.length_take]; omega
  have h1 : A.take p = L.take p := by
    simp only [A]
    rw [List.append_assoc, List.take_append_of_le_length (by rw [List.length_take]; omega), List.take_take, Nat.min_eq_left (by omega)]
  have h2 : A.drop (p + news.length) = mid ++ L.drop (p + d + mid.length) := by
    simp only [A]
    rw [List.append_assoc, List.drop_append_of_le_length (by rw [List.length_take]; omega), hd, List.drop_eq_nil_of_le (by rw [List.length_take]; omega), List.nil_append]
  rw [h1, h2, List.take_take, Nat.min_eq_left hpq, ← List.append_assoc]
  rw [List.take_append_of_le_length (by simp only [List.length_append, List.length_take]; omega), List.take_of_length_le (by simp only [List.length_append, List.length_take]; omega)]
theorem ins_grow (xs Z news : List Value) (p q d : Nat) (hpq : p ≤ q) (hx : xs.length = q) (hZ : q - p + d ≤ Z.length) (hd : news.length = d) :
    let R := xs.take p ++ Z
    let A := R.take p ++ news ++ R.drop (p + news.length)
    (A.take (p + d) ++ xs.drop p ++ A.drop (p + d + (xs.drop p).length)).take (q + d) = xs.take p ++ news ++ xs.drop p := by
  intro R A
  have hp : (xs.take p).length = p := by rw [List.length_take]; omega
  have h1 : A.take (p + d) = xs.take p ++ news := by
    simp only [A, R]
    rw [List.take_append_of_le_length (l₁ := xs.take p) (by omega), List.take_of_length_le (l := xs.take p) (by omega), List.take_append_of_le_length (by rw [List.length_append]; omega), List.take_of_length_le (by rw [List.length_append]; omega)]
  have h3 : (xs.drop p).length = q - p := by rw [List.length_drop]; omega
  rw [h1, List.take_append_of_le_length (by simp only [List.length_append]; omega), List.take_of_length_le (by simp only [List.length_append]; omega)]
/-- The model's overlaps: the second may be written, so they lie apart. -/
theorem run_overlaps_free {P : Program} (w : World) (tS tR e : TypeId) (ht : P.underlying tS = some (.slice e)) (size : Nat) (hz : ∀ w, (Go.sizeOf e).run P w = .ok size w)
    (a b : Addr) (la ca lb cb : Nat) (hne : a.block ≠ b.block) (ha0 : a.spot = none) (hb0 : b.spot = none) {ca' cb' : Array Value} {tA tB : TypeId} {fA : Nat × Nat}
    (hsa : w.heap[a.block]? = some (.cells ca' tA fA)) (hsb : w.heap[b.block]? = some (.cells cb' tB (0, 0))) (hA : ca'.size ≠ 0) (hB : cb'.size ≠ 0) :
    (Extern.SlicesOverlaps.overlaps #[tS, tS] #[tR] #[.slice (some a) la ca, .slice (some b) lb cb]).run P w = .ok (.bool false) w := by
  have hnb : (a.block != b.block) = true := by simpa using hne
  have hnb' : (a.block == b.block) = false := by simpa using hne
  have s1 : w.shape? a.block = some (tA, ca'.size) := by simp [World.shape?, hsa]
  have s2 : w.shape? b.block = some (tB, cb'.size) := by simp [World.shape?, hsb]
  have f1 : w.frozen? b = false := by simp [World.frozen?, hsb]
  have f2 : w.frozen? { block := b.block, off := cb'.size } = false := by simp [World.frozen?, hsb]
  obtain ⟨ka, hka⟩ : ∃ k, ca'.size = k + 1 := ⟨ca'.size - 1, by omega⟩
  obtain ⟨kb, hkb⟩ : ∃ k, cb'.size = k + 1 := ⟨cb'.size - 1, by omega⟩
  rw [hka] at s1
  rw [hkb] at s2 f2
  change Sem.run P (α := Value) (do
    let some t := (#[tS, tS] : Array TypeId)[0]? | stuck "slices.overlaps: no parameter types"
    let .slice elem ← underlying t | stuck "slices.overlaps: slice type expected"
    let size ← sizeOf elem
    match (some a : Option Addr), (some b : Option Addr) with
    | some a, some b =>
      if la = 0 ∨ lb = 0 ∨ size = 0 then pure (Value.bool false)
      else if a.block != b.block && (← frozen a) && (← frozen b) then unsupported .addressObserved
      else do
        if a.block != b.block then do
          noView a; noView b
          if ← mayBeOne a b then return Value.bool ((← choose (.extern "sameAddr.stringBytes" 2)) == 1)
        pure (Value.bool (a.block == b.block && a.off < b.off + lb * size && b.off < a.off + la * size))
    | _, _ => pure (Value.bool false)) w = _
  by_cases h0 : la = 0 ∨ lb = 0 ∨ size = 0
  · simp [run_underlying ht, hz, h0]
  · cases hfa : w.frozen? a <;> cases hfe : w.frozen? { block := a.block, off := ka + 1 } <;>
      simp [run_underlying ht, hz, h0, hnb, hnb', frozen, noView, viewAt, mayBeOne, stringish, shape, Sem.run, s1, s2, hfa, hfe, f1, f2]
/-- What slices.Insert of one element does, whatever the road. -/
def InsP (P : Program) (f : FuncId) (E : TypeId) (wd bys : Nat) : Prop :=
  ∀ (w : World) (v : Value) (n i vb voff vc : Nat) (xs news : List Value) (vcur : Array Value) (vty : TypeId) (vfr : Nat × Nat), w.ownsRow 0 E wd v n xs → i ≤ n → (n + 1) * bys ≤ 140737488355328 → (∀ u ∈ xs, u.oneCell' = true) →
    w.heap[vb]? = some (.cells vcur vty vfr) → v.ownBlock ≠ some vb → news.length = wd → (∀ j u, news[j]? = some u → w.cell? ((⟨vb, voff, none⟩ : Addr).add j) = some u) → (∀ u ∈ news, u.oneCell' = true) →
    Calls P f #[v, .int .i64 i, .slice (some ⟨vb, voff, none⟩) 1 vc] w fun e w' => ∃ v', e = .returned v' ∧ w'.ownsRow 0 E wd v' (n + 1) (xs.take (i * wd) ++ news ++ xs.drop (i * wd)) ∧ w.grownBy w' v.ownBlock ∧ (v'.ownBlock = v.ownBlock ∨ v'.ownBlock = some w.heap.size)
end Go.Proofs.Ytggmeldoecnkaaa.Av
