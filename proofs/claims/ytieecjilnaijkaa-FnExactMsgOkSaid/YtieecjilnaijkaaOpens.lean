/-
What reads of an argument as data of a type is of that type's kind, and right: by the type's shape.
Conditions: none beside those that each theorem names.
-/
import Derived.ChangeArms
import Derived.Deep.Slices
import Derived.WideShapes
import Derived.DataElems
import Derived.Test.YtieecjilnaijkaaWWords
set_option linter.unusedVariables false
namespace Go.Proofs.Ytieecjilnaijkaa.Opens
open Go.RowKit Go.Proofs.YtieecjilnaijkaaW.PrintWords

/-- Whatever reads as data of type t is, in its cells, of kind d, and W of it. -/
def Opens {α : Type} (P : Program) (t : TypeId) (d : Kd α) (W : α → Prop) : Prop :=
  P.cellsOf t = d.sz ∧ ∀ {H : Type} (enc : TypeId × Value → H) (w : World) (base : Nat) (spare : Nat → Bool) (held : Bool) (fuel : Nat) (cs : List Value) (x : DataW H × List MemPlace),
    DataW.trod enc P w base spare held fuel t cs = some x → ∃ a, d.K w a cs ∧ W a

theorem list_of_lt {α : Type} {n : Nat} {p : Nat → α → Prop} (h : ∀ i, i < n → ∃ y, p i y) : ∃ l : List α, l.length = n ∧ ∀ i y, l[i]? = some y → p i y := by
  induction n with
  | zero => exact ⟨[], rfl, fun i y h => by simp at h⟩
  | succ n ih =>
    obtain ⟨l, hl, hp⟩ := ih (fun i hi => h i (by omega))
    obtain ⟨y, hy⟩ := h n (by omega)
    refine ⟨l ++ [y], by simp [hl], fun i z hz => ?_⟩
    rcases Nat.lt_or_ge i l.length with hi | hi
    · rw [List.getElem?_append_left hi] at hz
      exact hp i z hz
    · have hi' : i = l.length := by
        have := (List.getElem?_eq_some_iff.1 hz).1
        simp at this
        omega
      subst hi'
      have hz' : y = z := by simpa using hz
      subst hz'
      rw [hl]
      exact hy

theorem opens_int {P : Program} {t : TypeId} (k : IntKind) (ht : P.underlying t = some (.int k)) (hc : P.cellsOf t = 1) : Opens P t (Kd.int k) (fun n => (Lit.int k n).wf = true) :=
  ⟨hc, fun enc w base spare held fuel cs x h => by
    obtain ⟨n, rfl, _, hw⟩ := DataW.trod_int ht h
    exact ⟨n, rfl, hw⟩⟩

theorem opens_bool {P : Program} {t : TypeId} (ht : P.underlying t = some .bool) (hc : P.cellsOf t = 1) : Opens P t Kd.bool (fun _ => True) :=
  ⟨hc, fun enc w base spare held fuel cs x h => by
    obtain ⟨b, rfl, _⟩ := DataW.trod_bool ht h
    exact ⟨b, rfl, trivial⟩⟩

theorem opens_string {P : Program} {t : TypeId} (ht : P.underlying t = some .string) (hc : P.cellsOf t = 1) : Opens P t Kd.string (fun s => s.size ≤ maxLen) :=
  ⟨hc, fun enc w base spare held fuel cs x h => by
    obtain ⟨s, rfl, _, hs⟩ := DataW.trod_string ht h
    exact ⟨s, rfl, hs⟩⟩

theorem opens_slice {α : Type} {P : Program} {t e : TypeId} {d : Kd α} {W : α → Prop} (ht : P.underlying t = some (.slice e)) (hc : P.cellsOf t = 1) (he : Opens P e d W) :
    Opens P t (Kd.slice e d) (fun l => l.length ≤ maxLen ∧ ∀ x ∈ l, W x) :=
  ⟨hc, fun {H} enc w base spare held fuel cs x h => by
    rcases Go.Deep.open_slice ht h with ⟨rfl, _⟩ | ⟨a, len, cap, m, n, D, Pl, rfl, _, hl, hm, hmm, _, hx⟩
    · exact ⟨[], ⟨none, 0, rfl, Nat.le_refl _, rfl, by simp, fun h => absurd h (by simp)⟩, by simp [maxLen], by simp⟩
    · have hlm : len ≤ m := by rw [hmm]; split <;> omega
      obtain ⟨hsz, he'⟩ := he
      obtain ⟨l, hll, hp⟩ := list_of_lt (n := len) (p := fun i (y : α) => W y ∧ ∃ c : List Value, c.length = d.sz ∧ d.K w y c ∧ ∀ j u, c[j]? = some u → w.cell? (a.add (i * d.sz + j)) = some u) (fun i hi => by
        obtain ⟨cs', h1, h2⟩ := hx i (by omega)
        obtain ⟨y, hK, hW⟩ := he' enc w base spare held n cs' _ h2
        refine ⟨y, hW, cs', d.K_len hK, hK, fun j u hj => ?_⟩
        obtain ⟨_, hlen, hcell⟩ := World.cells?_some h1
        have hj' : j < cs'.length := (List.getElem?_eq_some_iff.1 hj).1
        have hq := hcell j (by rw [← hlen]; exact hj')
        rw [hj, hsz] at hq
        rw [← hq]
        rw [Addr.add_add])
      refine ⟨l, ⟨some a, cap, by rw [hll], by omega, rfl, by have : maxLen = 9223372036854775807 := rfl; omega, fun _ => ⟨a, rfl, fun j p hj => (hp j p hj).2⟩⟩, by omega, fun y hy => ?_⟩
      obtain ⟨i, hi, rfl⟩ := List.mem_iff_getElem.1 hy
      exact (hp i _ (List.getElem?_eq_getElem hi)).1⟩

/-- The fields fl lie from cell off on, of kind d in line. -/
def OpensAt {α : Type} (P : Program) (fl : List Field) (off : Nat) (d : Kd α) (W : α → Prop) : Prop :=
  ∀ {H : Type} (enc : TypeId × Value → H) (w : World) (base : Nat) (spare : Nat → Bool) (held : Bool) (fuel : Nat) (cs : List Value),
    (∀ f ∈ fl, ∃ x, DataW.trod enc P w base spare held fuel f.type ((cs.drop f.offset).take (P.cellsOf f.type)) = some x) → ∃ a, d.K w a ((cs.drop off).take d.sz) ∧ W a

theorem opensAt_one {α : Type} {P : Program} {f : Field} {off : Nat} {d : Kd α} {W : α → Prop} (ho : f.offset = off) (h : Opens P f.type d W) : OpensAt P [f] off d W :=
  fun enc w base spare held fuel cs hf => by
    obtain ⟨x, hx⟩ := hf f (by simp)
    obtain ⟨hs, he⟩ := h
    rw [hs, ho] at hx
    exact he enc w base spare held fuel _ x hx

theorem opensAt_cons {α β : Type} {P : Program} {f : Field} {fl : List Field} {off : Nat} {d : Kd α} {d' : Kd β} {W : α → Prop} {W' : β → Prop} (ho : f.offset = off) (h : Opens P f.type d W) (hr : OpensAt P fl (off + d.sz) d' W') :
    OpensAt P (f :: fl) off (Kd.pair d d') (fun p => W p.1 ∧ W' p.2) :=
  fun enc w base spare held fuel cs hf => by
    obtain ⟨x, hx⟩ := hf f (by simp)
    obtain ⟨hs, he⟩ := h
    rw [hs, ho] at hx
    obtain ⟨a, ha, hwa⟩ := he enc w base spare held fuel _ x hx
    obtain ⟨b, hb, hwb⟩ := hr enc w base spare held fuel cs (fun g hg => hf g (by simp [hg]))
    refine ⟨(a, b), ⟨_, _, ?_, ha, hb⟩, hwa, hwb⟩
    show (cs.drop off).take (d.sz + d'.sz) = _
    rw [List.take_add, List.drop_drop]

theorem opens_struct {α β : Type} {P : Program} {t : TypeId} {fs : Array Field} {d : Kd α} {W : α → Prop} (ht : P.underlying t = some (.struct fs)) (hc : P.cellsOf t = d.sz) (h : OpensAt P fs.toList 0 d W)
    (f : β → α) (g : α → β) (hg : ∀ a, f (g a) = a) {W' : β → Prop} (hW : ∀ a, W a → W' (g a)) : Opens P t (Kd.iso d f) W' :=
  ⟨hc, fun enc w base spare held fuel cs x hx => by
    obtain ⟨xs, n, _, _, hlen, hxs, hf⟩ := DataW.trod_struct ht hx
    obtain ⟨a, ha, hwa⟩ := h enc w base spare held n cs (fun fd hfd => by
      obtain ⟨i, hi, rfl⟩ := List.mem_iff_getElem.1 hfd
      have hi' : i < fs.size := by simpa using hi
      refine ⟨xs[i]'(by omega), ?_⟩
      rw [hf i _ (by simp [hi'])]
      simp [List.getElem?_eq_getElem (show i < xs.length by omega)])
    refine ⟨g a, ?_, hW a hwa⟩
    show d.K w (f (g a)) cs
    rw [hg]
    rw [List.drop_zero, List.take_of_length_le (by omega)] at ha
    exact ha⟩

/-- An argument of a struct's type. -/
theorem arg_struct {α : Type} {P : Program} {t : TypeId} {fs : Array Field} {d : Kd α} {W : α → Prop} {H : Type} {enc : TypeId × Value → H} {w : World} {base b0 : Nat} {spare : Nat → Bool} {held : Bool} {r : Reach} {v : Value} {dt : DataW H} {p : List MemPlace}
    (ht : P.underlying t = some (.struct fs)) (ho : Opens P t d W) (hv : Value.okWide P w r b0 t v) (h : DataW.Trod enc P w base spare held t v dt p) :
    ∃ (x : α) (cs : List Value), v = .agg cs.toArray ∧ d.K w x cs ∧ W x := by
  obtain ⟨cs, rfl, _⟩ := Go.WideShapes.okWide_struct ht hv
  obtain ⟨fuel, hf⟩ := h
  obtain ⟨x, hK, hW⟩ := ho.2 enc w base spare held fuel _ _ hf
  exact ⟨x, cs.toList, by simp, hK, hW⟩

end Go.Proofs.Ytieecjilnaijkaa.Opens
