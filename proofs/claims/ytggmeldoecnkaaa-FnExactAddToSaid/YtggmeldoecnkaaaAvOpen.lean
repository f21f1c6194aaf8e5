/-
What reads of an argument as data of a type, told as the walks tell it; and what a law over such arguments comes to.
Conditions: none beside those that each theorem names.
-/
import Derived.ChangeArms
import Derived.Deep.Slices
import Derived.WideShapes
import Derived.DataElems
import Derived.Test.YtggmeldoecnkaaaAvGlue
set_option linter.unusedVariables false
namespace Go.Proofs.Ytggmeldoecnkaaa.Av
open Go.RowKit

/-- The cells cs hold ds. -/
def DK (w : World) (ds : List D) (cs : List Value) : Prop := cs.length = ds.length ∧ ∀ (j : Nat) (d : D), ds[j]? = some d → ∃ u, cs[j]? = some u ∧ TR w (fun k => k < w.heap.size) d u
theorem DK.one {w : World} {d : D} {u : Value} (h : TR w (fun k => k < w.heap.size) d u) : DK w [d] [u] :=
  ⟨rfl, fun j d' hj => match j, hj with | 0, hj => by cases hj; exact ⟨u, rfl, h⟩⟩
theorem DK.app {w : World} {ds ds' : List D} {cs cs' : List Value} (h : DK w ds cs) (h' : DK w ds' cs') : DK w (ds ++ ds') (cs ++ cs') := by
  refine ⟨by rw [List.length_append, List.length_append, h.1, h'.1], fun j d hj => ?_⟩
  rcases Nat.lt_or_ge j ds.length with q | q
  · rw [List.getElem?_append_left q] at hj
    obtain ⟨u, e1, e2⟩ := h.2 j d hj
    exact ⟨u, by rw [List.getElem?_append_left (by rw [h.1]; exact q)]; exact e1, e2⟩
  · rw [List.getElem?_append_right q] at hj
    obtain ⟨u, e1, e2⟩ := h'.2 _ d hj
    exact ⟨u, by rw [List.getElem?_append_right (by rw [h.1]; exact q), h.1]; exact e1, e2⟩
/-- Whatever reads as data of type t is, in its cells, the data d a of an a, and W of it. -/
def OpenD {α : Type} (P : Program) (t : TypeId) (n : Nat) (d : α → List D) (W : α → Prop) : Prop :=
  P.cellsOf t = n ∧ (∀ a, (d a).length = n) ∧ 0 < n ∧ ∀ {H : Type} (enc : TypeId × Value → H) (w : World) (base : Nat) (spare : Nat → Bool) (held : Bool) (fuel : Nat) (cs : List Value) (x : DataW H × List MemPlace),
    DataW.trod enc P w base spare held fuel t cs = some x → ∃ a, DK w (d a) cs ∧ W a
theorem od_list {α : Type} {n : Nat} {p : Nat → α → Prop} (h : ∀ i, i < n → ∃ y, p i y) : ∃ l : List α, l.length = n ∧ ∀ i y, l[i]? = some y → p i y := by
  induction n with
  | zero => exact ⟨[], rfl, fun i y h => by simp at h⟩
  | succ n ih =>
    obtain ⟨l, hl, hp⟩ := ih (fun i hi => h i (by omega))
    obtain ⟨y, hy⟩ := h n (by omega)
    refine ⟨l ++ [y], by simp [hl], fun i z hz => ?_⟩
    rcases Nat.lt_or_ge i l.length with hi | hi
    · rw [List.getElem?_append_left hi] at hz
      exact hp i z hz
    · obtain rfl : i = l.length := by
        have := (List.getElem?_eq_some_iff.1 hz).1
        simp at this
        omega
      have hz' : y = z := by simpa using hz
      subst hz'
      rw [hl]
      exact hy
section
variable {P : Program} {t : TypeId}
theorem od_int (k : IntKind) (ht : P.underlying t = some (.int k)) (hc : P.cellsOf t = 1) : OpenD P t 1 (fun n => [.v (.int k n)]) (fun n => (Lit.int k n).wf = true) :=
  ⟨hc, fun _ => rfl, Nat.one_pos, fun enc w base spare held fuel cs x h => by
    obtain ⟨n, rfl, _, hw⟩ := DataW.trod_int ht h
    exact ⟨n, .one (.v _ rfl), hw⟩⟩
theorem od_bool (ht : P.underlying t = some .bool) (hc : P.cellsOf t = 1) : OpenD P t 1 (fun b => [.v (.bool b)]) (fun _ => True) :=
  ⟨hc, fun _ => rfl, Nat.one_pos, fun enc w base spare held fuel cs x h => by
    obtain ⟨b, rfl, _⟩ := DataW.trod_bool ht h
    exact ⟨b, .one (.v _ rfl), trivial⟩⟩
theorem od_string (ht : P.underlying t = some .string) (hc : P.cellsOf t = 1) : OpenD P t 1 (fun s => [.v (.string s)]) (fun s => s.size ≤ maxLen) :=
  ⟨hc, fun _ => rfl, Nat.one_pos, fun enc w base spare held fuel cs x h => by
    obtain ⟨s, rfl, _, hs⟩ := DataW.trod_string ht h
    exact ⟨s, .one (.v _ rfl), hs⟩⟩
theorem od_slice {α : Type} {e : TypeId} {n : Nat} {d : α → List D} {W : α → Prop} (ht : P.underlying t = some (.slice e)) (hc : P.cellsOf t = 1) (he : OpenD P e n d W) :
    OpenD P t 1 (fun l : List α => [.sl (l.map d)]) (fun l => l.length ≤ maxLen ∧ ∀ x ∈ l, W x) :=
  ⟨hc, fun _ => rfl, Nat.one_pos, fun {H} enc w base spare held fuel cs x h => by
    rcases Go.Deep.open_slice ht h with ⟨rfl, _⟩ | ⟨a, len, cap, m, fu, D', Pl, rfl, _, hl, hm, hmm, _, hx⟩
    · exact ⟨[], .one (.nil none 0), by simp [maxLen], by simp⟩
    · have hlm : len ≤ m := by rw [hmm]; split <;> omega
      obtain ⟨hsz, hdn, hpos, he'⟩ := he
      obtain ⟨l, hll, hp⟩ := od_list (n := len) (p := fun i (y : α) => W y ∧ ∃ c : List Value, DK w (d y) c ∧ ∀ j u, c[j]? = some u → w.cell? (a.add (i * n + j)) = some u) (fun i hi => by
        obtain ⟨cs', h1, h2⟩ := hx i (by omega)
        obtain ⟨y, hK, hW⟩ := he' enc w base spare held fu cs' _ h2
        refine ⟨y, hW, cs', hK, fun j u hj => ?_⟩
        obtain ⟨_, hlen, hcell⟩ := World.cells?_some h1
        have hj' : j < cs'.length := (List.getElem?_eq_some_iff.1 hj).1
        have hq := hcell j (by rw [← hlen]; exact hj')
        rw [hj, hsz] at hq
        rw [← hq]
        rw [Addr.add_add])
      refine ⟨l, .one ?_, by omega, fun y hy => ?_⟩
      · by_cases h0 : len = 0
        · subst h0
          obtain rfl := List.eq_nil_of_length_eq_zero hll
          exact .nil (some a) cap
        · have hy0 := List.getElem?_eq_getElem (show 0 < l.length by omega)
          obtain ⟨_, c, hK, hcell⟩ := hp 0 _ hy0
          have hcl : c.length = n := hK.1.trans (hdn _)
          have c0 := hcell 0 _ (List.getElem?_eq_getElem (show 0 < c.length by omega))
          obtain ⟨hx2, cs, ty, fr, hb, _⟩ := cell_spot (show w.cell? a = some _ by simpa [Addr.add] using c0)
          have e : ∀ m u, w.cell? (a.add m) = some u → cs[a.off + m]? = some u := fun m u hu => by
            rw [hx2, Addr.add_lit] at hu
            simpa [World.cell?, hb] using hu
          have hll' : (l.map d).length = len := by rw [List.length_map, hll]
          have hv : Value.slice (some a) len cap = .slice (some ⟨a.block, a.off, none⟩) (l.map d).length cap := by rw [hll', ← hx2]
          rw [hv]
          have at_ : ∀ i j, i < l.length → j < n → ∃ y u, l[i]? = some y ∧ cs[a.off + (i * n + j)]? = some u ∧ ∃ dd, (d y)[j]? = some dd ∧ TR w (fun k => k < w.heap.size) dd u := fun i j hi hj => by
            have hy := List.getElem?_eq_getElem hi
            obtain ⟨_, c, hK, hcell⟩ := hp i _ hy
            have hdj := List.getElem?_eq_getElem (show j < (d l[i]).length by rw [hdn]; exact hj)
            obtain ⟨u, e1, e2⟩ := hK.2 j _ hdj
            exact ⟨_, u, hy, e _ u (hcell j u e1), _, hdj, e2⟩
          refine .row _ n a.block a.off cap cs ty fr (fun i j => (cs[a.off + (i * n + j)]?).getD undef) (by omega) ((Array.getElem?_eq_some_iff.1 hb).1) hb (fun i j hi hj => ?_) (fun i r hr => ?_) (fun i r j dd hr hd => ?_)
          · obtain ⟨y, u, _, e1, _⟩ := at_ i j (by omega) hj
            rw [e1]; rfl
          · obtain ⟨y, _, rfl⟩ := List.mem_map.1 (List.mem_of_getElem? hr)
            exact hdn y
          · rw [List.getElem?_map] at hr
            obtain ⟨y, hy, rfl⟩ := Option.map_eq_some_iff.1 hr
            have hi := (List.getElem?_eq_some_iff.1 hy).1
            have hj : j < n := by rw [← hdn y]; exact (List.getElem?_eq_some_iff.1 hd).1
            obtain ⟨y', u, f1, f2, dd', f3, f4⟩ := at_ i j hi hj
            rw [hy] at f1
            cases f1
            rw [hd] at f3
            cases f3
            simp only [f2, Option.getD_some]
            exact f4
      · obtain ⟨i, hi, rfl⟩ := List.mem_iff_getElem.1 hy
        exact (hp i _ (List.getElem?_eq_getElem hi)).1⟩
/-- The fields fl lie from cell off on, data d in line. -/
def OpenDAt {α : Type} (P : Program) (fl : List Field) (off n : Nat) (d : α → List D) (W : α → Prop) : Prop :=
  (∀ a, (d a).length = n) ∧ 0 < n ∧ ∀ {H : Type} (enc : TypeId × Value → H) (w : World) (base : Nat) (spare : Nat → Bool) (held : Bool) (fuel : Nat) (cs : List Value),
    (∀ f ∈ fl, ∃ x, DataW.trod enc P w base spare held fuel f.type ((cs.drop f.offset).take (P.cellsOf f.type)) = some x) → ∃ a, DK w (d a) ((cs.drop off).take n) ∧ W a
theorem oda_one {α : Type} {f : Field} {off n : Nat} {d : α → List D} {W : α → Prop} (ho : f.offset = off) (h : OpenD P f.type n d W) : OpenDAt P [f] off n d W :=
  ⟨h.2.1, h.2.2.1, fun enc w base spare held fuel cs hf => by
    obtain ⟨x, hx⟩ := hf f (by simp)
    obtain ⟨hs, _, _, he⟩ := h
    rw [hs, ho] at hx
    exact he enc w base spare held fuel _ x hx⟩
theorem oda_cons {α β : Type} {f : Field} {fl : List Field} {off n m : Nat} {d : α → List D} {d' : β → List D} {W : α → Prop} {W' : β → Prop} (ho : f.offset = off) (h : OpenD P f.type n d W) (hr : OpenDAt P fl (off + n) m d' W') :
    OpenDAt P (f :: fl) off (n + m) (fun p : α × β => d p.1 ++ d' p.2) (fun p => W p.1 ∧ W' p.2) :=
  ⟨fun a => by rw [List.length_append, h.2.1, hr.1], by have := hr.2.1; omega, fun enc w base spare held fuel cs hf => by
    obtain ⟨x, hx⟩ := hf f (by simp)
    obtain ⟨hs, _, _, he⟩ := h
    rw [hs, ho] at hx
    obtain ⟨a, ha, hwa⟩ := he enc w base spare held fuel _ x hx
    obtain ⟨b, hb, hwb⟩ := hr.2.2 enc w base spare held fuel cs (fun g hg => hf g (by simp [hg]))
    refine ⟨(a, b), ?_, hwa, hwb⟩
    rw [List.take_add, List.drop_drop]
    exact ha.app hb⟩
theorem od_struct {α β : Type} {fs : Array Field} {n n' : Nat} {d : α → List D} {W : α → Prop} (ht : P.underlying t = some (.struct fs)) (hc : P.cellsOf t = n) (h : OpenDAt P fs.toList 0 n' d W) (e : n' = n)
    (g : α → β) {d' : β → List D} (hd : ∀ a, d' (g a) = d a) (hn : ∀ b, (d' b).length = n) {W' : β → Prop} (hW : ∀ a, W a → W' (g a)) : OpenD P t n d' W' :=
  ⟨hc, hn, by have := h.2.1; omega, fun enc w base spare held fuel cs x hx => by
    subst e
    obtain ⟨xs, fu, _, _, hlen, hxs, hf⟩ := DataW.trod_struct ht hx
    obtain ⟨a, ha, hwa⟩ := h.2.2 enc w base spare held fu cs (fun fd hfd => by
      obtain ⟨i, hi, rfl⟩ := List.mem_iff_getElem.1 hfd
      have hi' : i < fs.size := by simpa using hi
      refine ⟨xs[i]'(by omega), ?_⟩
      rw [hf i _ (by simp [hi'])]
      simp [List.getElem?_eq_getElem (show i < xs.length by omega)])
    refine ⟨g a, ?_, hW a hwa⟩
    rw [hd]
    rw [List.drop_zero, List.take_of_length_le (by omega)] at ha
    exact ha⟩
end
/-! ### the arguments of a law -/
/-- No block is handed over: what is there is there, and all of it is only read. -/
def g0 (W : World) : Env := ⟨fun _ => undef, fun k => W.heap.size ≤ k⟩
theorem TR.arg {W : World} {d : D} {u : Value} (h : TR W (fun k => k < W.heap.size) d u) : VR (g0 W) (fun _ => none) (lookH []) W (.e (.c (.d d))) u :=
  h.move fun k hk => ⟨⟨⟨hk, fun b B c h => by cases h⟩, fun h => by cases h⟩, rfl⟩
theorem DK.arg {W : World} {ds : List D} {cs : List Value} (h : DK W ds cs) : VR (g0 W) (fun _ => none) (lookH []) W (.e (.agg (ds.map .d))) (.agg cs.toArray) := by
  refine ⟨cs.toArray, rfl, by rw [List.size_toArray, List.length_map]; exact h.1, fun j c hj => ?_⟩
  rw [List.getElem?_map] at hj
  obtain ⟨d, hd, rfl⟩ := Option.map_eq_some_iff.1 hj
  obtain ⟨u, e1, e2⟩ := h.2 j d hd
  exact ⟨u, by simpa using e1, e2.move fun k hk => ⟨⟨⟨hk, fun b B c h => by cases h⟩, fun h => by cases h⟩, rfl⟩⟩
section
variable {α : Type} {P : Program} {t : TypeId} {n : Nat} {d : α → List D} {W : α → Prop} {H : Type} {enc : TypeId × Value → H} {w : World} {base b0 : Nat} {spare : Nat → Bool} {held : Bool} {r : Reach} {v : Value} {dt : DataW H} {p : List MemPlace}
theorem arg_sl {e : TypeId} {W : List α → Prop} (ht : P.underlying t = some (.slice e)) (ho : OpenD P t 1 (fun l : List α => [.sl (l.map d)]) W) (hv : Value.okWide P w r b0 t v) (h : DataW.Trod enc P w base spare held t v dt p) :
    ∃ l : List α, VR (g0 w) (fun _ => none) (lookH []) w (.e (.c (.d (.sl (l.map d))))) v ∧ W l := by
  obtain ⟨A, m, c, rfl⟩ := Go.WideShapes.okWide_slice ht hv
  obtain ⟨fuel, hf⟩ := h
  obtain ⟨l, hK, hW⟩ := ho.2.2.2 enc w base spare held fuel _ _ hf
  obtain ⟨u, e1, e2⟩ := hK.2 0 _ rfl
  simp only [Value.cells] at e1
  cases e1
  exact ⟨l, e2.arg, hW⟩
theorem arg_st {fs : Array Field} (ht : P.underlying t = some (.struct fs)) (ho : OpenD P t n d W) (hv : Value.okWide P w r b0 t v) (h : DataW.Trod enc P w base spare held t v dt p) :
    ∃ x : α, VR (g0 w) (fun _ => none) (lookH []) w (.e (.agg ((d x).map .d))) v ∧ W x := by
  obtain ⟨cs, rfl, _⟩ := Go.WideShapes.okWide_struct ht hv
  obtain ⟨fuel, hf⟩ := h
  obtain ⟨x, hK, hW⟩ := ho.2.2.2 enc w base spare held fuel _ _ hf
  exact ⟨x, by have := hK.arg; simpa [Value.cells] using this, hW⟩
end
/-- A law over arguments. -/
theorem law_over {P : Program} {f : FuncId} {args : List AV} {vs : Array Value} {W : World} (hf : ∃ r0 : Bool, (r0 = true) ∧ Fn P f args (lookH []) (.e (.c (.d (.v (.bool r0))))) (lookH [])) (hs : vs.size = args.length)
    (ha : ∀ (j : Nat) (a : AV), args[j]? = some a → ∃ v, vs[j]? = some v ∧ VR (g0 W) (fun _ => none) (lookH []) W a v) : Calls P f vs W fun e w' => e = .returned (.bool true) ∧ Below W.heap.size W w' := by
  obtain ⟨r0, rfl, hfn⟩ := hf
  refine (hfn (fun _ => undef) (fun k => W.heap.size ≤ k) W (fun _ => none) vs (fun _ h => h) (fun b B h => by cases h) (fun b b' B B' k c c' h => by cases h) hs ha).mono fun e w' ⟨v, ι', hv, hk, _, _, _, _, hvr⟩ => ?_
  subst hv
  have hvr : TR w' _ (.v (.bool true)) v := hvr
  cases hvr with | v _ _ =>
  exact ⟨rfl, (hk.mono fun k ⟨b, B, c, h, _⟩ => by cases h).below⟩
end Go.Proofs.Ytggmeldoecnkaaa.Av
