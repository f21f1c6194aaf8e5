/-
A region that draws its order comes to what its operations come to one behind the other, where none of two that may change places turns what the other one reads.
Conditions: none beside those that each theorem names.
-/
import Derived.Test.YtggmeldoecnkaaaAv2
set_option linter.unusedVariables false
namespace Go.Proofs.Ytggmeldoecnkaaa.Av
open Go.RowKit Go.Proofs.YtggmeldoecnkaaaW.PrintLast

theorem up_lt (k : Nat) : up (fun j => decide (j < k)) k = fun j => decide (j < k + 1) := by
  funext j
  unfold up
  by_cases h : j = k
  · subst h; simp
  · rw [if_neg h]
    exact decide_eq_decide.2 ⟨fun h => by omega, fun h => by omega⟩
section
variable {P : Program} {N : Nat} {ops : Array Oper} {T0 : Tm} {H0 : Hp}
theorem Chain.all {l : List Oper} {T1 : Tm} {H1 : Hp} {rs' : List (Oper × Rec)} {T' : Tm} {H' : Hp} (h : Chain P N ops l T1 H1 rs' T' H') : ∀ (pre rs : List (Oper × Rec)), rs = pre ++ rs' →
    T1 = asM (fun j => decide (j < pre.length)) T0 (LT rs) → H1 = asM (fun j => decide (j < pre.length)) H0 (LH rs) →
    (∀ (i : Nat) (p : Oper × Rec), pre.length ≤ i → rs[i]? = some p → Good P N ops p.1 p.2 (asM (fun j => decide (j < i)) T0 (LT rs)) (asM (fun j => decide (j < i)) H0 (LH rs))) ∧
      T' = asM (fun j => decide (j < rs.length)) T0 (LT rs) ∧ H' = asM (fun j => decide (j < rs.length)) H0 (LH rs) ∧ rs'.map (·.1) = l := by
  induction h with
  | nil T H =>
    intro pre rs hrs hT hH
    rw [List.append_nil] at hrs
    subst hrs
    refine ⟨fun i p hi hp => ?_, hT, hH, rfl⟩
    have := (List.getElem?_eq_some_iff.1 hp).1
    omega
  | @cons o l r T H rs1 T' H' g hn h ih =>
    intro pre rs hrs hT hH
    have hk : rs[pre.length]? = some (o, r) := by rw [hrs]; simp
    have e1 : putD T o.dst r.v = asM (fun j => decide (j < (pre ++ [(o, r)]).length)) T0 (LT rs) := by
      rw [List.length_append, List.length_singleton, ← up_lt, show LT rs = (idx 0 rs []).map fun p => (p.1, wT p.2) from rfl, asM_up L_sorted (L_mem.2 ⟨(o, r), hk, rfl⟩) (fun j v x _ hj _ _ => by simp; omega), show ((idx 0 rs []).map fun p => (p.1, wT p.2)) = LT rs from rfl, ← hT]
      exact putD_eq T (o, r)
    have e2 : appL H r.hs = asM (fun j => decide (j < (pre ++ [(o, r)]).length)) H0 (LH rs) := by
      rw [List.length_append, List.length_singleton, ← up_lt, show LH rs = (idx 0 rs []).map fun p => (p.1, wH p.2) from rfl, asM_up L_sorted (L_mem.2 ⟨(o, r), hk, rfl⟩) (fun j v x _ hj _ _ => by simp; omega), show ((idx 0 rs []).map fun p => (p.1, wH p.2)) = LH rs from rfl, ← hH]
      rfl
    obtain ⟨i1, i2, i3, i4⟩ := ih (pre ++ [(o, r)]) rs (by rw [hrs, List.append_assoc]; rfl) e1 e2
    refine ⟨fun i p hi hp => ?_, i2, i3, by rw [List.map_cons, i4]⟩
    by_cases he : i = pre.length
    · subst he
      rw [hk] at hp
      cases hp
      rw [← hT, ← hH]
      exact g
    · exact i1 i p (by rw [List.length_append, List.length_singleton]; omega) hp
theorem Chain.whole {l : List Oper} {rs : List (Oper × Rec)} {T' : Tm} {H' : Hp} (h : Chain P N ops l T0 H0 rs T' H') :
    (∀ (i : Nat) (p : Oper × Rec), rs[i]? = some p → Good P N ops p.1 p.2 (asM (fun j => decide (j < i)) T0 (LT rs)) (asM (fun j => decide (j < i)) H0 (LH rs))) ∧
      T' = asM (fun j => decide (j < rs.length)) T0 (LT rs) ∧ H' = asM (fun j => decide (j < rs.length)) H0 (LH rs) ∧ rs.map (·.1) = l := by
  have h0 : ∀ {β : Type} (M : Nat → Option β) (L : List (Nat × List (Nat × Option β))), asM (fun j => decide (j < 0)) M L = M := by
    intro β M L
    induction L with
    | nil => rfl
    | cons p L ih => unfold asM; rw [if_neg (by simp)]; exact ih
  obtain ⟨a, b, c, d⟩ := h.all (T0 := T0) (H0 := H0) [] rs rfl (by rw [List.length_nil, h0]) (by rw [List.length_nil, h0])
  exact ⟨fun i p hp => a i p (Nat.zero_le _) hp, b, c, d⟩
end
theorem Rel.drew {N : Nat} {κ : Nat → Value} {w0 : World} {S : Wr} {ι : Nm} {T : Tm} {H : Hp} {a : Act} {w : World} (h : Rel N κ w0 S ι T H a w) : Rel N κ w0 S ι T H a w.drew := by
  refine (h.next (w' := w.drew) (ι' := ι) (H' := H) (fun _ => False) ⟨rfl, rfl, rfl, Nat.le_refl _, fun _ _ _ => rfl⟩ (fun _ h => h.elim) (fun b => .inl fun B hB => ⟨B, hB, rfl, rfl, rfl⟩) (fun b B k c hB hi => .inl ⟨B, c, hB, id, hi, fun _ => ⟨rfl, rfl⟩⟩) (fun b b' B B' x x' k h1 h2 => h.injO b b' B B' x x' k h1 h2)
    (fun _ b B hB => .inl ⟨hB, rfl, fun _ _ _ _ => id⟩)).1
def bitsOf (T : List (List Nat × List Nat)) : List Nat := T.foldl (fun B r => B ++ [upM B B.length r.1]) []
theorem region_draw {P : Program} {N : Nat} {ops : Array Oper} {id n : Nat} {T0 : Tm} {H0 : Hp} {rs : List (Oper × Rec)} {T' : Tm} {H' : Hp} (hm : P.follows .mixedOrders = true) (hn : ops.size = n) (hch : Chain P N ops ops.toList T0 H0 rs T' H')
    (hf : ∀ p, p ∈ rs → ∀ b, b ∈ p.2.nw → Fresh T0 H0 b)
    (hw : waitsOk (rtab .any ops).2 (bitsOf (rtab .any ops).2) = true) (hk : baseOk (rtab .any ops).2 (List.range n) = true) (hl : (lof (rtab .any ops).2.length (List.range n) (fun _ => false) == List.replicate n false && (List.range n).length == n) = true)
    (hok : okDraw ops (bitsOf (rtab .any ops).2) rs = true) {κ : Nat → Value} {w0 : World} {S : Wr} {Q : Exit → Act → World → Prop}
    (hQ : ∀ ι a w, Rel N κ w0 S ι T' H' a w → Q .normal a w) : ∀ ι a w, Rel N κ w0 S ι T0 H0 a w → (Code.region id ops true).wp P Q a w := by
  intro ι a w hr
  obtain ⟨hg, hT', hH', hops⟩ := hch.whole
  have hlen : rs.length = n := by rw [← hn, ← Array.length_toList, ← hops, List.length_map]
  have hop : ∀ (i : Nat) (p : Oper × Rec), rs[i]? = some p → ops[i]? = some p.1 := fun i p hp => by
    rw [← Array.getElem?_toList, ← hops, List.getElem?_map, hp]
    rfl
  have hlt : ∀ (j : Nat) (q : Oper × Rec), rs[j]? = some q → j < rs.length := fun j q hq => (List.getElem?_eq_some_iff.1 hq).1
  generalize hBB : bitsOf (rtab .any ops).2 = B at *
  refine start_ (S := fun _ => True) (ds := []) (Array.replicate n false) hm hn rfl trivial (fun _ => ?_)
  refine inv_ (T := rtab .any ops) (B := B) (List.range n) (fun b a w => ∃ ι, Rel N κ w0 S ι (asM b T0 (LT rs)) (asM b H0 (LH rs)) a w) rfl hw hk (by simpa using hl) ⟨ι, ?_⟩ (fun i hi => ?_) ?_
  · have h0 : ∀ {β : Type} (M : Nat → Option β) (L : List (Nat × List (Nat × Option β))), asM (fun j => false) M L = M := by
      intro β M L
      induction L with
      | nil => rfl
      | cons p L ih => unfold asM; rw [if_neg (by simp)]; exact ih
    rw [h0, h0]
    exact hr.drew
  · rintro b a w ⟨ι, hr⟩ hb hdep hsucc
    have hin : i < rs.length := by rw [hlen]; simpa using hi
    obtain ⟨p, hp⟩ : ∃ p, rs[i]? = some p := ⟨_, List.getElem?_eq_getElem hin⟩
    have hpre : ∀ j, j < rs.length → (B.getD i 0).testBit j = true → b j = true := fun j hj hbit => hdep j (by rw [hbit, Bool.and_true]; simp; omega)
    have hpost : ∀ j, j < rs.length → (B.getD j 0).testBit i = true → b j = false := fun j hj hbit => hsucc j (by rw [hbit, Bool.and_true]; simp; omega)
    -- places that i reads: whoever turns them has its place before or behind i
    have agree : ∀ {β : Type} (f : Oper × Rec → List (Nat × Option β)) (M : Nat → Option β) (x : Nat),
        (∀ j q, rs[j]? = some q → x ∈ keys (f q) → j ≠ i → (j < i → apart ops q p = false) ∧ (i < j → apart ops p q = false)) →
        asM b M ((idx 0 rs []).map fun p => (p.1, f p.2)) x = asM (fun j => decide (j < i)) M ((idx 0 rs []).map fun p => (p.1, f p.2)) x := by
      intro β f M x hx
      refine asM_agree fun j v hj hxv => ?_
      obtain ⟨q, hq, rfl⟩ := L_mem.1 hj
      rcases Nat.lt_trichotomy j i with h | h | h
      · rw [decide_eq_true h]
        have := (okDraw_pair hok h hq hp).1
        rw [(hx j q hq hxv (by omega)).1 h] at this
        exact hpre j (hlt j q hq) (this.resolve_right (by simp))
      · subst h
        rw [hb, decide_eq_false (Nat.lt_irrefl _)]
      · rw [decide_eq_false (by omega)]
        have := (okDraw_pair hok h hp hq).1
        rw [(hx j q hq hxv (by omega)).2 h] at this
        exact hpost j (hlt j q hq) (this.resolve_right (by simp))
    refine ⟨p.1, hop i p hp, fun K hK => ?_⟩
    refine hg i p hp _ _ (fun t ht => ?_) (fun x hx => ?_) (fun x hx => ?_) κ w0 S ι a w hr Q K fun ι' a' w' hr' => ?_
    · refine agree wT T0 t fun j q hq hxq hne => ⟨fun h => ?_, fun h => ?_⟩
      · unfold apart
        rw [show inter (keys (wT q)) (rdT ops p.1 ++ keys (wT p)) = true from List.any_eq_true.2 ⟨t, hxq, by simp [ht]⟩]
        rfl
      · unfold apart
        rw [show inter (rdT ops p.1) (keys (wT q)) = true from List.any_eq_true.2 ⟨t, ht, by simpa using hxq⟩]
        simp
    · refine agree wH H0 x fun j q hq hxq hne => ⟨fun h => ?_, fun h => ?_⟩
      · unfold apart
        rw [show inter (keys q.2.hs) (p.2.rd ++ keys p.2.hs) = true from List.any_eq_true.2 ⟨x, hxq, by simp [hx]⟩]
        simp
      · unfold apart
        rw [show inter p.2.rd (keys q.2.hs) = true from List.any_eq_true.2 ⟨x, hx, by simpa [wH] using hxq⟩]
        simp
    · have h0 := hf p (List.mem_of_getElem? hp) x hx
      have other : ∀ j q, rs[j]? = some q → b j = true → x ∉ idsL AV.ids (wT q) ++ idsL Blk.ids q.2.hs := by
        intro j q hq hbj hxq
        rcases Nat.lt_trichotomy j i with h | h | h
        · exact inter_false (okDraw_pair hok h hq hp).2 hx hxq
        · subst h; rw [hb] at hbj; cases hbj
        · have h1 := (okDraw_pair hok h hp hq).1
          have h2 : apart ops p q = false := by
            unfold apart
            rw [show inter p.2.nw (idsL AV.ids (wT q) ++ idsL Blk.ids q.2.hs) = true from List.any_eq_true.2 ⟨x, hx, by simpa using hxq⟩]
            simp
          rw [h2] at h1
          rw [hpost j (hlt j q hq) (h1.resolve_right (by simp))] at hbj
          cases hbj
      refine ⟨fun t y hy hxy => ?_, fun b' B' hB' hxy => ?_, h0.2.2⟩
      · rcases asM_from hy with h | ⟨j, v, hj, hbj, hm⟩
        · exact h0.1 t y h hxy
        · obtain ⟨q, hq, rfl⟩ := L_mem.1 hj
          exact other j q hq hbj (List.mem_append_left _ (idsL_mem hm hxy))
      · rcases asM_from hB' with h | ⟨j, v, hj, hbj, hm⟩
        · exact h0.2.1 b' B' h hxy
        · obtain ⟨q, hq, rfl⟩ := L_mem.1 hj
          exact other j q hq hbj (List.mem_append_right _ (idsL_mem hm hxy))
    · have hup : ∀ {β : Type} (f : Oper × Rec → List (Nat × Option β)) (M : Nat → Option β), (∀ j q x, rs[j]? = some q → i < j → x ∈ keys (f p) → x ∈ keys (f q) → apart ops p q = false) →
          asM (up b i) M ((idx 0 rs []).map fun p => (p.1, f p.2)) = appL (asM b M ((idx 0 rs []).map fun p => (p.1, f p.2))) (f p) := by
        intro β f M hx
        refine asM_up L_sorted (L_mem.2 ⟨p, hp, rfl⟩) fun j v x hj hij h1 h2 => ?_
        obtain ⟨q, hq, rfl⟩ := L_mem.1 hj
        have h3 := (okDraw_pair hok hij hp hq).1
        rw [hx j q x hq hij h1 h2] at h3
        exact hpost j (hlt j q hq) (h3.resolve_right (by simp))
      refine hK _ _ ⟨ι', ?_⟩
      have e1 : asM (up b i) T0 (LT rs) = putD (asM b T0 (LT rs)) p.1.dst p.2.v := by
        rw [putD_eq]
        exact hup wT T0 fun j q x hq hij h1 h2 => by
          unfold apart
          rw [show inter (keys (wT p)) (rdT ops q.1 ++ keys (wT q)) = true from List.any_eq_true.2 ⟨x, h1, by simp [h2]⟩]
          rfl
      have e2 : asM (up b i) H0 (LH rs) = appL (asM b H0 (LH rs)) p.2.hs := hup wH H0 fun j q x hq hij h1 h2 => by
        unfold apart
        rw [show inter (keys p.2.hs) (q.2.rd ++ keys q.2.hs) = true from List.any_eq_true.2 ⟨x, h1, by simp; exact .inr h2⟩]
        simp
      rw [e1, e2]
      exact hr'
  · rintro b a w hb ⟨ι, hr⟩
    refine hQ ι a w ?_
    have hfin : ∀ {β : Type} (f : Oper × Rec → List (Nat × Option β)) (M : Nat → Option β), asM b M ((idx 0 rs []).map fun p => (p.1, f p.2)) = asM (fun j => decide (j < rs.length)) M ((idx 0 rs []).map fun p => (p.1, f p.2)) := by
      intro β f M
      funext x
      refine asM_agree fun j v hj _ => ?_
      obtain ⟨q, hq, rfl⟩ := L_mem.1 hj
      have h := hlt j q hq
      rw [hb j (by simp; omega), decide_eq_true h]
    rw [hT', hH']
    rw [show asM b T0 (LT rs) = asM (fun j => decide (j < rs.length)) T0 (LT rs) from hfin wT T0, show asM b H0 (LH rs) = asM (fun j => decide (j < rs.length)) H0 (LH rs) from hfin wH H0] at hr
    exact hr
end Go.Proofs.Ytggmeldoecnkaaa.Av
