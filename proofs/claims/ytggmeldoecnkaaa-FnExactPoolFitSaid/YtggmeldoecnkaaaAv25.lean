/-
slices.Insert of one element, told as a function over rows.
Conditions: none beside those that each theorem names.
-/
import Derived.Test.YtggmeldoecnkaaaAv24
set_option linter.unusedVariables false
set_option linter.unusedSimpArgs false
namespace Go.Proofs.Ytggmeldoecnkaaa.Av
open Go.RowKit

theorem lookH_one {k b : Nat} {B B' : Blk} (h : lookH [(k, some B)] b = some B') : b = k := by
  have := lookH_mem h
  simp at this
  exact this.1
theorem ins_get {wd : Nat} (hwd : 0 < wd) {rows : List (List D)} {r : List D} {xs news : List Value} {i : Nat} (hi : i ≤ rows.length) (hxl : xs.length = rows.length * wd) (hnl : news.length = wd) (hr : r.length = wd) (hrows : ∀ r, r ∈ rows → r.length = wd) {p : D → Value → Prop}
    (h5 : ∀ (m : Nat) (q : List D) (j : Nat) (d : D), rows[m]? = some q → q[j]? = some d → ∃ u, xs[m * wd + j]? = some u ∧ p d u) (h6 : ∀ (j : Nat) (d : D), r[j]? = some d → ∃ u, news[j]? = some u ∧ p d u) :
    ∀ (m : Nat) (q : List D) (j : Nat) (d : D), (rows.take i ++ r :: rows.drop i)[m]? = some q → q[j]? = some d → ∃ u, (xs.take (i * wd) ++ news ++ xs.drop (i * wd))[m * wd + j]? = some u ∧ p d u := by
  intro m q j d hm hj
  have htl : (rows.take i).length = i := by rw [List.length_take]; omega
  have hiw : i * wd ≤ rows.length * wd := Nat.mul_le_mul_right _ hi
  have hxt : (xs.take (i * wd)).length = i * wd := by rw [List.length_take]; omega
  rcases Nat.lt_or_ge m i with h | h
  · rw [List.getElem?_append_left (by omega), List.getElem?_take, if_pos h] at hm
    obtain ⟨u, hu, hp⟩ := h5 m q j d hm hj
    have hjl : j < wd := by have := (List.getElem?_eq_some_iff.1 hj).1; have := hrows q (List.mem_of_getElem? hm); omega
    have : (m + 1) * wd ≤ i * wd := Nat.mul_le_mul_right _ h
    rw [Nat.add_mul, Nat.one_mul] at this
    refine ⟨u, ?_, hp⟩
    rw [List.append_assoc, List.getElem?_append_left (by omega), List.getElem?_take, if_pos (by omega)]
    exact hu
  · rw [List.getElem?_append_right (by omega), htl] at hm
    rcases Nat.lt_or_ge i m with h2 | h2
    · obtain ⟨m', rfl⟩ : ∃ m', m = i + (m' + 1) := ⟨m - i - 1, by omega⟩
      rw [Nat.add_sub_cancel_left, List.getElem?_cons_succ, List.getElem?_drop] at hm
      obtain ⟨u, hu, hp⟩ := h5 (i + m') q j d hm hj
      refine ⟨u, ?_, hp⟩
      have e : (i + (m' + 1)) * wd = i * wd + m' * wd + wd := by rw [Nat.add_mul, Nat.add_mul, Nat.one_mul, Nat.add_assoc]
      have e2 : (i + m') * wd = i * wd + m' * wd := Nat.add_mul ..
      rw [List.getElem?_append_right (by rw [List.length_append, hxt, hnl]; omega), List.length_append, hxt, hnl, List.getElem?_drop, show i * wd + ((i + (m' + 1)) * wd + j - (i * wd + wd)) = (i + m') * wd + j by omega]
      exact hu
    · obtain rfl : m = i := by omega
      rw [Nat.sub_self, List.getElem?_cons_zero] at hm
      cases hm
      obtain ⟨u, hu, hp⟩ := h6 j d hj
      have hjl : j < wd := by have := (List.getElem?_eq_some_iff.1 hj).1; omega
      refine ⟨u, ?_, hp⟩
      rw [List.append_assoc, List.getElem?_append_right (by omega), hxt, List.getElem?_append_left (by omega), Nat.add_sub_cancel_left]
      exact hu
theorem fn_ins {P : Program} {f : FuncId} {E : TypeId} {wd bys : Nat} (h : InsP P f E wd bys) (hwd : 0 < wd) {rows : List (List D)} {r : List D} {i : Nat} {nf nf2 : Bool} (hi : i ≤ rows.length) (hr : r.length = wd) (hbig : (rows.length + 1) * bys ≤ 140737488355328) :
    Fn P f [.e (.c (.ref 0)), .e (.c (.d (.v (.int .i64 i)))), .e (.c (.ref 1))] (lookH [(0, some (.row wd E rows false nf)), (1, some (.row wd E [r] false nf2))]) (.e (.c (.ref 64))) (lookH [(64, some (.row wd E (rows.take i ++ r :: rows.drop i) false (nf && nf2)))]) := by
  intro κ fr w ι vs hfr hbl hinj hsz hargs
  have hb0 := hbl 0 _ rfl
  obtain ⟨v0, hv0, hr0⟩ := hargs 0 _ rfl
  obtain ⟨v1, hv1, hr1⟩ := hargs 1 _ rfl
  obtain ⟨v2, hv2, hr2⟩ := hargs 2 _ rfl
  have hvs : vs = #[v0, v1, v2] := by
    apply Array.ext_getElem?
    intro j
    match j with
    | 0 => exact hv0
    | 1 => exact hv1
    | 2 => exact hv2
    | j + 3 =>
      have : vs.size = 3 := hsz
      rw [Array.getElem?_eq_none (by omega)]
      rfl
  subst hvs
  have hr1 : TR w (OkF ⟨κ, fr⟩ false ι _ w) (.v (.int .i64 i)) v1 := hr1
  obtain rfl : v1 = .int .i64 i := by cases hr1; rfl
  have hrows : ∀ q, q ∈ rows → q.length = wd := fun q hq => by obtain ⟨m, hm⟩ := List.mem_iff_getElem?.1 hq; exact hb0.2.1 m q hm
  obtain ⟨wd', n', hsh, href⟩ := hr0 _ rfl
  simp only [Blk.shape, Prod.mk.injEq, true_and] at hsh
  obtain ⟨rfl, rfl⟩ := hsh
  -- the row of the call's own
  obtain ⟨xs, o1, o2, o4, o5⟩ : ∃ xs : List Value, w.ownsRow 0 E wd v0 rows.length xs ∧ (∀ k, v0.ownBlock = some k → ∃ cc, ι 0 = some (k, cc)) ∧ (∀ k, v0.ownBlock = some k → nf = true → fr k) ∧
      ∀ (m : Nat) (q : List D) (j : Nat) (d : D), rows[m]? = some q → q[j]? = some d → ∃ u, xs[m * wd + j]? = some u ∧ TR w (OkF ⟨κ, fr⟩ nf ι (lookH [(0, some (.row wd E rows false nf)), (1, some (.row wd E [r] false nf2))]) w) d u := by
    cases hi0 : ι 0 with
    | none =>
      rw [hi0] at href hb0
      obtain ⟨_, _, rfl⟩ := hb0
      rw [href.2]
      exact ⟨[], World.ownsRow_nil w 0 E wd, (fun k hk => by cases hk), (fun k hk => by cases hk), fun i r j d hi => by cases hi⟩
    | some q =>
      obtain ⟨k, cc⟩ := q
      rw [hi0] at href hb0
      have href : v0 = .slice (some ⟨k, 0, none⟩) rows.length cc := href
      subst href
      obtain ⟨_, _, cs, hh, h1, h2, h3, h4, h5⟩ := hb0
      have hle : rows.length * wd ≤ cs.size := by rw [h3]; exact Nat.mul_le_mul_right _ h1
      refine ⟨cs.toList.take (rows.length * wd), ⟨(List.length_take ..).trans (Nat.min_eq_left (by rw [show cs.toList.length = cs.size from Array.length_toList]; exact hle)), .inr ⟨k, cc, cs, rfl, Nat.zero_le _, hh, h1, h2, h3, rfl⟩⟩, (fun k' hk' => by cases hk'; exact ⟨cc, rfl⟩), (fun k' hk' hn => by cases hk'; exact h4 hn), fun i r j d hi' hj => ?_⟩
      obtain ⟨u, hu, ht⟩ := h5 i r j d hi' hj
      refine ⟨u, ?_, ht⟩
      have hil : i < rows.length := (List.getElem?_eq_some_iff.1 hi').1
      have hjl : j < wd := by have := (List.getElem?_eq_some_iff.1 hj).1; have := hrows r (List.mem_of_getElem? hi'); omega
      have : (i + 1) * wd ≤ rows.length * wd := Nat.mul_le_mul_right _ hil
      rw [Nat.add_mul, Nat.one_mul] at this
      rw [List.getElem?_take, if_pos (by omega)]
      simpa using hu
  have hxl : xs.length = rows.length * wd := o1.1
  have hx1 : ∀ u ∈ xs, u.oneCell' = true := fun u hu => by
    obtain ⟨m, hm⟩ := List.mem_iff_getElem?.1 hu
    have hml : m < rows.length * wd := by have := (List.getElem?_eq_some_iff.1 hm).1; omega
    have hq : m / wd < rows.length := (Nat.div_lt_iff_lt_mul hwd).2 hml
    have h1 := List.getElem?_eq_getElem hq
    have h2 : m % wd < (rows[m / wd]).length := by rw [hrows _ (List.mem_of_getElem? h1)]; exact Nat.mod_lt _ hwd
    obtain ⟨u', e1, e2⟩ := o5 _ _ _ _ h1 (List.getElem?_eq_getElem h2)
    rw [show m / wd * wd + m % wd = m by rw [Nat.mul_comm]; exact Nat.div_add_mod m wd, hm] at e1
    cases e1
    exact e2.one
  -- what is put in
  have hb1 := hbl 1 _ rfl
  obtain ⟨wd', n', hsh, href2⟩ := hr2 _ rfl
  simp only [Blk.shape, Prod.mk.injEq, true_and] at hsh
  obtain ⟨rfl, rfl⟩ := hsh
  obtain ⟨k2, c2, vcur, news, rfl, hi2, hv, hnl, n2, n3, n4⟩ : ∃ (k2 : Nat) (c2 : Cp) (vcur : Array Value) (news : List Value), v2 = .slice (some ⟨k2, 0, none⟩) 1 c2 ∧ ι 1 = some (k2, c2) ∧ w.heap[k2]? = some (.cells vcur E (0, 0)) ∧ news.length = wd ∧ (∀ j u, news[j]? = some u → w.cell? ((⟨k2, 0, none⟩ : Addr).add j) = some u) ∧ (∀ u ∈ news, u.oneCell' = true) ∧
      ∀ (j : Nat) (d : D), r[j]? = some d → ∃ u, news[j]? = some u ∧ TR w (OkF ⟨κ, fr⟩ nf2 ι (lookH [(0, some (.row wd E rows false nf)), (1, some (.row wd E [r] false nf2))]) w) d u := by
    cases hi1 : ι 1 with
    | none =>
      rw [hi1] at hb1
      obtain ⟨_, _, hb1⟩ := hb1
      cases hb1
    | some q =>
      obtain ⟨k, cc⟩ := q
      rw [hi1] at href2 hb1
      have href : v2 = .slice (some ⟨k, 0, none⟩) 1 cc := href2
      subst href
      obtain ⟨_, _, cs, hh, h1, h2, h3, h4, h5⟩ := hb1
      have h1 : 1 ≤ cc.n := h1
      have hle : wd ≤ cs.size := by rw [h3]; exact Nat.le_mul_of_pos_left _ h1
      have g5 : ∀ (j : Nat) (d : D), r[j]? = some d → ∃ u, cs[j]? = some u ∧ TR w (OkF ⟨κ, fr⟩ nf2 ι (lookH [(0, some (.row wd E rows false nf)), (1, some (.row wd E [r] false nf2))]) w) d u := fun j d hj => by
        obtain ⟨u, hu, ht⟩ := h5 0 r j d rfl hj
        exact ⟨u, by simpa using hu, ht⟩
      have hlt : ∀ j d, r[j]? = some d → j < wd := fun j d hj => by have := (List.getElem?_eq_some_iff.1 hj).1; omega
      refine ⟨k, cc, cs, cs.toList.take wd, rfl, rfl, hh, by rw [List.length_take, Array.length_toList]; omega, fun j u hj => ?_, fun u hu => ?_, fun j d hj => ?_⟩
      · rw [Addr.add_lit, Nat.zero_add]
        rw [List.getElem?_take] at hj
        split at hj
        · have hj : cs[j]? = some u := by simpa using hj
          simp [World.cell?, hh, hj]
        · cases hj
      · obtain ⟨j, hj⟩ := List.mem_iff_getElem?.1 hu
        have hjl : j < wd := by have := (List.getElem?_eq_some_iff.1 hj).1; simp at this; omega
        obtain ⟨u', e1, e2⟩ := g5 j _ (List.getElem?_eq_getElem (show j < r.length by omega))
        rw [List.getElem?_take, if_pos hjl] at hj
        have hj : cs[j]? = some u := by simpa using hj
        rw [hj] at e1
        cases e1
        exact e2.one
      · obtain ⟨u, e1, e2⟩ := g5 j d hj
        exact ⟨u, by rw [List.getElem?_take, if_pos (hlt j d hj)]; simpa using e1, e2⟩
  have hne : v0.ownBlock ≠ some k2 := fun e => by
    obtain ⟨cc, e1⟩ := o2 k2 e
    have := hinj 0 1 _ _ _ _ k2 rfl rfl e1 hi2 (.inl rfl) (.inl rfl)
    omega
  refine (h w v0 rows.length i k2 0 c2 xs news vcur E (0, 0) o1 hi hbig hx1 hv hne hnl n2 n3).mono fun e w' ⟨v', hv', ho, hg, hat⟩ => ?_
  -- behind
  obtain ⟨g, hgv, hgk, hgb⟩ : ∃ g : Option (Nat × Cp), RefV (key g) (rows.length + 1) v' ∧ (∀ k cc, g = some (k, cc) → v'.ownBlock = some k) ∧
      (match g with
        | none => False
        | some (k, cc) => ∃ cs, w'.heap[k]? = some (.cells cs E (0, 0)) ∧ rows.length + 1 ≤ cc.n ∧ cc.n ≤ maxLen ∧ cs.size = cc.n * wd ∧ cs.toList.take ((rows.length + 1) * wd) = xs.take (i * wd) ++ news ++ xs.drop (i * wd)) := by
    rcases ho.2 with ⟨e1, e2⟩ | ⟨k, cc, cs, e1, _, e2, e3, e4, e5, e6⟩
    · omega
    · exact ⟨some (k, cp cc), e1, (fun k' cc' h => by cases h; rw [e1]; rfl), cs, e2, e3, e4, e5, e6⟩
  cases g with
  | none => exact hgb.elim
  | some q =>
    obtain ⟨k, cc⟩ := q
    have hvk := hgk k cc rfl
    have hk' : v0.ownBlock = some k ∨ k = w.heap.size := by
      rcases hat with e | e
      · exact .inl (e ▸ hvk)
      · rw [e] at hvk; cases hvk; exact .inr rfl
    have hok : ∀ (b : Bool) (m : Nat), OkF ⟨κ, fr⟩ b ι (lookH [(0, some (.row wd E rows false nf)), (1, some (.row wd E [r] false nf2))]) w m → m ≠ k ∧ m < w.heap.size ∧ w'.heap[m]? = w.heap[m]? := fun b m hm => by
      have hnm : v0.ownBlock ≠ some m := fun e => by
        obtain ⟨cc, e1⟩ := o2 m e
        exact hm.1.ne rfl rfl e1
      refine ⟨fun e => ?_, hm.1.1, hg.block m hm.1.1 fun e => hnm e.symm⟩
      subst e
      rcases hk' with e | e
      · exact hnm e
      · have := hm.1.1; omega
    refine ⟨v', fun b => if b = 64 then some (k, cc) else ι b, hv', ?_, fun b B hB => ?_, fun b b' B B' k c c' h1 h2 _ _ _ _ => ?_, fun k1 ⟨b, B, c1, hB, hi1, ho1⟩ => ?_, fun b hb => congrArg key (if_neg (by omega)), ?_⟩
    · refine ⟨hg.os, hg.tape, hg.output, hg.size, fun m hm hn => hg.block m hm fun e => hn ?_⟩
      obtain ⟨cc, e1⟩ := o2 m e.symm
      exact ⟨0, _, _, rfl, e1, .inl rfl⟩
    · obtain rfl : b = 64 := lookH_one hB
      cases hB
      obtain ⟨cs, f1, f2, f3, f4, f5⟩ := hgb
      have hlen : (rows.take i ++ r :: rows.drop i).length = rows.length + 1 := by simp; omega
      refine ⟨hwd, fun m q hm => ?_, ?_⟩
      · rcases List.mem_append.1 (List.mem_of_getElem? hm) with h1 | h1
        · exact hrows q (List.mem_of_mem_take h1)
        · rcases List.mem_cons.1 h1 with h1 | h1
          · rw [h1]; exact hr
          · exact hrows q (List.mem_of_mem_drop h1)
      · simp only [if_true]
        refine ⟨cs, f1, by omega, f3, f4, fun hn => ?_, fun m q j d hm hj => ?_⟩
        · simp only [Bool.and_eq_true] at hn
          rcases hk' with e | e
          · exact o4 k e hn.1
          · exact hfr k (by omega)
        · have mv : ∀ (b : Bool) (d : D) (u : Value), ((nf && nf2) = true → b = true) → TR w (OkF ⟨κ, fr⟩ b ι (lookH [(0, some (.row wd E rows false nf)), (1, some (.row wd E [r] false nf2))]) w) d u → TR w' (OkF ⟨κ, fr⟩ (nf && nf2) (fun b => if b = 64 then some (k, cc) else ι b) (lookH [(64, some (.row wd E (rows.take i ++ r :: rows.drop i) false (nf && nf2)))]) w') d u := fun b d u hb ht => ht.move fun m hm => by
            obtain ⟨q1, q2, q3⟩ := hok b m hm
            refine ⟨⟨⟨Nat.lt_of_lt_of_le q2 hg.size, fun b' B' c' hB' _ hi' ho' => ?_⟩, fun hn => hm.2 (hb hn)⟩, q3⟩
            obtain rfl : b' = 64 := lookH_one hB'
            cases hB'
            simp only [if_true] at hi'
            cases hi'
            exact q1 (ho'.one rfl)
          obtain ⟨u, hu, hp⟩ := ins_get hwd hi hxl hnl hr hrows (p := fun d u => TR w' (OkF ⟨κ, fr⟩ (nf && nf2) (fun b => if b = 64 then some (k, cc) else ι b) (lookH [(64, some (.row wd E (rows.take i ++ r :: rows.drop i) false (nf && nf2)))]) w') d u)
            (fun m q j d h1 h2 => by obtain ⟨u, e1, e2⟩ := o5 m q j d h1 h2; exact ⟨u, e1, mv nf d u (fun hn => by simp only [Bool.and_eq_true] at hn; exact hn.1) e2⟩)
            (fun j d h1 => by obtain ⟨u, e1, e2⟩ := n4 j d h1; exact ⟨u, e1, mv nf2 d u (fun hn => by simp only [Bool.and_eq_true] at hn; exact hn.2) e2⟩) m q j d hm hj
          refine ⟨u, ?_, hp⟩
          have hil : m < rows.length + 1 := by have := (List.getElem?_eq_some_iff.1 hm).1; omega
          have hjl : j < wd := by
            have h0 := (List.getElem?_eq_some_iff.1 hj).1
            rcases List.mem_append.1 (List.mem_of_getElem? hm) with h1 | h1
            · have := hrows q (List.mem_of_mem_take h1); omega
            · rcases List.mem_cons.1 h1 with h1 | h1
              · rw [h1] at h0; omega
              · have := hrows q (List.mem_of_mem_drop h1); omega
          have : (m + 1) * wd ≤ (rows.length + 1) * wd := Nat.mul_le_mul_right _ hil
          rw [Nat.add_mul m, Nat.one_mul] at this
          rw [← f5, List.getElem?_take, if_pos (by omega)] at hu
          simpa using hu
    · exact (lookH_one h1).trans (lookH_one h2).symm
    · have e1 : b = 64 := lookH_one hB
      subst e1
      cases hB
      simp only [if_true] at hi1
      cases hi1
      obtain rfl : k1 = k := ho1.one rfl
      rcases hk' with e | e
      · obtain ⟨cc, e1⟩ := o2 k1 e
        exact .inr ⟨0, _, _, rfl, e1, .inl rfl⟩
      · exact .inl (by omega)
    · intro B hB
      cases hB
      refine ⟨wd, _, rfl, ?_⟩
      simp only [if_true]
      have hlen : (rows.take i ++ r :: rows.drop i).length = rows.length + 1 := by simp; omega
      rw [hlen]
      exact hgv
end Go.Proofs.Ytggmeldoecnkaaa.Av
