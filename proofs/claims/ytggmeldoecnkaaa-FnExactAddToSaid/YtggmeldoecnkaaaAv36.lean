/-
slices.Insert of one element into a nest.
Conditions: none beside those that each theorem names.
-/
import Derived.Test.YtggmeldoecnkaaaAv35
import Derived.Test.YtggmeldoecnkaaaAv25
set_option linter.unusedVariables false
set_option linter.unusedSimpArgs false
namespace Go.Proofs.Ytggmeldoecnkaaa.Av
open Go.RowKit

theorem ins_src {wd : Nat} {rows : List (List D)} {r : List D} {xs news : List Value} {i : Nat} (hi : i ≤ rows.length) (hxl : xs.length = rows.length * wd) (hnl : news.length = wd) (hr : r.length = wd) (hrows : ∀ r, r ∈ rows → r.length = wd) :
    ∀ (m : Nat) (q : List D) (j : Nat) (d : D), (rows.take i ++ r :: rows.drop i)[m]? = some q → q[j]? = some d → (∃ m0, rows[m0]? = some q ∧ (m < i ∧ m0 = m ∨ i < m ∧ m0 + 1 = m) ∧ (xs.take (i * wd) ++ news ++ xs.drop (i * wd))[m * wd + j]? = xs[m0 * wd + j]?) ∨
      m = i ∧ q = r ∧ (xs.take (i * wd) ++ news ++ xs.drop (i * wd))[m * wd + j]? = news[j]? := by
  intro m q j d hm hj
  have htl : (rows.take i).length = i := by rw [List.length_take]; omega
  have hiw : i * wd ≤ rows.length * wd := Nat.mul_le_mul_right _ hi
  have hxt : (xs.take (i * wd)).length = i * wd := by rw [List.length_take]; omega
  rcases Nat.lt_or_ge m i with h | h
  · rw [List.getElem?_append_left (by omega), List.getElem?_take, if_pos h] at hm
    have hjl : j < wd := by have := (List.getElem?_eq_some_iff.1 hj).1; have := hrows q (List.mem_of_getElem? hm); omega
    have : (m + 1) * wd ≤ i * wd := Nat.mul_le_mul_right _ h
    rw [Nat.add_mul, Nat.one_mul] at this
    refine .inl ⟨m, hm, .inl ⟨h, rfl⟩, ?_⟩
    rw [List.append_assoc, List.getElem?_append_left (by omega), List.getElem?_take, if_pos (by omega)]
  · rw [List.getElem?_append_right (by omega), htl] at hm
    rcases Nat.lt_or_ge i m with h2 | h2
    · obtain ⟨m', rfl⟩ : ∃ m', m = i + (m' + 1) := ⟨m - i - 1, by omega⟩
      rw [Nat.add_sub_cancel_left, List.getElem?_cons_succ, List.getElem?_drop] at hm
      refine .inl ⟨i + m', hm, .inr ⟨h2, by omega⟩, ?_⟩
      have e : (i + (m' + 1)) * wd = i * wd + m' * wd + wd := by rw [Nat.add_mul, Nat.add_mul, Nat.one_mul, Nat.add_assoc]
      have e2 : (i + m') * wd = i * wd + m' * wd := Nat.add_mul ..
      rw [List.getElem?_append_right (by rw [List.length_append, hxt, hnl]; omega), List.length_append, hxt, hnl, List.getElem?_drop, show i * wd + ((i + (m' + 1)) * wd + j - (i * wd + wd)) = (i + m') * wd + j by omega]
    · obtain rfl : m = i := by omega
      rw [Nat.sub_self, List.getElem?_cons_zero] at hm
      cases hm
      have hjl : j < wd := by have := (List.getElem?_eq_some_iff.1 hj).1; omega
      refine .inr ⟨rfl, rfl, ?_⟩
      rw [List.append_assoc, List.getElem?_append_right (by omega), hxt, List.getElem?_append_left (by omega), Nat.add_sub_cancel_left]
theorem own_nB {g : Env} {ι : Nm} {H : Hp} {w : World} {b wd ty : Nat} {co : List (Nat × Nat × TypeId)} {rows : List (List D)} (hb : H b = some (.nst wd ty co rows [])) (hbr : BR g ι H w (ι b) (.nst wd ty co rows [])) {v : Value} (hv : CR g ι H w (.ref b) v) :
    ∃ (xs : List Value) (k0 : Nat) (c0 : Cp), w.ownsRow 0 ty wd v rows.length xs ∧ (∀ k, v.ownBlock = some k → k = k0 ∧ g.fr k ∧ ι b = some (k0, c0)) ∧ (∀ k', c0.m k' → k' < w.heap.size ∧ ι b = some (k0, c0)) ∧ (∀ r, r ∈ rows → r.length = wd) ∧
      (∀ (i : Nat) (r : List D) (j : Nat) (d : D), rows[i]? = some r → r[j]? = some d → ∃ u, xs[i * wd + j]? = some u ∧ ND g w k0 c0 co j d u) ∧
      ∀ (i j i' j' : Nat) (r r' : List D) (q q' : List (List D)) (k' n n' z z' : Nat), rows[i]? = some r → r[j]? = some (.sl q) → rows[i']? = some r' → r'[j']? = some (.sl q') → xs[i * wd + j]? = some (.slice (some ⟨k', 0, none⟩) n z) → xs[i' * wd + j']? = some (.slice (some ⟨k', 0, none⟩) n' z') → i = i' ∧ j = j' := by
  obtain ⟨wd', n, hsh, href⟩ := hv _ hb
  simp only [Blk.shape, Prod.mk.injEq, true_and] at hsh
  obtain ⟨rfl, rfl⟩ := hsh
  have hw : ∀ r, r ∈ rows → r.length = wd := fun r hr => by obtain ⟨i, hi⟩ := List.mem_iff_getElem?.1 hr; exact hbr.2.1 i r hi
  cases hi : ι b with
  | none =>
    rw [hi] at href hbr
    obtain ⟨_, _, rfl⟩ := hbr
    rw [href.2]
    exact ⟨[], 0, cp 0, World.ownsRow_nil w 0 ty wd, (fun k hk => by cases hk), (fun k hk => hk.elim), hw, (fun i r j d hi => by cases hi), fun i j i' j' r r' q q' k' n n' z z' hi => by cases hi⟩
  | some x =>
    obtain ⟨k, cc⟩ := x
    rw [hi] at href hbr
    have href : v = .slice (some ⟨k, 0, none⟩) rows.length cc := href
    subst href
    obtain ⟨_, _, cs, hh, h1, h2, h3, h4, h5, h6, h7⟩ := hbr
    have hle : rows.length * wd ≤ cs.size := by rw [h3]; exact Nat.mul_le_mul_right _ h1
    have get : ∀ (i : Nat) (r : List D) (j : Nat) (d : D), rows[i]? = some r → r[j]? = some d → (cs.toList.take (rows.length * wd))[i * wd + j]? = cs[i * wd + j]? := fun i r j d hi' hj => by
      have hil : i < rows.length := (List.getElem?_eq_some_iff.1 hi').1
      have hjl : j < wd := by have := (List.getElem?_eq_some_iff.1 hj).1; have := hw r (List.mem_of_getElem? hi'); omega
      have : (i + 1) * wd ≤ rows.length * wd := Nat.mul_le_mul_right _ hil
      rw [Nat.add_mul, Nat.one_mul] at this
      rw [List.getElem?_take, if_pos (by omega)]
      simp
    refine ⟨cs.toList.take (rows.length * wd), k, cc, ⟨(List.length_take ..).trans (Nat.min_eq_left (by rw [show cs.toList.length = cs.size from Array.length_toList]; exact hle)), .inr ⟨k, cc, cs, rfl, Nat.zero_le _, hh, h1, h2, h3, rfl⟩⟩, (fun k' hk' => by cases hk'; exact ⟨rfl, h4, rfl⟩), (fun k' hk' => ⟨h5 k' hk', rfl⟩), hw, (fun i r j d hi' hj => ?_), fun i j i' j' r r' q q' k' n n' z z' a1 a2 b1 b2 v1 v2 => ?_⟩
    · obtain ⟨u, hu, ht⟩ := h6 i r j d hi' hj
      exact ⟨u, (get i r j d hi' hj).trans hu, ht⟩
    · exact h7 i j i' j' r r' q q' k' n n' z z' a1 a2 rfl b1 b2 rfl ((get i r j _ a1 a2).symm.trans v1) ((get i' r' j' _ b1 b2).symm.trans v2)
theorem ones {g : Env} {w : World} {wd k0 : Nat} {c0 : Cp} {co : List (Nat × Nat × TypeId)} {rows : List (List D)} {xs : List Value} (hwd : 0 < wd) (hl : xs.length = rows.length * wd) (hr : ∀ r, r ∈ rows → r.length = wd) (h : ∀ (i : Nat) (r : List D) (j : Nat) (d : D), rows[i]? = some r → r[j]? = some d → ∃ u, xs[i * wd + j]? = some u ∧ ND g w k0 c0 co j d u) : ∀ u ∈ xs, u.oneCell' = true := fun u hu => by
  obtain ⟨m, hm⟩ := List.mem_iff_getElem?.1 hu
  have hml : m < rows.length * wd := by have := (List.getElem?_eq_some_iff.1 hm).1; omega
  have hq : m / wd < rows.length := (Nat.div_lt_iff_lt_mul hwd).2 hml
  have e1 := List.getElem?_eq_getElem hq
  have e2 : m % wd < (rows[m / wd]).length := by rw [hr _ (List.mem_of_getElem? e1)]; exact Nat.mod_lt _ hwd
  obtain ⟨u', f1, f2⟩ := h _ _ _ _ e1 (List.getElem?_eq_getElem e2)
  rw [show m / wd * wd + m % wd = m by rw [Nat.mul_comm]; exact Nat.div_add_mod m wd, hm] at f1
  cases f1
  exact f2.one
theorem fn_insN {P : Program} {f : FuncId} {E : TypeId} {wd bys : Nat} {co : List (Nat × Nat × TypeId)} (h : InsP P f E wd bys) (hwd : 0 < wd) {rows : List (List D)} {r : List D} {i : Nat} (hi : i ≤ rows.length) (hr : r.length = wd) (hbig : (rows.length + 1) * bys ≤ 140737488355328) :
    Fn P f [.e (.c (.ref 0)), .e (.c (.d (.v (.int .i64 i)))), .e (.c (.ref 1))] (lookH [(0, some (.nst wd E co rows [])), (1, some (.nst wd E co [r] []))]) (.e (.c (.ref 64))) (lookH [(64, some (.nst wd E co (rows.take i ++ r :: rows.drop i) []))]) := by
  intro κ fr w ι vs hfr hbl hinj hsz hargs
  have hb0 := hbl 0 _ rfl
  have hb1 := hbl 1 _ rfl
  obtain ⟨v0, hv0, hr0⟩ := hargs 0 _ rfl
  obtain ⟨v1, hv1, hr1⟩ := hargs 1 _ rfl
  obtain ⟨v2, hv2, hr2⟩ := hargs 2 _ rfl
  have hvs : vs = #[v0, v1, v2] := by
    apply Array.ext_getElem?
    intro j
    match j with
    | 0 => exact hv0
    | 1 => exact hv1
    | 2 => exact hv2
    | j + 3 => rw [Array.getElem?_eq_none (by rw [hsz]; simp), Array.getElem?_eq_none (by simp)]
  have hr1 : v1 = .int .i64 i := (TR.flatv hr1 rfl).1
  subst hvs hr1
  obtain ⟨xs, k0, c0, o1, o2, o3, o4, o5, o6⟩ := own_nB (b := 0) rfl hb0 hr0
  obtain ⟨news, k2, c2, p1, p2, p3, p4, p5, p6⟩ := own_nB (b := 1) rfl hb1 hr2
  have hxl : xs.length = rows.length * wd := o1.1
  have hnl : news.length = wd := by rw [p1.1]; simp
  have hx1 := ones hwd hxl o4 o5
  have hn1 := ones hwd p1.1 p4 p5
  obtain ⟨vcur, cap, hvv, hv, n2⟩ : ∃ (vcur : Array Value) (cap : Nat), v2 = .slice (some ⟨k2, 0, none⟩) 1 cap ∧ w.heap[k2]? = some (.cells vcur E (0, 0)) ∧ ∀ j u, news[j]? = some u → w.cell? ((⟨k2, 0, none⟩ : Addr).add j) = some u := by
    rcases p1.2 with ⟨_, e⟩ | ⟨k, cc, cs, e1, _, e2, e3, e4, e5, e6⟩
    · cases e
    · obtain ⟨rfl, _, _⟩ := p2 k (by rw [e1]; rfl)
      refine ⟨cs, cc, e1, e2, fun m u hm => ?_⟩
      rw [← e6, List.getElem?_take] at hm
      split at hm
      · have hm : cs[m]? = some u := by simpa using hm
        rw [Addr.add_lit, Nat.zero_add]
        exact cell_in e2 hm
      · cases hm
  subst hvv
  have hk2 : ι 1 = some (k2, c2) := (p2 k2 rfl).2.2
  have hne : v0.ownBlock ≠ some k2 := fun e => by
    obtain ⟨e1, _, e2⟩ := o2 k2 e
    subst e1
    have := hinj 0 1 _ _ _ _ k2 rfl rfl e2 hk2 (.inl rfl) (.inl rfl)
    omega
  refine (h w v0 rows.length i k2 0 cap xs news vcur E (0, 0) o1 hi hbig hx1 hv hne hnl n2 hn1).mono fun e w' ⟨v', hv', ho, hg, hat⟩ => ?_
  -- behind
  let m' : Nat → Prop := fun x => c0.m x ∨ c2.m x
  obtain ⟨k, cc, cs, e1, e2, e3, e4, e5, e6⟩ : ∃ (k cc : Nat) (cs : Array Value), v' = .slice (some ⟨k, 0, none⟩) (rows.length + 1) cc ∧ w'.heap[k]? = some (.cells cs E (0, 0)) ∧ rows.length + 1 ≤ cc ∧ cc ≤ maxLen ∧ cs.size = cc * wd ∧ cs.toList.take ((rows.length + 1) * wd) = xs.take (i * wd) ++ news ++ xs.drop (i * wd) := by
    rcases ho.2 with ⟨e1, e2⟩ | ⟨k, cc, cs, e1, _, e2, e3, e4, e5, e6⟩
    · omega
    · exact ⟨k, cc, cs, e1, e2, e3, e4, e5, e6⟩
  have hk' : v0.ownBlock = some k ∨ k = w.heap.size := by
    rcases hat with e | e
    · left; rw [← e, e1]; rfl
    · right; rw [e1] at e; cases e; rfl
  have own0 : ∀ k', c0.m k' → OwnN ι (lookH [(0, some (.nst wd E co rows [])), (1, some (.nst wd E co [r] []))]) k' := fun k' hk => ⟨0, _, _, rfl, (o3 k' hk).2, .inr ⟨rfl, hk⟩⟩
  have own2 : ∀ k', c2.m k' → OwnN ι (lookH [(0, some (.nst wd E co rows [])), (1, some (.nst wd E co [r] []))]) k' := fun k' hk => ⟨1, _, _, rfl, (p3 k' hk).2, .inr ⟨rfl, hk⟩⟩
  have ownv : ∀ k', v0.ownBlock = some k' → OwnN ι (lookH [(0, some (.nst wd E co rows [])), (1, some (.nst wd E co [r] []))]) k' := fun k' hk => by
    obtain ⟨rfl, _, e⟩ := o2 k' hk
    exact ⟨0, _, _, rfl, e, .inl rfl⟩
  have disj : ∀ k', c0.m k' → ¬ c2.m k' := fun k' h1 h2 => by
    have := hinj 0 1 _ _ _ _ k' rfl rfl (o3 k' h1).2 (p3 k' h2).2 (.inr ⟨rfl, h1⟩) (.inr ⟨rfl, h2⟩)
    omega
  have stay : ∀ k', (c0.m k' ∧ k' ≠ k0 ∨ c2.m k') → w'.heap[k']? = w.heap[k']? ∧ k' ≠ k := fun k' hk => by
    have h1 : v0.ownBlock ≠ some k' ∧ k' < w.heap.size := by
      rcases hk with ⟨hk, hn⟩ | hk
      · exact ⟨fun e => hn (o2 k' e).1, (o3 k' hk).1⟩
      · refine ⟨fun e => ?_, (p3 k' hk).1⟩
        obtain ⟨rfl, _, e⟩ := o2 k' e
        have := hinj 0 1 _ _ _ _ k' rfl rfl e (p3 k' hk).2 (.inl rfl) (.inr ⟨rfl, hk⟩)
        omega
    refine ⟨hg.block k' h1.2 (fun e => h1.1 e.symm), fun e => ?_⟩
    subst e
    rcases hk' with e | e
    · exact h1.1 e
    · omega
  refine ⟨v', fun b => if b = 64 then some (k, ⟨cc, m'⟩) else ι b, hv', ?_, fun b B hB => ?_, fun b b' B B' x x' k h1 h2 _ _ _ _ => ?_, fun k1 ⟨b, B, x, hB, hi1, ho1⟩ => ?_, fun b hb => congrArg key (if_neg (by omega)), ?_⟩
  · exact ⟨hg.os, hg.tape, hg.output, hg.size, fun m hm hn => hg.block m hm fun e => hn (ownv m e.symm)⟩
  · obtain rfl : b = 64 := lookH_one hB
    cases hB
    have hlen : (rows.take i ++ r :: rows.drop i).length = rows.length + 1 := by simp; omega
    have hrl : ∀ q, q ∈ (rows.take i ++ r :: rows.drop i) → q.length = wd := fun q hq => by
      rcases List.mem_append.1 hq with h1 | h1
      · exact o4 q (List.mem_of_mem_take h1)
      · rcases List.mem_cons.1 h1 with h1 | h1
        · rw [h1]; exact hr
        · exact o4 q (List.mem_of_mem_drop h1)
    have get : ∀ m q j d, (rows.take i ++ r :: rows.drop i)[m]? = some q → q[j]? = some d → cs[m * wd + j]? = (xs.take (i * wd) ++ news ++ xs.drop (i * wd))[m * wd + j]? := fun m q j d hm hj => by
      have hil : m < rows.length + 1 := by have := (List.getElem?_eq_some_iff.1 hm).1; omega
      have hjl : j < wd := by have := (List.getElem?_eq_some_iff.1 hj).1; have := hrl q (List.mem_of_getElem? hm); omega
      have : (m + 1) * wd ≤ (rows.length + 1) * wd := Nat.mul_le_mul_right _ hil
      rw [Nat.add_mul m, Nat.one_mul] at this
      rw [← e6, List.getElem?_take, if_pos (by omega)]
      simp
    have cell : ∀ m q j d, (rows.take i ++ r :: rows.drop i)[m]? = some q → q[j]? = some d → (∃ m0 u, rows[m0]? = some q ∧ (m < i ∧ m0 = m ∨ i < m ∧ m0 + 1 = m) ∧ xs[m0 * wd + j]? = some u ∧ cs[m * wd + j]? = some u ∧ ND ⟨κ, fr⟩ w k0 c0 co j d u) ∨ ∃ u, m = i ∧ q = r ∧ news[0 * wd + j]? = some u ∧ cs[m * wd + j]? = some u ∧ ND ⟨κ, fr⟩ w k2 c2 co j d u := fun m q j d hm hj => by
      rcases ins_src hi hxl hnl hr o4 m q j d hm hj with ⟨m0, f1, f2, f3⟩ | ⟨rfl, rfl, f3⟩
      · obtain ⟨u, g1, g2⟩ := o5 m0 q j d f1 hj
        exact .inl ⟨m0, u, f1, f2, g1, (get m q j d hm hj).trans (f3.trans g1), g2⟩
      · obtain ⟨u, g1, g2⟩ := p5 0 q j d rfl hj
        exact .inr ⟨u, rfl, rfl, g1, (get m q j d hm hj).trans (f3.trans (by simpa using g1)), g2⟩
    refine ⟨hwd, fun m q hm => hrl q (List.mem_of_getElem? hm), ?_⟩
    simp only [if_true]
    refine ⟨cs, e2, (by rw [hlen]; exact e3), e4, e5, ?_, fun k' hk => ?_, fun m q j d hm hj => ?_, fun i1 j1 i2 j2 r1 r2 q1 q2 k' n n' z z' a1 a2 _ b1 b2 _ v1 v2 => ?_⟩
    · rcases hk' with e | e
      · exact (o2 k e).2.1
      · exact hfr k (by omega)
    · exact Nat.lt_of_lt_of_le (hk.elim (fun h => (o3 k' h).1) fun h => (p3 k' h).1) hg.size
    · rcases cell m q j d hm hj with ⟨m0, u, _, _, _, u2, ht⟩ | ⟨u, _, _, _, u2, ht⟩
      · exact ⟨u, u2, ND.to ht fun k' hk1 hk2 => let ⟨s1, s2⟩ := stay k' (.inl ⟨hk1, hk2⟩); ⟨.inl hk1, s2, s1⟩⟩
      · exact ⟨u, u2, ND.to ht fun k' hk1 _ => let ⟨s1, s2⟩ := stay k' (.inr hk1); ⟨.inr hk1, s2, s1⟩⟩
    · rcases cell i1 r1 j1 _ a1 a2 with ⟨m1, u1, f1, f2, f3, f4, t1⟩ | ⟨u1, f1, f2, f3, f4, t1⟩ <;> rcases cell i2 r2 j2 _ b1 b2 with ⟨m2, u2, g1, g2, g3, g4, t2⟩ | ⟨u2, g1, g2, g3, g4, t2⟩ <;> (rw [v1] at f4; rw [v2] at g4; cases f4; cases g4)
      · obtain ⟨y1, y2⟩ := o6 m1 j1 m2 j2 r1 r2 q1 q2 k' n n' z z' f1 a2 g1 b2 f3 g3
        exact ⟨by omega, y2⟩
      · exact absurd t2.at_.1 (disj k' t1.at_.1)
      · exact absurd t1.at_.1 (disj k' t2.at_.1)
      · subst f1 f2 g1 g2
        obtain ⟨_, y2⟩ := p6 0 j1 0 j2 _ _ q1 q2 k' n n' z z' rfl a2 rfl b2 f3 g3
        exact ⟨rfl, y2⟩
  · exact (lookH_one h1).trans (lookH_one h2).symm
  · obtain rfl : b = 64 := lookH_one hB
    cases hB
    simp only [if_true] at hi1
    cases hi1
    rcases ho1 with ho1 | ⟨_, ho1⟩
    · simp only at ho1
      subst ho1
      rcases hk' with e | e
      · exact .inr (ownv _ e)
      · exact .inl (by omega)
    · exact .inr (ho1.elim (own0 k1) (own2 k1))
  · intro B hB
    cases hB
    refine ⟨wd, _, rfl, ?_⟩
    simp only [if_true]
    have hlen : (rows.take i ++ r :: rows.drop i).length = rows.length + 1 := by simp; omega
    rw [hlen]
    exact e1
end Go.Proofs.Ytggmeldoecnkaaa.Av
